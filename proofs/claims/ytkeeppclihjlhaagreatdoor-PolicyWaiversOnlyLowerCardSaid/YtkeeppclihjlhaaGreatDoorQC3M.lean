/- Part of the proof: C3M. -/
import Derived.Test.YtkeeppclihjlhaaGreatDoorQC3T
namespace Go.Proofs.YtkeeppclihjlhaaGreatDoor
open Go Go.Pv
set_option linter.unusedVariables false
set_option maxRecDepth 100000
noncomputable section
def M40_L1 (R40 : TTest → Int → Option (Int × Int)) (F : Nat) (a2 : Int) (k4 : Int → Int → Option (Int × Int)) : List KRow → Int → Int → Option (Int × Int)
 | [], n10, n11 => k4 n10 n11
 | x14 :: tl1, n10, n11 => (kdec encTTest x14).bind fun y16 => (R40 y16 (w64 (a2 + 1))).bind fun y18 => M40_L1 R40 F a2 k4 tl1 (if 61 < (w64 (n10 + (y18.1))) then 61 else (w64 (n10 + (y18.1)))) (if (y18.2) > n11 then (y18.2) else n11)
def M40_B (R40 : TTest → Int → Option (Int × Int)) (F : Nat) (a1 : TTest) (a2 : Int) : Option (Int × Int) :=
 if (decide (a2 > 12)) = true then some (1, a2)
 else jn (fun (n5 : Int) (n6 : Int) => some (n5, n6)) (fun k4 => M40_L1 R40 F a2 k4 a1.Kids 1 a2)
def M40 : Nat → TTest → Int → Option (Int × Int)
 | 0, _, _ => none
 | F + 1, a1, a2 => M40_B (M40 F) F a1 a2
def M65 (F : Nat) : Option (Nat → Tpolicy_uses) :=
 some (arrOf (Tpolicy_uses.mk false false false 0) [(Tpolicy_uses.mk false false false 0), (Tpolicy_uses.mk false false false 0), (Tpolicy_uses.mk true true false 0), (Tpolicy_uses.mk true true false 0), (Tpolicy_uses.mk true false false 0), (Tpolicy_uses.mk true false true 0), (Tpolicy_uses.mk false false false 1), (Tpolicy_uses.mk false false false (-1)), (Tpolicy_uses.mk false false false (-1))])
def M66 (F : Nat) (a1 : TTest) : Option Bool :=
 (M65 F).bind fun y2 => if 0 ≤ a1.Kind ∧ a1.Kind.toNat < 9 then if (!(y2 a1.Kind.toNat).name) = true then if (!(a1.Name == ([] : List UInt8))) = true then some false
 else if (!(y2 a1.Kind.toNat).texts) = true then if (decide (((a1.Texts.length : Nat) : Int) > 0)) = true then some false
 else if (!(y2 a1.Kind.toNat).number) = true then if (a1.Op != 0) = true then some false
 else if (a1.N != 0) = true then some false
 else if (decide ((y2 a1.Kind.toNat).kids < 0)) = true then some (decide (((a1.Kids.length : Nat) : Int) ≥ 2))
 else some (((a1.Kids.length : Nat) : Int) == (y2 a1.Kind.toNat).kids)
 else if (decide ((y2 a1.Kind.toNat).kids < 0)) = true then some (decide (((a1.Kids.length : Nat) : Int) ≥ 2))
 else some (((a1.Kids.length : Nat) : Int) == (y2 a1.Kind.toNat).kids)
 else if (!(y2 a1.Kind.toNat).number) = true then if (a1.Op != 0) = true then some false
 else if (a1.N != 0) = true then some false
 else if (decide ((y2 a1.Kind.toNat).kids < 0)) = true then some (decide (((a1.Kids.length : Nat) : Int) ≥ 2))
 else some (((a1.Kids.length : Nat) : Int) == (y2 a1.Kind.toNat).kids)
 else if (decide ((y2 a1.Kind.toNat).kids < 0)) = true then some (decide (((a1.Kids.length : Nat) : Int) ≥ 2))
 else some (((a1.Kids.length : Nat) : Int) == (y2 a1.Kind.toNat).kids)
 else if (!(y2 a1.Kind.toNat).texts) = true then if (decide (((a1.Texts.length : Nat) : Int) > 0)) = true then some false
 else if (!(y2 a1.Kind.toNat).number) = true then if (a1.Op != 0) = true then some false
 else if (a1.N != 0) = true then some false
 else if (decide ((y2 a1.Kind.toNat).kids < 0)) = true then some (decide (((a1.Kids.length : Nat) : Int) ≥ 2))
 else some (((a1.Kids.length : Nat) : Int) == (y2 a1.Kind.toNat).kids)
 else if (decide ((y2 a1.Kind.toNat).kids < 0)) = true then some (decide (((a1.Kids.length : Nat) : Int) ≥ 2))
 else some (((a1.Kids.length : Nat) : Int) == (y2 a1.Kind.toNat).kids)
 else if (!(y2 a1.Kind.toNat).number) = true then if (a1.Op != 0) = true then some false
 else if (a1.N != 0) = true then some false
 else if (decide ((y2 a1.Kind.toNat).kids < 0)) = true then some (decide (((a1.Kids.length : Nat) : Int) ≥ 2))
 else some (((a1.Kids.length : Nat) : Int) == (y2 a1.Kind.toNat).kids)
 else if (decide ((y2 a1.Kind.toNat).kids < 0)) = true then some (decide (((a1.Kids.length : Nat) : Int) ≥ 2))
 else some (((a1.Kids.length : Nat) : Int) == (y2 a1.Kind.toNat).kids) else none
def M62 (F : Nat) (a1 : (List UInt8)) : Option Bool :=
 jn (fun (b3 : Bool) => if b3 = true then some true
 else some false) (fun k2 => if (a1 == ([114, 117, 108, 101] : List UInt8)) = true then k2 (a1 == ([114, 117, 108, 101] : List UInt8))
 else if (a1 == ([97, 98, 111, 117, 116] : List UInt8)) = true then k2 (a1 == ([97, 98, 111, 117, 116] : List UInt8))
 else if (a1 == ([119, 104, 101, 110] : List UInt8)) = true then k2 (a1 == ([119, 104, 101, 110] : List UInt8))
 else if (a1 == ([119, 97, 105, 118, 101] : List UInt8)) = true then k2 (a1 == ([119, 97, 105, 118, 101] : List UInt8))
 else if (a1 == ([102, 111, 114] : List UInt8)) = true then k2 (a1 == ([102, 111, 114] : List UInt8))
 else if (a1 == ([102, 114, 111, 109] : List UInt8)) = true then k2 (a1 == ([102, 114, 111, 109] : List UInt8))
 else if (a1 == ([116, 111] : List UInt8)) = true then k2 (a1 == ([116, 111] : List UInt8))
 else if (a1 == ([98, 121] : List UInt8)) = true then k2 (a1 == ([98, 121] : List UInt8))
 else if (a1 == ([97, 115] : List UInt8)) = true then k2 (a1 == ([97, 115] : List UInt8))
 else if (a1 == ([112, 97, 115, 115] : List UInt8)) = true then k2 (a1 == ([112, 97, 115, 115] : List UInt8))
 else if (a1 == ([110, 111, 116, 101] : List UInt8)) = true then k2 (a1 == ([110, 111, 116, 101] : List UInt8))
 else if (a1 == ([119, 97, 114, 110] : List UInt8)) = true then k2 (a1 == ([119, 97, 114, 110] : List UInt8))
 else if (a1 == ([100, 101, 110, 121] : List UInt8)) = true then k2 (a1 == ([100, 101, 110, 121] : List UInt8))
 else if (a1 == ([111, 114] : List UInt8)) = true then k2 (a1 == ([111, 114] : List UInt8))
 else if (a1 == ([97, 110, 100] : List UInt8)) = true then k2 (a1 == ([97, 110, 100] : List UInt8))
 else if (a1 == ([116, 114, 117, 101] : List UInt8)) = true then k2 (a1 == ([116, 114, 117, 101] : List UInt8))
 else if (a1 == ([105, 115] : List UInt8)) = true then k2 (a1 == ([105, 115] : List UInt8))
 else if (a1 == ([98, 101, 103, 105, 110, 115] : List UInt8)) = true then k2 (a1 == ([98, 101, 103, 105, 110, 115] : List UInt8))
 else if (a1 == ([104, 97, 115] : List UInt8)) = true then k2 (a1 == ([104, 97, 115] : List UInt8))
 else k2 (a1 == ([110, 111, 116] : List UInt8)))
def M34_L1 (F : Nat) (a1 : (List UInt8)) (k2 : Option Bool) : Nat → Int → Option Bool
  | 0, n4 => k2
  | tl1 + 1, n4 => jn (M34_L1 F a1 k2 tl1 (n4 + 1)) (fun k6 => (idx a1 n4).bind fun c7 => if (decide ((c7.toNat : Int) ≥ 97)) = true then if (decide ((c7.toNat : Int) ≤ 122)) = true then k6
 else if (decide (n4 > 0)) = true then if (decide ((c7.toNat : Int) ≥ 48)) = true then if (decide ((c7.toNat : Int) ≤ 57)) = true then k6
 else if (!((c7.toNat : Int) == 45)) = true then some false
 else k6
 else if (!((c7.toNat : Int) == 45)) = true then some false
 else k6
 else some false
 else if (decide (n4 > 0)) = true then if (decide ((c7.toNat : Int) ≥ 48)) = true then if (decide ((c7.toNat : Int) ≤ 57)) = true then k6
 else if (!((c7.toNat : Int) == 45)) = true then some false
 else k6
 else if (!((c7.toNat : Int) == 45)) = true then some false
 else k6
 else some false)
def M34 (F : Nat) (a1 : (List UInt8)) : Option Bool :=
 jn (if (!(a1 == ([] : List UInt8))) = true then if (decide ((a1.length : Int) ≤ 40)) = true then (M62 F a1).bind fun y24 => some (!y24)
 else some false
 else some false) (fun k2 => if (a1.length : Int) ≤ 9223372036854775807 then M34_L1 F a1 k2 (((a1.length : Int) : Int).toNat) 0 else none)
def M35_L1 (F : Nat) (a1 : (List UInt8)) (k2 : Option Bool) : Nat → Int → Option Bool
  | 0, n4 => k2
  | tl1 + 1, n4 => (idx a1 n4).bind fun c6 => if (decide ((c6.toNat : Int) < 32)) = true then some false
 else (idx a1 n4).bind fun c9 => if (decide ((c9.toNat : Int) > 126)) = true then some false
 else M35_L1 F a1 k2 tl1 (n4 + 1)
def M35 (F : Nat) (a1 : (List UInt8)) : Option Bool :=
 jn (some (decide ((a1.length : Int) ≤ 1000))) (fun k2 => if (a1.length : Int) ≤ 9223372036854775807 then M35_L1 F a1 k2 (((a1.length : Int) : Int).toNat) 0 else none)
def M67_L1 (F : Nat) (a1 : (List (List UInt8))) (k4 : Option Int) : List (List UInt8) → Int → Option Int
  | [], n6 => k4
  | x8 :: tl1, n6 => (M35 F x8).bind fun y10 => jn (M67_L1 F a1 k4 tl1 (n6 + 1)) (fun k12 => if (!y10) = true then some 2
 else if (decide (n6 > 0)) = true then (idx a1 (w64 (n6 - 1))).bind fun x15 => if (Op.bytesLess x8 x15 || x8 == x15) = true then some 10
 else k12
 else k12)
def M67 (F : Nat) (a1 : (List (List UInt8))) : Option Int :=
 if (((a1.length : Nat) : Int) == 0) = true then some 13
 else if (decide (((a1.length : Nat) : Int) > 50)) = true then some 3
 else jn (some 0) (fun k4 => M67_L1 F a1 k4 a1 0)
def M36 (F : Nat) (a1 : Int) : Option Bool :=
 if (decide (a1 ≥ (-1000000000000))) = true then some (decide (a1 ≤ 1000000000000))
 else some false
def M41_L1 (R41 : TTest → Option Int) (F : Nat) (k27 : Option Int) : List KRow → Option Int
  | [] => k27
  | x31 :: tl1 => (kdec encTTest x31).bind fun y33 => (R41 y33).bind fun y35 => if (y35 != 0) = true then some y35
 else M41_L1 R41 F k27 tl1
def M41_B (R41 : TTest → Option Int) (F : Nat) (a1 : TTest) : Option Int :=
 if (decide (a1.Kind < 1)) = true then some 7
 else if (decide (a1.Kind > 8)) = true then some 7
 else (M65 F).bind fun y4 => if 0 ≤ a1.Kind ∧ a1.Kind.toNat < 9 then (M66 F a1).bind fun y7 => jn (jn (jn (jn (some 0) (fun k27 => M41_L1 R41 F k27 a1.Kids)) (fun k20 => if (y4 a1.Kind.toNat).number = true then if (decide (a1.Op < 1)) = true then some 7
 else if (decide (a1.Op > 5)) = true then some 7
 else (M36 F a1.N).bind fun y24 => if (!y24) = true then some 9
 else k20
 else k20)) (fun k15 => if (y4 a1.Kind.toNat).texts = true then (M67 F a1.Texts).bind fun y17 => if (y17 != 0) = true then some y17
 else k15
 else k15)) (fun k9 => if (!y7) = true then some 2
 else if (y4 a1.Kind.toNat).name = true then (M34 F a1.Name).bind fun y12 => if (!y12) = true then some 8
 else k9
 else k9) else none
def M41 : Nat → TTest → Option Int
 | 0, _ => none
 | F + 1, a1 => M41_B (M41 F) F a1
def M12 (F : Nat) (a1 : TTest) : Option Int :=
 (M40 F a1 1).bind fun y2 => if (decide ((y2.1) > 60)) = true then some 3
 else if (decide ((y2.2) > 12)) = true then some 3
 else (M41 F a1).bind fun y6 => some y6
def M10_L2 (F : Nat) (a1 : TFact) (k28 : Option Int) : List TAmount → Int → Option Int
  | [], n30 => k28
  | x32 :: tl2, n30 => (M34 F x32.Name).bind fun y34 => jn (M10_L2 F a1 k28 tl2 (n30 + 1)) (fun k36 => if (!y34) = true then some 8
 else (M36 F x32.N).bind fun y38 => if (!y38) = true then some 9
 else if (decide (n30 > 0)) = true then (idx a1.Numbers (w64 (n30 - 1))).bind fun x42 => if (Op.bytesLess x32.Name x42.Name || x32.Name == x42.Name) = true then some 10
 else k36
 else k36)
def M10_L1 (F : Nat) (a1 : TFact) (k9 : Option Int) : List TPair → Int → Option Int
  | [], n11 => k9
  | x13 :: tl1, n11 => (M34 F x13.Name).bind fun y15 => jn (M10_L1 F a1 k9 tl1 (n11 + 1)) (fun k17 => if (!y15) = true then some 8
 else (M35 F x13.Value).bind fun y19 => if (!y19) = true then some 2
 else if (decide (n11 > 0)) = true then (idx a1.Texts (w64 (n11 - 1))).bind fun x23 => if (Op.bytesLess x13.Name x23.Name || x13.Name == x23.Name) = true then some 10
 else k17
 else k17)
def M10 (F : Nat) (a1 : TFact) : Option Int :=
 (M34 F a1.Kind).bind fun y2 => if (!y2) = true then some 8
 else (M35 F a1.Subject).bind fun y5 => if (!y5) = true then some 2
 else if (decide (((a1.Texts.length : Nat) : Int) > 30)) = true then some 3
 else jn (if (decide (((a1.Numbers.length : Nat) : Int) > 30)) = true then some 3
 else jn (some 0) (fun k28 => M10_L2 F a1 k28 a1.Numbers 0)) (fun k9 => M10_L1 F a1 k9 a1.Texts 0)
def M31_L1 (R31 : TTest → Option KV) (F : Nat) (k2 : (List KV) → Option KV) : List KRow → (List KV) → Option KV
 | [], l7 => k2 l7
 | x9 :: tl1, l7 => (kdec encTTest x9).bind fun y11 => (R31 y11).bind fun y13 => if (l7 ++ ([y13] : List KV)).length * 16 ≤ 140737488355328 then M31_L1 R31 F k2 tl1 (l7 ++ ([y13] : List KV)) else none
def M31_B (R31 : TTest → Option KV) (F : Nat) (a1 : TTest) : Option KV :=
 jn (fun (l3 : List KV) => if (a1.Kind == 2) = true then some (mkK 105 encTpolicy_condIs (Tpolicy_condIs.mk a1.Name a1.Texts))
 else if (a1.Kind == 3) = true then some (mkK 106 encTpolicy_condBegins (Tpolicy_condBegins.mk a1.Name a1.Texts))
 else if (a1.Kind == 4) = true then some (mkK 108 encTpolicy_condHas (Tpolicy_condHas.mk a1.Name))
 else if (a1.Kind == 5) = true then some (mkK 110 encTpolicy_condNumber (Tpolicy_condNumber.mk a1.Name a1.Op a1.N))
 else if (a1.Kind == 6) = true then (idx l3 0).bind fun x22 => some (mkK 112 encTpolicy_condNot (Tpolicy_condNot.mk x22))
 else if (a1.Kind == 7) = true then some (mkK 114 encTpolicy_condAll (Tpolicy_condAll.mk l3))
 else if (a1.Kind == 8) = true then some (mkK 115 encTpolicy_condAny (Tpolicy_condAny.mk l3))
 else some (mkK 117 encTpolicy_condTrue Tpolicy_condTrue.mk)) (fun k2 => M31_L1 R31 F k2 a1.Kids ([] : List KV))
def M31 : Nat → TTest → Option KV
 | 0, _ => none
 | F + 1, a1 => M31_B (M31 F) F a1
def M32_L2 (F : Nat) (k12 : (List ((List UInt8) × Tpolicy_value)) → Option Tpolicy_values) : List TAmount → (List ((List UInt8) × Tpolicy_value)) → Option Tpolicy_values
 | [], m17 => k12 m17
 | x19 :: tl2, m17 => M32_L2 F k12 tl2 (mput m17 x19.Name (Tpolicy_value.mk ((mget m17 x19.Name).getD (Tpolicy_value.mk false false ([] : List UInt8) 0)).hasText true ((mget m17 x19.Name).getD (Tpolicy_value.mk false false ([] : List UInt8) 0)).text x19.N))
def M32_L1 (F : Nat) (k2 : (List ((List UInt8) × Tpolicy_value)) → Option Tpolicy_values) : List TPair → (List ((List UInt8) × Tpolicy_value)) → Option Tpolicy_values
 | [], m7 => k2 m7
 | x9 :: tl1, m7 => M32_L1 F k2 tl1 (mput m7 x9.Name (Tpolicy_value.mk true ((mget m7 x9.Name).getD (Tpolicy_value.mk false false ([] : List UInt8) 0)).hasNumber x9.Value ((mget m7 x9.Name).getD (Tpolicy_value.mk false false ([] : List UInt8) 0)).number))
def M32 (F : Nat) (a1 : TFact) : Option Tpolicy_values :=
 jn (fun (m3 : List ((List UInt8) × Tpolicy_value)) => jn (fun (m13 : List ((List UInt8) × Tpolicy_value)) => some (Tpolicy_values.mk m13 ())) (fun k12 => M32_L2 F k12 a1.Numbers m3)) (fun k2 => M32_L1 F k2 a1.Texts ([] : List ((List UInt8) × Tpolicy_value)))
def M177 (F : Nat) (a1 : Tpolicy_values) (a2 : (List UInt8)) : Option (Tpolicy_value × Bool) :=
 some (((mget a1.by_ a2).getD (Tpolicy_value.mk false false ([] : List UInt8) 0)), true)
def M115_L1 (F : Nat) (a2 : (List UInt8)) (k3 : Option Int) : List (List UInt8) → Int → Option Int
  | [], n5 => k3
  | x7 :: tl1, n5 => if (a2 == x7) = true then some n5
 else M115_L1 F a2 k3 tl1 (n5 + 1)
def M115 (F : Nat) (a1 : (List (List UInt8))) (a2 : (List UInt8)) : Option Int :=
 jn (some (-1)) (fun k3 => M115_L1 F a2 k3 a1 0)
def M180 (F : Nat) (a1 : (List (List UInt8))) (a2 : (List UInt8)) : Option Bool :=
 (M115 F a1 a2).bind fun y3 => some (decide (y3 ≥ 0))
def M179 (F : Nat) (a1 : Bool) : Option Int :=
 if a1 = true then some 1
 else some 2
def M178 (F : Nat) (a1 : Tpolicy_condIs) (a2 : Tpolicy_values) : Option Int :=
 (M177 F a2 a1.name).bind fun y3 => if (!(y3.2)) = true then some 0
 else if (y3.1).hasText = true then (M180 F a1.texts (y3.1).text).bind fun y7 => (M179 F y7).bind fun y9 => some y9
 else (M179 F false).bind fun y11 => some y11
def M114 (F : Nat) (a1 : (List UInt8)) (a2 : (List UInt8)) : Option Bool :=
 if (decide ((a1.length : Int) ≥ (a2.length : Int))) = true then if 0 ≤ (a2.length : Int) ∧ (a2.length : Int).toNat ≤ a1.length then some ((a1.take (a2.length : Int).toNat) == a2) else none
 else some false
def M93 (F : Nat) (a1 : (List UInt8)) (a2 : (List UInt8)) : Option Bool :=
 (M114 F a1 a2).bind fun y3 => some y3
def M183 (F : Nat) (a1 : (List UInt8)) (a2 : Bool) (a3 : Bool) (a4 : List UInt8) (a5 : Int) : Option Bool :=
 (M93 F a4 a1).bind fun y6 => some y6
def M184_L1 (F : Nat) (a2 : Bool) (a3 : Bool) (a4 : List UInt8) (a5 : Int) (k6 : Option Int) : List (List UInt8) → Int → Option Int
  | [], n8 => k6
  | x10 :: tl1, n8 => (M183 F x10 a2 a3 a4 a5).bind fun y12 => if y12 = true then some n8
 else M184_L1 F a2 a3 a4 a5 k6 tl1 (n8 + 1)
def M184 (F : Nat) (a1 : (List (List UInt8))) (a2 : Bool) (a3 : Bool) (a4 : List UInt8) (a5 : Int) : Option Int :=
 jn (some (-1)) (fun k6 => M184_L1 F a2 a3 a4 a5 k6 a1 0)
def M182 (F : Nat) (a1 : (List (List UInt8))) (a2 : Bool) (a3 : Bool) (a4 : List UInt8) (a5 : Int) : Option Bool :=
 (M184 F a1 a2 a3 a4 a5).bind fun y6 => some (decide (y6 ≥ 0))
def M181 (F : Nat) (a1 : Tpolicy_condBegins) (a2 : Tpolicy_values) : Option Int :=
 (M177 F a2 a1.name).bind fun y3 => if (!(y3.2)) = true then some 0
 else if (y3.1).hasText = true then (M182 F a1.texts (y3.1).hasText (y3.1).hasNumber (y3.1).text (y3.1).number).bind fun y7 => (M179 F y7).bind fun y9 => some y9
 else (M179 F false).bind fun y11 => some y11
def M185 (F : Nat) (a1 : Tpolicy_condHas) (a2 : Tpolicy_values) : Option Int :=
 (M177 F a2 a1.name).bind fun y3 => if (!(y3.2)) = true then some 0
 else if (y3.1).hasText = true then (M179 F true).bind fun y7 => some y7
 else (M179 F (y3.1).hasNumber).bind fun y9 => some y9
def M187 (F : Nat) (a1 : Int) (a2 : Int) (a3 : Int) : Option Bool :=
 if (a2 == 1) = true then some (decide (a1 < a3))
 else if (a2 == 2) = true then some (decide (a1 ≤ a3))
 else if (a2 == 3) = true then some (a1 == a3)
 else if (a2 == 4) = true then some (decide (a1 ≥ a3))
 else some (decide (a1 > a3))
def M186 (F : Nat) (a1 : Tpolicy_condNumber) (a2 : Tpolicy_values) : Option Int :=
 (M177 F a2 a1.name).bind fun y3 => if (!(y3.2)) = true then some 0
 else if (y3.1).hasNumber = true then (M187 F (y3.1).number a1.op a1.n).bind fun y7 => (M179 F y7).bind fun y9 => some y9
 else (M179 F false).bind fun y11 => some y11
def M176 (F : Nat) (a1 : Int) : Option Int :=
 if (a1 == 1) = true then some 2
 else if (a1 == 2) = true then some 1
 else some 0
def M188 (Riholds : KV → Tpolicy_values → Option Int) (F : Nat) (a1 : Tpolicy_condNot) (a2 : Tpolicy_values) : Option Int :=
 (Riholds a1.kid a2).bind fun y3 => (M176 F y3).bind fun y5 => some y5
def M189_L1 (Riholds : KV → Tpolicy_values → Option Int) (F : Nat) (a2 : Tpolicy_values) (k3 : Int → Option Int) : List KV → Int → Option Int
  | [], n7 => k3 n7
  | x10 :: tl1, n7 => (Riholds x10 a2).bind fun y12 => jn (fun (n15 : Int) => M189_L1 Riholds F a2 k3 tl1 n15) (fun k14 => if (y12 == 2) = true then some 2
 else if (y12 == 0) = true then k14 0
 else k14 n7)
def M189 (Riholds : KV → Tpolicy_values → Option Int) (F : Nat) (a1 : Tpolicy_condAll) (a2 : Tpolicy_values) : Option Int :=
 jn (fun (n4 : Int) => some n4) (fun k3 => M189_L1 Riholds F a2 k3 a1.kids 1)
def M190_L1 (Riholds : KV → Tpolicy_values → Option Int) (F : Nat) (a2 : Tpolicy_values) (k3 : Int → Option Int) : List KV → Int → Option Int
  | [], n7 => k3 n7
  | x10 :: tl1, n7 => (Riholds x10 a2).bind fun y12 => jn (fun (n15 : Int) => M190_L1 Riholds F a2 k3 tl1 n15) (fun k14 => if (y12 == 1) = true then some 1
 else if (y12 == 0) = true then k14 0
 else k14 n7)
def M190 (Riholds : KV → Tpolicy_values → Option Int) (F : Nat) (a1 : Tpolicy_condAny) (a2 : Tpolicy_values) : Option Int :=
 jn (fun (n4 : Int) => some n4) (fun k3 => M190_L1 Riholds F a2 k3 a1.kids 2)
def M191 (F : Nat) (a1 : Tpolicy_condTrue) (a2 : Tpolicy_values) : Option Int :=
 some 1
def Miholds_B (Riholds : KV → Tpolicy_values → Option Int) (F : Nat) (k : KV) (a1 : Tpolicy_values) : Option Int :=
 oel (vdec encTpolicy_condIs 105 k) (fun y => M178 F y a1) (oel (vdec encTpolicy_condBegins 106 k) (fun y => M181 F y a1) (oel (vdec encTpolicy_condHas 108 k) (fun y => M185 F y a1) (oel (vdec encTpolicy_condNumber 110 k) (fun y => M186 F y a1) (oel (vdec encTpolicy_condNot 112 k) (fun y => M188 Riholds F y a1) (oel (vdec encTpolicy_condAll 114 k) (fun y => M189 Riholds F y a1) (oel (vdec encTpolicy_condAny 115 k) (fun y => M190 Riholds F y a1) (oel (vdec encTpolicy_condTrue 117 k) (fun y => M191 F y a1) (none))))))))
def Miholds : Nat → KV → Tpolicy_values → Option Int
 | 0, _, _ => none
 | F + 1, k, a1 => Miholds_B (Miholds F) F k a1
def M42_L1 (R42 : TTest → Int → Option Int) (F : Nat) (a1 : TTest) (a2 : Int) (k3 : Int → Option Int) : Nat → Int → Int → Option Int
 | 0, _, _ => none
 | n + 1, n7, n8 => if (decide (n8 < ((a1.Kids.length : Nat) : Int))) = true then if (decide (n7 ≤ a2)) = true then (idx a1.Kids n8).bind fun x11 => (kdec encTTest x11).bind fun y13 => (R42 y13 (w64 (a2 - n7))).bind fun y15 => M42_L1 R42 F a1 a2 k3 n (w64 (n7 + y15)) (w64 (n8 + 1))
 else k3 n7
 else k3 n7
def M42_B (R42 : TTest → Int → Option Int) (F : Nat) (a1 : TTest) (a2 : Int) : Option Int :=
 jn (fun (n4 : Int) => some n4) (fun k3 => M42_L1 R42 F a1 a2 k3 F 1 0)
def M42 : Nat → TTest → Int → Option Int
 | 0, _, _ => none
 | F + 1, a1, a2 => M42_B (M42 F) F a1 a2
def M43_L1 (R43 : TTest → Option Int) (F : Nat) (a1 : TTest) (k2 : Int → Option Int) : Nat → Int → Int → Option Int
 | 0, n7, n6 => k2 n6
 | tl1 + 1, n7, n6 => (idx a1.Kids n7).bind fun x9 => (kdec encTTest x9).bind fun y11 => (R43 y11).bind fun y13 => M43_L1 R43 F a1 k2 tl1 (n7 + 1) (if y13 > n6 then y13 else n6)
def M43_B (R43 : TTest → Option Int) (F : Nat) (a1 : TTest) : Option Int :=
 jn (fun (n3 : Int) => some (w64 (n3 + 1))) (fun k2 => if ((a1.Kids.length : Nat) : Int) ≤ 9223372036854775807 then M43_L1 R43 F a1 k2 ((((a1.Kids.length : Nat) : Int) : Int).toNat) 0 0 else none)
def M43 : Nat → TTest → Option Int
 | 0, _ => none
 | F + 1, a1 => M43_B (M43 F) F a1
def M39 (F : Nat) (a1 : Int) (a2 : Int) (a3 : Int) : Option Bool :=
 if (decide (a1 < a2)) = true then some true
 else some (decide (a1 > a3))
def M88 (F : Nat) (a1 : TTest) : Option Int :=
 (M39 F a1.Kind 1 8).bind fun y2 => if y2 = true then some 7
 else if (decide (a1.Kind ≥ 2)) = true then if (a1.Kind == 2) = true then jn (fun (b8 : Bool) => if (!(decide (a1.Kind ≤ 5))) = true then if (!(a1.Name == ([] : List UInt8))) = true then some 2
 else if (!(a1.Kind == 5)) = true then if (a1.Op != 0) = true then some 2
 else if (a1.N != 0) = true then some 2
 else if (!b8) = true then some 2
 else some 0
 else if (!b8) = true then some 2
 else some 0
 else if (!(a1.Kind == 5)) = true then if (a1.Op != 0) = true then some 2
 else if (a1.N != 0) = true then some 2
 else if (!b8) = true then some 2
 else some 0
 else if (!b8) = true then some 2
 else some 0) (fun k7 => if (a1.Kind == 6) = true then k7 (((a1.Kids.length : Nat) : Int) == 1)
 else jn (fun (b11 : Bool) => if b11 = true then k7 (decide (((a1.Kids.length : Nat) : Int) ≥ 2))
 else k7 (((a1.Kids.length : Nat) : Int) == 0)) (fun k10 => if (a1.Kind == 7) = true then k10 (a1.Kind == 7)
 else k10 (a1.Kind == 8)))
 else jn (fun (b27 : Bool) => if (!(decide (a1.Kind ≤ 5))) = true then if (!(a1.Name == ([] : List UInt8))) = true then some 2
 else if (!(a1.Kind == 3)) = true then if (decide (((a1.Texts.length : Nat) : Int) > 0)) = true then some 2
 else if (!(a1.Kind == 5)) = true then if (a1.Op != 0) = true then some 2
 else if (a1.N != 0) = true then some 2
 else if (!b27) = true then some 2
 else some 0
 else if (!b27) = true then some 2
 else some 0
 else if (!(a1.Kind == 5)) = true then if (a1.Op != 0) = true then some 2
 else if (a1.N != 0) = true then some 2
 else if (!b27) = true then some 2
 else some 0
 else if (!b27) = true then some 2
 else some 0
 else if (!(a1.Kind == 3)) = true then if (decide (((a1.Texts.length : Nat) : Int) > 0)) = true then some 2
 else if (!(a1.Kind == 5)) = true then if (a1.Op != 0) = true then some 2
 else if (a1.N != 0) = true then some 2
 else if (!b27) = true then some 2
 else some 0
 else if (!b27) = true then some 2
 else some 0
 else if (!(a1.Kind == 5)) = true then if (a1.Op != 0) = true then some 2
 else if (a1.N != 0) = true then some 2
 else if (!b27) = true then some 2
 else some 0
 else if (!b27) = true then some 2
 else some 0) (fun k26 => if (a1.Kind == 6) = true then k26 (((a1.Kids.length : Nat) : Int) == 1)
 else jn (fun (b30 : Bool) => if b30 = true then k26 (decide (((a1.Kids.length : Nat) : Int) ≥ 2))
 else k26 (((a1.Kids.length : Nat) : Int) == 0)) (fun k29 => if (a1.Kind == 7) = true then k29 (a1.Kind == 7)
 else k29 (a1.Kind == 8)))
 else if (a1.Kind == 2) = true then jn (fun (b61 : Bool) => if (!(a1.Name == ([] : List UInt8))) = true then some 2
 else if (!(a1.Kind == 5)) = true then if (a1.Op != 0) = true then some 2
 else if (a1.N != 0) = true then some 2
 else if (!b61) = true then some 2
 else some 0
 else if (!b61) = true then some 2
 else some 0) (fun k60 => if (a1.Kind == 6) = true then k60 (((a1.Kids.length : Nat) : Int) == 1)
 else jn (fun (b64 : Bool) => if b64 = true then k60 (decide (((a1.Kids.length : Nat) : Int) ≥ 2))
 else k60 (((a1.Kids.length : Nat) : Int) == 0)) (fun k63 => if (a1.Kind == 7) = true then k63 (a1.Kind == 7)
 else k63 (a1.Kind == 8)))
 else jn (fun (b74 : Bool) => if (!(a1.Name == ([] : List UInt8))) = true then some 2
 else if (!(a1.Kind == 3)) = true then if (decide (((a1.Texts.length : Nat) : Int) > 0)) = true then some 2
 else if (!(a1.Kind == 5)) = true then if (a1.Op != 0) = true then some 2
 else if (a1.N != 0) = true then some 2
 else if (!b74) = true then some 2
 else some 0
 else if (!b74) = true then some 2
 else some 0
 else if (!(a1.Kind == 5)) = true then if (a1.Op != 0) = true then some 2
 else if (a1.N != 0) = true then some 2
 else if (!b74) = true then some 2
 else some 0
 else if (!b74) = true then some 2
 else some 0) (fun k73 => if (a1.Kind == 6) = true then k73 (((a1.Kids.length : Nat) : Int) == 1)
 else jn (fun (b77 : Bool) => if b77 = true then k73 (decide (((a1.Kids.length : Nat) : Int) ≥ 2))
 else k73 (((a1.Kids.length : Nat) : Int) == 0)) (fun k76 => if (a1.Kind == 7) = true then k76 (a1.Kind == 7)
 else k76 (a1.Kind == 8)))
def M63_L1 (F : Nat) (a1 : (List UInt8)) (k2 : Option Bool) : Nat → Int → Option Bool
  | 0, n4 => k2
  | tl1 + 1, n4 => if 0 ≤ n4 ∧ n4.toNat < 20 then if (((arrOf [] [([114, 117, 108, 101] : List UInt8), ([97, 98, 111, 117, 116] : List UInt8), ([119, 104, 101, 110] : List UInt8), ([119, 97, 105, 118, 101] : List UInt8), ([102, 111, 114] : List UInt8), ([102, 114, 111, 109] : List UInt8), ([116, 111] : List UInt8), ([98, 121] : List UInt8), ([97, 115] : List UInt8), ([112, 97, 115, 115] : List UInt8), ([110, 111, 116, 101] : List UInt8), ([119, 97, 114, 110] : List UInt8), ([100, 101, 110, 121] : List UInt8), ([111, 114] : List UInt8), ([97, 110, 100] : List UInt8), ([116, 114, 117, 101] : List UInt8), ([105, 115] : List UInt8), ([98, 101, 103, 105, 110, 115] : List UInt8), ([104, 97, 115] : List UInt8), ([110, 111, 116] : List UInt8)]) n4.toNat) == a1) = true then some true
 else M63_L1 F a1 k2 tl1 (n4 + 1) else none
def M63 (F : Nat) (a1 : (List UInt8)) : Option Bool :=
 jn (some false) (fun k2 => if (20 : Int) ≤ 9223372036854775807 then M63_L1 F a1 k2 ((20 : Int).toNat) 0 else none)
def M64 (F : Nat) (a1 : Int) : Option Bool :=
 if (decide (a1 ≥ 97)) = true then if (decide (a1 ≤ 122)) = true then some true
 else if (decide (a1 ≥ 48)) = true then if (decide (a1 ≤ 57)) = true then some true
 else some (a1 == 45)
 else some (a1 == 45)
 else if (decide (a1 ≥ 48)) = true then if (decide (a1 ≤ 57)) = true then some true
 else some (a1 == 45)
 else some (a1 == 45)
def M37_L1 (F : Nat) (a1 : (List UInt8)) (k13 : Option Bool) : Nat → Int → Option Bool
  | 0, n15 => k13
  | tl1 + 1, n15 => (idx a1 n15).bind fun c17 => (M64 F (c17.toNat : Int)).bind fun y19 => if (!y19) = true then some false
 else M37_L1 F a1 k13 tl1 (n15 + 1)
def M37 (F : Nat) (a1 : (List UInt8)) : Option Bool :=
 if (a1 == ([] : List UInt8)) = true then some false
 else if (decide ((a1.length : Int) > 40)) = true then some false
 else (idx a1 0).bind fun c4 => if (decide ((c4.toNat : Int) < 97)) = true then some false
 else (idx a1 0).bind fun c7 => if (decide ((c7.toNat : Int) > 122)) = true then some false
 else (M63 F a1).bind fun y10 => if y10 = true then some false
 else jn (some true) (fun k13 => if (a1.length : Int) ≤ 9223372036854775807 then M37_L1 F a1 k13 (((a1.length : Int) : Int).toNat) 0 else none)
def M38_L1 (F : Nat) (a1 : (List UInt8)) (k3 : Option Bool) : Nat → Int → Option Bool
  | 0, n5 => k3
  | tl1 + 1, n5 => (idx a1 n5).bind fun c7 => if (decide ((c7.toNat : Int) < 32)) = true then some false
 else (idx a1 n5).bind fun c10 => if (decide ((c10.toNat : Int) > 126)) = true then some false
 else M38_L1 F a1 k3 tl1 (n5 + 1)
def M38 (F : Nat) (a1 : (List UInt8)) : Option Bool :=
 if (decide ((a1.length : Int) > 1000)) = true then some false
 else jn (some true) (fun k3 => if (a1.length : Int) ≤ 9223372036854775807 then M38_L1 F a1 k3 (((a1.length : Int) : Int).toNat) 0 else none)
def M68_L1 (F : Nat) (a1 : TTest) (k13 : Option Int) : List (List UInt8) → Int → Option Int
  | [], n15 => k13
  | x18 :: tl1, n15 => jn (M68_L1 F a1 k13 tl1 (n15 + 1)) (fun k17 => (M38 F x18).bind fun y20 => if (!y20) = true then some 2
 else if (decide (n15 > 0)) = true then (idx a1.Texts n15).bind fun x24 => (idx a1.Texts (w64 (n15 - 1))).bind fun x26 => if (Op.bytesLess x24 x26 || x24 == x26) = true then some 10
 else k17
 else k17)
def M68_L2 (F : Nat) (a1 : TTest) (k42 : Option Int) : List (List UInt8) → Int → Option Int
  | [], n44 => k42
  | x47 :: tl2, n44 => jn (M68_L2 F a1 k42 tl2 (n44 + 1)) (fun k46 => (M38 F x47).bind fun y49 => if (!y49) = true then some 2
 else if (decide (n44 > 0)) = true then (idx a1.Texts n44).bind fun x53 => (idx a1.Texts (w64 (n44 - 1))).bind fun x55 => if (Op.bytesLess x53 x55 || x53 == x55) = true then some 10
 else k46
 else k46)
def M68_L3 (F : Nat) (a1 : TTest) (k70 : Option Int) : List (List UInt8) → Int → Option Int
  | [], n72 => k70
  | x75 :: tl3, n72 => jn (M68_L3 F a1 k70 tl3 (n72 + 1)) (fun k74 => (M38 F x75).bind fun y77 => if (!y77) = true then some 2
 else if (decide (n72 > 0)) = true then (idx a1.Texts n72).bind fun x81 => (idx a1.Texts (w64 (n72 - 1))).bind fun x83 => if (Op.bytesLess x81 x83 || x81 == x83) = true then some 10
 else k74
 else k74)
def M68_L4 (F : Nat) (a1 : TTest) (k99 : Option Int) : List (List UInt8) → Int → Option Int
  | [], n101 => k99
  | x104 :: tl4, n101 => jn (M68_L4 F a1 k99 tl4 (n101 + 1)) (fun k103 => (M38 F x104).bind fun y106 => if (!y106) = true then some 2
 else if (decide (n101 > 0)) = true then (idx a1.Texts n101).bind fun x110 => (idx a1.Texts (w64 (n101 - 1))).bind fun x112 => if (Op.bytesLess x110 x112 || x110 == x112) = true then some 10
 else k103
 else k103)
def M68_L5 (F : Nat) (a1 : TTest) (k127 : Option Int) : List (List UInt8) → Int → Option Int
  | [], n129 => k127
  | x132 :: tl5, n129 => jn (M68_L5 F a1 k127 tl5 (n129 + 1)) (fun k131 => (M38 F x132).bind fun y134 => if (!y134) = true then some 2
 else if (decide (n129 > 0)) = true then (idx a1.Texts n129).bind fun x138 => (idx a1.Texts (w64 (n129 - 1))).bind fun x140 => if (Op.bytesLess x138 x140 || x138 == x140) = true then some 10
 else k131
 else k131)
def M68_L6 (F : Nat) (a1 : TTest) (k156 : Option Int) : List (List UInt8) → Int → Option Int
  | [], n158 => k156
  | x161 :: tl6, n158 => jn (M68_L6 F a1 k156 tl6 (n158 + 1)) (fun k160 => (M38 F x161).bind fun y163 => if (!y163) = true then some 2
 else if (decide (n158 > 0)) = true then (idx a1.Texts n158).bind fun x167 => (idx a1.Texts (w64 (n158 - 1))).bind fun x169 => if (Op.bytesLess x167 x169 || x167 == x169) = true then some 10
 else k160
 else k160)
def M68 (F : Nat) (a1 : TTest) : Option Int :=
 (M88 F a1).bind fun y2 => if (y2 != 0) = true then some y2
 else if (decide (a1.Kind ≥ 2)) = true then if (decide (a1.Kind ≤ 5)) = true then (M37 F a1.Name).bind fun y7 => if (!y7) = true then some 8
 else if (a1.Kind == 2) = true then if (((a1.Texts.length : Nat) : Int) == 0) = true then some 13
 else if (decide (((a1.Texts.length : Nat) : Int) > 50)) = true then some 3
 else jn (jn (some 0) (fun k30 => if (a1.Kind == 5) = true then (M39 F a1.Op 1 5).bind fun y32 => if y32 = true then some 7
 else (M39 F a1.N (-1000000000000) 1000000000000).bind fun y35 => if y35 = true then some 9
 else k30
 else k30)) (fun k13 => M68_L1 F a1 k13 a1.Texts 0)
 else jn (jn (some 0) (fun k59 => if (a1.Kind == 5) = true then (M39 F a1.Op 1 5).bind fun y61 => if y61 = true then some 7
 else (M39 F a1.N (-1000000000000) 1000000000000).bind fun y64 => if y64 = true then some 9
 else k59
 else k59)) (fun k38 => if (a1.Kind == 3) = true then if (((a1.Texts.length : Nat) : Int) == 0) = true then some 13
 else if (decide (((a1.Texts.length : Nat) : Int) > 50)) = true then some 3
 else jn (k38) (fun k42 => M68_L2 F a1 k42 a1.Texts 0)
 else k38)
 else if (a1.Kind == 2) = true then if (((a1.Texts.length : Nat) : Int) == 0) = true then some 13
 else if (decide (((a1.Texts.length : Nat) : Int) > 50)) = true then some 3
 else jn (jn (some 0) (fun k87 => if (a1.Kind == 5) = true then (M39 F a1.Op 1 5).bind fun y89 => if y89 = true then some 7
 else (M39 F a1.N (-1000000000000) 1000000000000).bind fun y92 => if y92 = true then some 9
 else k87
 else k87)) (fun k70 => M68_L3 F a1 k70 a1.Texts 0)
 else jn (jn (some 0) (fun k116 => if (a1.Kind == 5) = true then (M39 F a1.Op 1 5).bind fun y118 => if y118 = true then some 7
 else (M39 F a1.N (-1000000000000) 1000000000000).bind fun y121 => if y121 = true then some 9
 else k116
 else k116)) (fun k95 => if (a1.Kind == 3) = true then if (((a1.Texts.length : Nat) : Int) == 0) = true then some 13
 else if (decide (((a1.Texts.length : Nat) : Int) > 50)) = true then some 3
 else jn (k95) (fun k99 => M68_L4 F a1 k99 a1.Texts 0)
 else k95)
 else if (a1.Kind == 2) = true then if (((a1.Texts.length : Nat) : Int) == 0) = true then some 13
 else if (decide (((a1.Texts.length : Nat) : Int) > 50)) = true then some 3
 else jn (jn (some 0) (fun k144 => if (a1.Kind == 5) = true then (M39 F a1.Op 1 5).bind fun y146 => if y146 = true then some 7
 else (M39 F a1.N (-1000000000000) 1000000000000).bind fun y149 => if y149 = true then some 9
 else k144
 else k144)) (fun k127 => M68_L5 F a1 k127 a1.Texts 0)
 else jn (jn (some 0) (fun k173 => if (a1.Kind == 5) = true then (M39 F a1.Op 1 5).bind fun y175 => if y175 = true then some 7
 else (M39 F a1.N (-1000000000000) 1000000000000).bind fun y178 => if y178 = true then some 9
 else k173
 else k173)) (fun k152 => if (a1.Kind == 3) = true then if (((a1.Texts.length : Nat) : Int) == 0) = true then some 13
 else if (decide (((a1.Texts.length : Nat) : Int) > 50)) = true then some 3
 else jn (k152) (fun k156 => M68_L6 F a1 k156 a1.Texts 0)
 else k152)
def M44_L1 (R44 : TTest → Option Int) (F : Nat) (a1 : TTest) (k5 : Option Int) : Nat → Int → Option Int
  | 0, n7 => k5
  | tl1 + 1, n7 => (idx a1.Kids n7).bind fun x9 => (kdec encTTest x9).bind fun y11 => (R44 y11).bind fun y13 => if (y13 != 0) = true then some y13
 else M44_L1 R44 F a1 k5 tl1 (n7 + 1)
def M44_B (R44 : TTest → Option Int) (F : Nat) (a1 : TTest) : Option Int :=
 (M68 F a1).bind fun y2 => if (y2 != 0) = true then some y2
 else jn (some 0) (fun k5 => if ((a1.Kids.length : Nat) : Int) ≤ 9223372036854775807 then M44_L1 R44 F a1 k5 ((((a1.Kids.length : Nat) : Int) : Int).toNat) 0 else none)
def M44 : Nat → TTest → Option Int
 | 0, _ => none
 | F + 1, a1 => M44_B (M44 F) F a1
def M13 (F : Nat) (a1 : TTest) : Option Int :=
 (M42 F a1 60).bind fun y2 => if (decide (y2 > 60)) = true then some 3
 else (M43 F a1).bind fun y5 => if (decide (y5 > 12)) = true then some 3
 else (M44 F a1).bind fun y8 => some y8
def M87 (F : Nat) (a1 : (List UInt8)) (a2 : (List UInt8)) : Option Bool :=
 if (decide ((a1.length : Int) ≥ (a2.length : Int))) = true then if 0 ≤ (a2.length : Int) ∧ (a2.length : Int).toNat ≤ a1.length then some ((a1.take (a2.length : Int).toNat) == a2) else none
 else some false
def M69 (F : Nat) (a1 : (List UInt8)) (a2 : Int) : Option Int := some (Lib.indexByte a1 a2.toNat.toUInt8)
def M71 (F : Nat) (a1 : TPolicyRule) (a2 : List UInt8) (a3 : List UInt8) (a4 : Int) (a5 : Int) (a6 : List UInt8) (a7 : Int) : Option Bool :=
 some (a1.Name == a2)
def M80_L1 (F : Nat) (a2 : List UInt8) (a3 : List UInt8) (a4 : Int) (a5 : Int) (a6 : List UInt8) (a7 : Int) (k8 : Option Int) : List TPolicyRule → Int → Option Int
  | [], n10 => k8
  | x12 :: tl1, n10 => (M71 F x12 a2 a3 a4 a5 a6 a7).bind fun y14 => if y14 = true then some n10
 else M80_L1 F a2 a3 a4 a5 a6 a7 k8 tl1 (n10 + 1)
def M80 (F : Nat) (a1 : (List TPolicyRule)) (a2 : List UInt8) (a3 : List UInt8) (a4 : Int) (a5 : Int) (a6 : List UInt8) (a7 : Int) : Option Int :=
 jn (some (-1)) (fun k8 => M80_L1 F a2 a3 a4 a5 a6 a7 k8 a1 0)
def M70 (F : Nat) (a1 : (List TPolicyRule)) (a2 : List UInt8) (a3 : List UInt8) (a4 : Int) (a5 : Int) (a6 : List UInt8) (a7 : Int) : Option Bool :=
 (M80 F a1 a2 a3 a4 a5 a6 a7).bind fun y8 => some (decide (y8 ≥ 0))
def M45 (F : Nat) (a1 : TPolicy) (a2 : TWaiver) : Option Int :=
 (M69 F a2.Subject 42).bind fun y3 => (M70 F a1.Rules a2.Rule a2.Subject a2.From a2.To a2.Owner a2.Level).bind fun y5 => jn (some 0) (fun k7 => if (!y5) = true then some 4
 else (M35 F a2.Subject).bind fun y9 => if (!y9) = true then some 2
 else if (decide (y3 ≥ 0)) = true then if (decide (y3 < (w64 ((a2.Subject.length : Int) - 1)))) = true then some 2
 else if (decide (a2.From < 0)) = true then some 9
 else if (decide (a2.From > a2.To)) = true then some 9
 else if (decide (a2.To > 1000000)) = true then some 9
 else (M34 F a2.Owner).bind fun y17 => if (!y17) = true then some 8
 else if (decide (a2.Level < 1)) = true then some 7
 else if (decide (a2.Level > 3)) = true then some 7
 else k7
 else if (decide (a2.From < 0)) = true then some 9
 else if (decide (a2.From > a2.To)) = true then some 9
 else if (decide (a2.To > 1000000)) = true then some 9
 else (M34 F a2.Owner).bind fun y25 => if (!y25) = true then some 8
 else if (decide (a2.Level < 1)) = true then some 7
 else if (decide (a2.Level > 3)) = true then some 7
 else k7)
def M14_L2 (F : Nat) (a1 : TPolicy) (k25 : Option Int) : List TWaiver → Option Int
  | [] => k25
  | x29 :: tl2 => (M45 F a1 x29).bind fun y31 => if (y31 != 0) = true then some y31
 else M14_L2 F a1 k25 tl2
def M14_L1 (F : Nat) (k4 : Option Int) : List TPolicyRule → (List ((List UInt8) × Bool)) → Option Int
  | [], m8 => k4
  | x10 :: tl1, m8 => (M34 F x10.Name).bind fun y12 => if (!y12) = true then some 8
 else if ((mget m8 x10.Name).getD false) = true then some 5
 else (M34 F x10.About).bind fun y16 => if (!y16) = true then some 8
 else (M12 F x10.When).bind fun y19 => if (y19 != 0) = true then some y19
 else if (decide (x10.Level < 1)) = true then some 7
 else if (decide (x10.Level > 4)) = true then some 7
 else M14_L1 F k4 tl1 (mput m8 x10.Name true)
def M14 (F : Nat) (a1 : TPolicy) : Option Int :=
 if (decide (((a1.Rules.length : Nat) : Int) > 100)) = true then some 3
 else if (decide (((a1.Waivers.length : Nat) : Int) > 200)) = true then some 3
 else jn (jn (some 0) (fun k25 => M14_L2 F a1 k25 a1.Waivers)) (fun k4 => M14_L1 F k4 a1.Rules ([] : List ((List UInt8) × Bool)))
def M72_L1 (F : Nat) (a2 : (List UInt8)) (k3 : Option Int) : List TPolicyRule → Int → Option Int
  | [], n5 => k3
  | x7 :: tl1, n5 => if (x7.Name == a2) = true then some n5
 else M72_L1 F a2 k3 tl1 (n5 + 1)
def M72 (F : Nat) (a1 : (List TPolicyRule)) (a2 : (List UInt8)) : Option Int :=
 jn (some (-1)) (fun k3 => M72_L1 F a2 k3 a1 0)
def M46 (F : Nat) (a1 : TPolicy) (a2 : Int) : Option Int :=
 (idx a1.Rules a2).bind fun x3 => (M37 F x3.Name).bind fun y5 => if (!y5) = true then some 8
 else if 0 ≤ a2 ∧ a2.toNat ≤ a1.Rules.length then (M72 F (a1.Rules.take a2.toNat) x3.Name).bind fun y9 => if (decide (y9 ≥ 0)) = true then some 5
 else (M37 F x3.About).bind fun y12 => if (!y12) = true then some 8
 else (M13 F x3.When).bind fun y15 => if (y15 != 0) = true then some y15
 else (M39 F x3.Level 1 4).bind fun y18 => if y18 = true then some 7
 else some 0 else none
def M47_L1 (F : Nat) (a2 : TWaiver) (k9 : Option Int) : Nat → Int → Option Int
 | 0, _ => none
 | n + 1, n11 => if (decide ((w64 (n11 + 1)) < (a2.Subject.length : Int))) = true then (idx a2.Subject n11).bind fun c13 => if ((c13.toNat : Int) == 42) = true then some 2
 else M47_L1 F a2 k9 n (w64 (n11 + 1))
 else k9
def M47 (F : Nat) (a1 : TPolicy) (a2 : TWaiver) : Option Int :=
 (M72 F a1.Rules a2.Rule).bind fun y3 => if (decide (y3 < 0)) = true then some 4
 else (M38 F a2.Subject).bind fun y6 => if (!y6) = true then some 2
 else jn ((M39 F a2.From 0 a2.To).bind fun y16 => if y16 = true then some 9
 else if (decide (a2.To > 1000000)) = true then some 9
 else (M37 F a2.Owner).bind fun y20 => if (!y20) = true then some 8
 else (M39 F a2.Level 1 3).bind fun y23 => if y23 = true then some 7
 else some 0) (fun k9 => M47_L1 F a2 k9 F 0)
def M15_L2 (F : Nat) (a1 : TPolicy) (k12 : Option Int) : Nat → Int → Option Int
  | 0, n14 => k12
  | tl2 + 1, n14 => (idx a1.Waivers n14).bind fun x16 => (M47 F a1 x16).bind fun y18 => if (y18 != 0) = true then some y18
 else M15_L2 F a1 k12 tl2 (n14 + 1)
def M15_L1 (F : Nat) (a1 : TPolicy) (k4 : Option Int) : Nat → Int → Option Int
  | 0, n6 => k4
  | tl1 + 1, n6 => (M46 F a1 n6).bind fun y8 => if (y8 != 0) = true then some y8
 else M15_L1 F a1 k4 tl1 (n6 + 1)
def M15 (F : Nat) (a1 : TPolicy) : Option Int :=
 if (decide (((a1.Rules.length : Nat) : Int) > 100)) = true then some 3
 else if (decide (((a1.Waivers.length : Nat) : Int) > 200)) = true then some 3
 else jn (jn (some 0) (fun k12 => if ((a1.Waivers.length : Nat) : Int) ≤ 9223372036854775807 then M15_L2 F a1 k12 ((((a1.Waivers.length : Nat) : Int) : Int).toNat) 0 else none)) (fun k4 => M15_L1 F a1 k4 ((((a1.Rules.length : Nat) : Int) : Int).toNat) 0)
def M16 (F : Nat) : Option Bool := some true
def M81 (F : Nat) (a1 : TPolicyRule) (a2 : List UInt8) (a3 : List UInt8) (a4 : List TPair) (a5 : List TAmount) : Option Bool :=
 if (a1.About == a2) = true then (M31 F a1.When).bind fun y7 => (M32 F (TFact.mk a2 a3 a4 a5)).bind fun y9 => if y7.t ∈ ([105, 106, 108, 110, 112, 114, 115, 117] : List Nat) then (Miholds F y7 y9).bind fun y12 => some (y12 == 1) else none
 else some false
def M80_1_L1 (F : Nat) (a2 : List UInt8) (a3 : List UInt8) (a4 : List TPair) (a5 : List TAmount) (k6 : Option Int) : List TPolicyRule → Int → Option Int
  | [], n8 => k6
  | x10 :: tl1, n8 => (M81 F x10 a2 a3 a4 a5).bind fun y12 => if y12 = true then some n8
 else M80_1_L1 F a2 a3 a4 a5 k6 tl1 (n8 + 1)
def M80_1 (F : Nat) (a1 : (List TPolicyRule)) (a2 : List UInt8) (a3 : List UInt8) (a4 : List TPair) (a5 : List TAmount) : Option Int :=
 jn (some (-1)) (fun k6 => M80_1_L1 F a2 a3 a4 a5 k6 a1 0)
def M52 (F : Nat) (a1 : TPolicy) (a2 : TFact) : Option Int :=
 (M80_1 F a1.Rules a2.Kind a2.Subject a2.Texts a2.Numbers).bind fun y3 => some y3
def M78_L1 (F : Nat) (k3 : Option Int) : List TFact → Option Int
  | [] => k3
  | x7 :: tl1 => (M10 F x7).bind fun y9 => if (y9 != 0) = true then some y9
 else M78_L1 F k3 tl1
def M78 (F : Nat) (a1 : (List TFact)) : Option Int :=
 if (decide (((a1.length : Nat) : Int) > 5000)) = true then some 3
 else jn (some 0) (fun k3 => M78_L1 F k3 a1)
def M49 (F : Nat) (a1 : TPolicy) (a2 : (List TFact)) (a3 : Int) : Option Int :=
 (M14 F a1).bind fun y4 => if (y4 != 0) = true then some y4
 else (M78 F a2).bind fun y7 => if (y7 != 0) = true then some y7
 else if (decide (a3 < 0)) = true then some 9
 else if (decide (a3 > 1000000)) = true then some 9
 else some 0
def M134 (F : Nat) (a1 : (List UInt8)) (a2 : (List UInt8)) : Option Bool :=
 if (decide ((a1.length : Int) ≥ (a2.length : Int))) = true then if 0 ≤ (w64 ((a1.length : Int) - (a2.length : Int))) ∧ (w64 ((a1.length : Int) - (a2.length : Int))).toNat ≤ a1.length then some ((a1.drop (w64 ((a1.length : Int) - (a2.length : Int))).toNat) == a2) else none
 else some false
def M123 (F : Nat) (a1 : (List UInt8)) (a2 : (List UInt8)) : Option ((List UInt8) × Bool) :=
 (M134 F a1 a2).bind fun y3 => if (!y3) = true then some (a1, false)
 else if 0 ≤ (w64 ((a1.length : Int) - (a2.length : Int))) ∧ (w64 ((a1.length : Int) - (a2.length : Int))).toNat ≤ a1.length then some ((a1.take (w64 ((a1.length : Int) - (a2.length : Int))).toNat), true) else none
def M100 (F : Nat) (a1 : (List UInt8)) (a2 : (List UInt8)) : Option ((List UInt8) × Bool) :=
 (M123 F a1 a2).bind fun y3 => some ((y3.1), (y3.2))
def M79 (F : Nat) (a1 : TWaiver) (a2 : (List UInt8)) : Option Bool :=
 (M100 F a1.Subject ([42] : List UInt8)).bind fun y3 => if (y3.2) = true then (M93 F a2 (y3.1)).bind fun y6 => some y6
 else some (a1.Subject == a2)
def M51_L2 (F : Nat) (x12 : TFact) (x20 : TPolicyRule) (k22 : (List Int) → Option (List Tpolicy_ruling)) : List TWaiver → Int → (List Int) → Option (List Tpolicy_ruling)
  | [], n26, l27 => k22 l27
  | x31 :: tl2, n26, l27 => jn (fun (l30 : List Int) => M51_L2 F x12 x20 k22 tl2 (n26 + 1) l30) (fun k29 => if (x31.Rule == x20.Name) = true then if (decide (x31.Level < x20.Level)) = true then (M79 F x31 x12.Subject).bind fun y35 => jn (fun (l38 : List Int) => k29 l38) (fun k37 => if y35 = true then if (l27 ++ ([n26] : List Int)).length * 8 ≤ 140737488355328 then k37 (l27 ++ ([n26] : List Int)) else none
 else k37 l27)
 else k29 l27
 else k29 l27)
def M51_L1 (F : Nat) (a1 : TPolicy) (k3 : (List Tpolicy_ruling) → Option (List Tpolicy_ruling)) : List TFact → (List Tpolicy_ruling) → Option (List Tpolicy_ruling)
  | [], l8 => k3 l8
  | x12 :: tl1, l8 => jn (fun (l11 : List Tpolicy_ruling) => M51_L1 F a1 k3 tl1 l11) (fun k10 => (M52 F a1 x12).bind fun y14 => jn (fun (n17 : Int) (l18 : List Int) => if (l8 ++ ([(Tpolicy_ruling.mk y14 n17 l18)] : List Tpolicy_ruling)).length * 40 ≤ 140737488355328 then k10 (l8 ++ ([(Tpolicy_ruling.mk y14 n17 l18)] : List Tpolicy_ruling)) else none) (fun k16 => if (decide (y14 ≥ 0)) = true then (idx a1.Rules y14).bind fun x20 => jn (fun (l23 : List Int) => k16 x20.Level l23) (fun k22 => M51_L2 F x12 x20 k22 a1.Waivers 0 ([] : List Int))
 else k16 1 ([] : List Int)))
def M51 (F : Nat) (a1 : TPolicy) (a2 : (List TFact)) : Option (List Tpolicy_ruling) :=
 jn (fun (l4 : List Tpolicy_ruling) => some l4) (fun k3 => M51_L1 F a1 k3 a2 ([] : List Tpolicy_ruling))
def M50_L2 (F : Nat) (a1 : TPolicy) (a3 : Int) (x13 : Tpolicy_ruling) (k15 : Int → Int → Option (List TDecision)) : List Int → Option (List TDecision)
  | [] => k15 (-1) x13.level
  | x22 :: tl2 => jn (M50_L2 F a1 a3 x13 k15 tl2 ) (fun k21 => (idx a1.Waivers x22).bind fun x24 => if (decide (a3 ≥ x24.From)) = true then if (decide (a3 ≤ x24.To)) = true then k15 x22 x24.Level
 else k21
 else k21)
def M50_L1 (F : Nat) (a1 : TPolicy) (a3 : Int) (k4 : (List TDecision) → Option (List TDecision)) : List Tpolicy_ruling → Int → (List TDecision) → Option (List TDecision)
 | [], n8, l9 => k4 l9
 | x13 :: tl1, n8, l9 => jn (fun (l12 : List TDecision) => M50_L1 F a1 a3 k4 tl1 (n8 + 1) l12) (fun k11 => jn (fun (n16 : Int) (n17 : Int) => if (l9 ++ ([(TDecision.mk n8 x13.rule n16 n17)] : List TDecision)).length * 32 ≤ 140737488355328 then k11 (l9 ++ ([(TDecision.mk n8 x13.rule n16 n17)] : List TDecision)) else none) (fun k15 => M50_L2 F a1 a3 x13 k15 x13.waivers))
def M50 (F : Nat) (a1 : TPolicy) (a2 : (List Tpolicy_ruling)) (a3 : Int) : Option (List TDecision) :=
 jn (fun (l5 : List TDecision) => some l5) (fun k4 => M50_L1 F a1 a3 k4 a2 0 ([] : List TDecision))
def M17 (F : Nat) (a1 : TPolicy) (a2 : (List TFact)) (a3 : Int) : Option ((List TDecision) × Int) :=
 (M49 F a1 a2 a3).bind fun y4 => if (y4 != 0) = true then some (([] : List TDecision), y4)
 else (M51 F a1 a2).bind fun y7 => (M50 F a1 y7 a3).bind fun y9 => some (y9, 0)
def M18 (F : Nat) (a1 : (List TWaiver)) : Option (List TWaiver) :=
 nilq a1.length (fun b7 => if b7 = true then some ([] : List TWaiver)
 else if (([] : List TWaiver) ++ a1).length * 72 ≤ 140737488355328 then some (([] : List TWaiver) ++ a1) else none)
def M4_L1 (F : Nat) (y5 : ((List TDecision) × Int)) (y10 : ((List TDecision) × Int)) (y15 : ((List TDecision) × Int)) (k31 : Option Bool) : List TDecision → Int → Option Bool
  | [], n33 => k31
  | x39 :: tl1, n33 => jn (fun (b36 : Bool) (b37 : Bool) (b38 : Bool) => M4_L1 F y5 y10 y15 k31 tl1 (n33 + 1)) (fun k35 => (idx (y10.1) n33).bind fun x41 => if (decide (x39.Level > x41.Level)) = true then some false
 else (idx (y5.1) n33).bind fun x44 => (idx (y5.1) n33).bind fun x46 => (idx (y10.1) n33).bind fun x48 => if ((decide (x44.Waiver ≥ 0)) != (decide (x46.Level < x48.Level))) = true then some false
 else (idx (y15.1) n33).bind fun x51 => (idx (y5.1) n33).bind fun x53 => if (decide (x51.Level > x53.Level)) = true then some false
 else (idx (y5.1) n33).bind fun x56 => if (decide (x56.Waiver ≥ 0)) = true then (idx (y15.1) n33).bind fun x59 => (idx (y5.1) n33).bind fun x61 => if (!(decide (x59 = x61))) = true then some false
 else k35 ((decide (x44.Waiver ≥ 0)) != (decide (x46.Level < x48.Level))) (decide (x51.Level > x53.Level)) (!(decide (x59 = x61)))
 else k35 ((decide (x44.Waiver ≥ 0)) != (decide (x46.Level < x48.Level))) (decide (x51.Level > x53.Level)) false)
def M4 (F : Nat) (a1 : TPolicy) (a2 : (List TFact)) (a3 : TWaiver) (a4 : Int) : Option Bool :=
 (M17 F a1 a2 a4).bind fun y5 => if ((y5.2) != 0) = true then (M16 F).bind fun y8 => some y8
 else (M17 F (TPolicy.mk a1.Rules ([] : List TWaiver)) a2 a4).bind fun y10 => (M18 F a1.Waivers).bind fun y12 => if (y12 ++ ([a3] : List TWaiver)).length * 72 ≤ 140737488355328 then (M17 F (TPolicy.mk a1.Rules (y12 ++ ([a3] : List TWaiver))) a2 a4).bind fun y15 => if ((y10.2) != 0) = true then if ((y10.2) == 0) = true then (M15 F (TPolicy.mk a1.Rules (y12 ++ ([a3] : List TWaiver)))).bind fun y19 => if ((y15.2) == y19) = true then (M16 F).bind fun y22 => some y22
 else some false
 else some false
 else if ((y15.2) != 0) = true then if ((y10.2) == 0) = true then (M15 F (TPolicy.mk a1.Rules (y12 ++ ([a3] : List TWaiver)))).bind fun y26 => if ((y15.2) == y26) = true then (M16 F).bind fun y29 => some y29
 else some false
 else some false
 else jn ((M16 F).bind fun y65 => some y65) (fun k31 => M4_L1 F y5 y10 y15 k31 (y5.1) 0) else none
end
end Go.Proofs.YtkeeppclihjlhaaGreatDoor
