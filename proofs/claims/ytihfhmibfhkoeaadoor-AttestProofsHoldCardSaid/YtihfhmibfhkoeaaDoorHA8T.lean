/- Part of the proof: A8T. -/
import Derived.Test.YtihfhmibfhkoeaaDoorHPvZ
import Derived.Test.YtihfhmibfhkoeaaDoorHZA
import Derived.Lib.Repeat
import Derived.Lib.ItoaLen
import Derived.Test.YtihfhmibfhkoeaaDoorHWA
import Derived.Test.YtihfhmibfhkoeaaDoorProg
import Derived.KernelRfl
namespace Go.Proofs.YtihfhmibfhkoeaaDoor
open Go Go.Pv
set_option linter.unusedVariables false
set_option maxRecDepth 100000
theorem mixed : Tryd.prog.follows .mixedOrders = true := by kernel_rfl
structure TKey where
  Name : (List UInt8)
  Secret : (List UInt8)
  Public : (List UInt8)
  deriving DecidableEq
structure TSignature where
  Key : (List UInt8)
  Text : (List UInt8)
  deriving DecidableEq
def tab0 : Nat → Int := fun i => ([1, 10, 100, 1000, 10000, 100000, 1000000, 10000000, 100000000, 1000000000, 10000000000, 100000000000, 1000000000000, 10000000000000, 100000000000000, 1000000000000000, 10000000000000000, 100000000000000000, 1000000000000000000, 10000000000000000000] : List Int).getD i 0
def tab3 : Nat → Int := fun i => ([0, 1, 56, 2, 57, 49, 28, 3, 61, 58, 42, 50, 38, 29, 17, 4, 62, 47, 59, 36, 45, 43, 51, 22, 53, 39, 33, 30, 24, 18, 12, 5, 63, 55, 48, 27, 60, 41, 37, 16, 46, 35, 44, 21, 52, 32, 23, 11, 54, 26, 40, 15, 34, 20, 31, 10, 25, 14, 19, 9, 13, 8, 7, 6] : List Int).getD i 0
def gl : Gl := [(0, [V.con (.int .u64 (tab0 0)), V.con (.int .u64 (tab0 1)), V.con (.int .u64 (tab0 2)), V.con (.int .u64 (tab0 3)), V.con (.int .u64 (tab0 4)), V.con (.int .u64 (tab0 5)), V.con (.int .u64 (tab0 6)), V.con (.int .u64 (tab0 7)), V.con (.int .u64 (tab0 8)), V.con (.int .u64 (tab0 9)), V.con (.int .u64 (tab0 10)), V.con (.int .u64 (tab0 11)), V.con (.int .u64 (tab0 12)), V.con (.int .u64 (tab0 13)), V.con (.int .u64 (tab0 14)), V.con (.int .u64 (tab0 15)), V.con (.int .u64 (tab0 16)), V.con (.int .u64 (tab0 17)), V.con (.int .u64 (tab0 18)), V.con (.int .u64 (tab0 19))]), (3, [V.con (.int .u8 (tab3 0)), V.con (.int .u8 (tab3 1)), V.con (.int .u8 (tab3 2)), V.con (.int .u8 (tab3 3)), V.con (.int .u8 (tab3 4)), V.con (.int .u8 (tab3 5)), V.con (.int .u8 (tab3 6)), V.con (.int .u8 (tab3 7)), V.con (.int .u8 (tab3 8)), V.con (.int .u8 (tab3 9)), V.con (.int .u8 (tab3 10)), V.con (.int .u8 (tab3 11)), V.con (.int .u8 (tab3 12)), V.con (.int .u8 (tab3 13)), V.con (.int .u8 (tab3 14)), V.con (.int .u8 (tab3 15)), V.con (.int .u8 (tab3 16)), V.con (.int .u8 (tab3 17)), V.con (.int .u8 (tab3 18)), V.con (.int .u8 (tab3 19)), V.con (.int .u8 (tab3 20)), V.con (.int .u8 (tab3 21)), V.con (.int .u8 (tab3 22)), V.con (.int .u8 (tab3 23)), V.con (.int .u8 (tab3 24)), V.con (.int .u8 (tab3 25)), V.con (.int .u8 (tab3 26)), V.con (.int .u8 (tab3 27)), V.con (.int .u8 (tab3 28)), V.con (.int .u8 (tab3 29)), V.con (.int .u8 (tab3 30)), V.con (.int .u8 (tab3 31)), V.con (.int .u8 (tab3 32)), V.con (.int .u8 (tab3 33)), V.con (.int .u8 (tab3 34)), V.con (.int .u8 (tab3 35)), V.con (.int .u8 (tab3 36)), V.con (.int .u8 (tab3 37)), V.con (.int .u8 (tab3 38)), V.con (.int .u8 (tab3 39)), V.con (.int .u8 (tab3 40)), V.con (.int .u8 (tab3 41)), V.con (.int .u8 (tab3 42)), V.con (.int .u8 (tab3 43)), V.con (.int .u8 (tab3 44)), V.con (.int .u8 (tab3 45)), V.con (.int .u8 (tab3 46)), V.con (.int .u8 (tab3 47)), V.con (.int .u8 (tab3 48)), V.con (.int .u8 (tab3 49)), V.con (.int .u8 (tab3 50)), V.con (.int .u8 (tab3 51)), V.con (.int .u8 (tab3 52)), V.con (.int .u8 (tab3 53)), V.con (.int .u8 (tab3 54)), V.con (.int .u8 (tab3 55)), V.con (.int .u8 (tab3 56)), V.con (.int .u8 (tab3 57)), V.con (.int .u8 (tab3 58)), V.con (.int .u8 (tab3 59)), V.con (.int .u8 (tab3 60)), V.con (.int .u8 (tab3 61)), V.con (.int .u8 (tab3 62)), V.con (.int .u8 (tab3 63))])]
def encI_u8 (x : Int) : List V := [(V.con (.int .u8 x))]
theorem imms_encI_u8 (x : Int) : Imms (encI_u8 x) := (.cons (Imm.con _) .nil)
theorem one_encI_u8 (x : Int) : (encI_u8 x).all oneV = true := rfl
instance : EI encI_u8 := ⟨imms_encI_u8, one_encI_u8⟩
def encS (x : (List UInt8)) : List V := [(sV x)]
theorem imms_encS (x : (List UInt8)) : Imms (encS x) := (.cons (Imm.con _) .nil)
theorem one_encS (x : (List UInt8)) : (encS x).all oneV = true := rfl
instance : EI encS := ⟨imms_encS, one_encS⟩
def encTKey (x : TKey) : List V := [(sV x.Name), (sV x.Secret), (sV x.Public)]
theorem imms_encTKey (x : TKey) : Imms (encTKey x) := (.cons (Imm.con _) (.cons (Imm.con _) (.cons (Imm.con _) .nil)))
theorem one_encTKey (x : TKey) : (encTKey x).all oneV = true := rfl
instance : EI encTKey := ⟨imms_encTKey, one_encTKey⟩
@[simp] theorem len_encTKey (x : TKey) : (encTKey x).length = 3 := rfl
def encTSignature (x : TSignature) : List V := [(sV x.Key), (sV x.Text)]
theorem imms_encTSignature (x : TSignature) : Imms (encTSignature x) := (.cons (Imm.con _) (.cons (Imm.con _) .nil))
theorem one_encTSignature (x : TSignature) : (encTSignature x).all oneV = true := rfl
instance : EI encTSignature := ⟨imms_encTSignature, one_encTSignature⟩
@[simp] theorem len_encTSignature (x : TSignature) : (encTSignature x).length = 2 := rfl
theorem eqp9 {d : Nat} : EqOk Tryd.prog (d + 1) 9 1 false (fun l => ∃ n, l = [.string n]) := eqOk_str (show Tryd.prog.underlying 9 = some (.string) by kernel_rfl) (show tyC Tryd.prog 9 = true by kernel_rfl)
def cv25 (x : TSignature) : List Value := [str x.Key] ++ ([str x.Text] ++ [])
theorem inj_cv25 (x y : TSignature) (h : cv25 x = cv25 y) : x = y := by
  obtain ⟨h0, h⟩ := List.append_inj h rfl
  obtain ⟨h1, h⟩ := List.append_inj h rfl
  obtain ⟨a0, a1⟩ := x
  obtain ⟨b0, b1⟩ := y
  obtain rfl : a0 = b0 := inj_str _ _ (List.cons.inj h0).1
  obtain rfl : a1 = b1 := inj_str _ _ (List.cons.inj h1).1
  rfl
theorem eqp25 {d : Nat} : EqOk Tryd.prog (d + 2) 25 2 true (fun l => ∃ x : TSignature, l = cv25 x) := (eqOk_struct (d := d + 1) (fs := [(Field.mk "Key" 9 0 false "" "" 0), (Field.mk "Text" 9 1 false "" "" 16)]) (by kernel_rfl) (by kernel_rfl) (by kernel_rfl) (by kernel_rfl) (eqF_cons eqp9 (by simp) rfl (by simp) (eqF_cons eqp9 (by simp) rfl (by simp) eqF_nil))).weaken (fun l ⟨x, hx⟩ => by subst hx; exact ⟨_, _, rfl, ⟨_, rfl⟩, ⟨_, _, rfl, ⟨_, rfl⟩, rfl⟩⟩)
theorem eqk25 : EqOk Tryd.prog 10000 25 2 true (fun l => ∃ x : TSignature, l = cv25 x) := eqp25 (d := 9998)
theorem tS23 : tyS Tryd.prog 23 3 = true := by kernel_rfl
theorem tS25 : tyS Tryd.prog 25 2 = true := by kernel_rfl
theorem tZ23 : zeroCells Tryd.prog 23 = some [.string ⟨#[]⟩, .string ⟨#[]⟩, .string ⟨#[]⟩] := by kernel_rfl
theorem tStr9 : tyStr Tryd.prog 9 = true := by kernel_rfl
theorem fOk61 : fnOk Tryd.prog 61 = true := by kernel_rfl
theorem tPl23 : tyPlaces Tryd.prog 23 = some [(0, 1), (1, 1), (2, 1)] := by kernel_rfl
theorem tA23 : tyA Tryd.prog 23 3 = true := by kernel_rfl
theorem tI141 : tyI Tryd.prog 141 .u64 = true := by kernel_rfl
theorem tUn5 : tyU Tryd.prog 5 = true := by kernel_rfl
theorem tI3 : tyI Tryd.prog 3 .i64 = true := by kernel_rfl
theorem tUn141 : tyU Tryd.prog 141 = true := by kernel_rfl
theorem fOk146 : fnOk Tryd.prog 146 = true := by kernel_rfl
theorem tZ170 : zeroCells Tryd.prog 170 = some [.int .u8 0, .int .u8 0, .int .u8 0, .int .u8 0, .int .u8 0, .int .u8 0, .int .u8 0, .int .u8 0, .int .u8 0, .int .u8 0, .int .u8 0, .int .u8 0, .int .u8 0, .int .u8 0, .int .u8 0, .int .u8 0, .int .u8 0, .int .u8 0, .int .u8 0, .int .u8 0, .int .u8 0, .int .u8 0, .int .u8 0, .int .u8 0] := by kernel_rfl
theorem tI5 : tyI Tryd.prog 5 .u8 = true := by kernel_rfl
theorem fOk155 : fnOk Tryd.prog 155 = true := by kernel_rfl
theorem fOk154 : fnOk Tryd.prog 154 = true := by kernel_rfl
theorem fOk156 : fnOk Tryd.prog 156 = true := by kernel_rfl
theorem fOk147 : fnOk Tryd.prog 147 = true := by kernel_rfl
theorem tZ182 : zeroCells Tryd.prog 182 = some [.int .u8 0, .int .u8 0, .int .u8 0, .int .u8 0, .int .u8 0, .int .u8 0, .int .u8 0, .int .u8 0, .int .u8 0, .int .u8 0, .int .u8 0, .int .u8 0, .int .u8 0, .int .u8 0, .int .u8 0, .int .u8 0, .int .u8 0, .int .u8 0, .int .u8 0, .int .u8 0, .int .u8 0, .int .u8 0, .int .u8 0, .int .u8 0, .int .u8 0, .int .u8 0, .int .u8 0, .int .u8 0, .int .u8 0, .int .u8 0, .int .u8 0, .int .u8 0, .int .u8 0, .int .u8 0, .int .u8 0, .int .u8 0, .int .u8 0, .int .u8 0, .int .u8 0, .int .u8 0, .int .u8 0, .int .u8 0, .int .u8 0, .int .u8 0, .int .u8 0, .int .u8 0, .int .u8 0, .int .u8 0, .int .u8 0, .int .u8 0, .int .u8 0, .int .u8 0, .int .u8 0, .int .u8 0, .int .u8 0, .int .u8 0, .int .u8 0, .int .u8 0, .int .u8 0, .int .u8 0, .int .u8 0, .int .u8 0, .int .u8 0, .int .u8 0, .int .u8 0] := by kernel_rfl
theorem fOk157 : fnOk Tryd.prog 157 = true := by kernel_rfl
theorem tI166 : tyI Tryd.prog 166 .u64 = true := by kernel_rfl
theorem tUn3 : tyU Tryd.prog 3 = true := by kernel_rfl
theorem tArr188 : tyArr Tryd.prog 188 64 1 = true := by kernel_rfl
theorem tC5 : tyC Tryd.prog 5 = true := by kernel_rfl
theorem fOk161 : fnOk Tryd.prog 161 = true := by kernel_rfl
theorem fOk158 : fnOk Tryd.prog 158 = true := by kernel_rfl
theorem tArr182 : tyArr Tryd.prog 182 65 1 = true := by kernel_rfl
theorem tS5 : tyS Tryd.prog 5 1 = true := by kernel_rfl
theorem tBy122 : tyBytes Tryd.prog 122 = true := by kernel_rfl
theorem fOk149 : fnOk Tryd.prog 149 = true := by kernel_rfl
theorem fOk141 : fnOk Tryd.prog 141 = true := by kernel_rfl
theorem fOk134 : fnOk Tryd.prog 134 = true := by kernel_rfl
theorem fOk135 : fnOk Tryd.prog 135 = true := by kernel_rfl
theorem fOk114 : fnOk Tryd.prog 114 = true := by kernel_rfl
theorem fOk62 : fnOk Tryd.prog 62 = true := by kernel_rfl
theorem fOk12 : fnOk Tryd.prog 12 = true := by kernel_rfl
theorem fOk63 : fnOk Tryd.prog 63 = true := by kernel_rfl
theorem tEl122 : tyEl Tryd.prog 122 5 1 1 = true := by kernel_rfl
theorem tZ5 : zeroCells Tryd.prog 5 = some [.int .u8 0] := by kernel_rfl
theorem tIsSl122 : tySlice Tryd.prog 122 = true := by kernel_rfl
theorem fOk64 : fnOk Tryd.prog 64 = true := by kernel_rfl
theorem fOk13 : fnOk Tryd.prog 13 = true := by kernel_rfl
theorem tZ25 : zeroCells Tryd.prog 25 = some [.string ⟨#[]⟩, .string ⟨#[]⟩] := by kernel_rfl
theorem tF23_0 : tyF Tryd.prog 23 0 0 = true := by kernel_rfl
theorem tC9 : tyC Tryd.prog 9 = true := by kernel_rfl
theorem tF23_2 : tyF Tryd.prog 23 2 2 = true := by kernel_rfl
theorem tZ143 : zeroCells Tryd.prog 143 = some [.int .u8 0, .int .u8 0, .int .u8 0, .int .u8 0, .int .u8 0, .int .u8 0, .int .u8 0, .int .u8 0, .int .u8 0, .int .u8 0, .int .u8 0, .int .u8 0, .int .u8 0, .int .u8 0, .int .u8 0, .int .u8 0] := by kernel_rfl
theorem tA143 : tyA Tryd.prog 143 16 = true := by kernel_rfl
theorem tS143 : tyS Tryd.prog 143 16 = true := by kernel_rfl
theorem tArr143 : tyArr Tryd.prog 143 16 1 = true := by kernel_rfl
theorem fOk115 : fnOk Tryd.prog 115 = true := by kernel_rfl
theorem fOk73 : fnOk Tryd.prog 73 = true := by kernel_rfl
theorem tF23_1 : tyF Tryd.prog 23 1 1 = true := by kernel_rfl
theorem tAB143 : tyAB Tryd.prog 143 16 = true := by kernel_rfl
theorem fOk76 : fnOk Tryd.prog 76 = true := by kernel_rfl
theorem fOk65 : fnOk Tryd.prog 65 = true := by kernel_rfl
theorem tPl25 : tyPlaces Tryd.prog 25 = some [(0, 1), (1, 1)] := by kernel_rfl
theorem tA25 : tyA Tryd.prog 25 2 = true := by kernel_rfl
theorem fOk66 : fnOk Tryd.prog 66 = true := by kernel_rfl
theorem fOk14 : fnOk Tryd.prog 14 = true := by kernel_rfl
theorem fOk118 : fnOk Tryd.prog 118 = true := by kernel_rfl
theorem fOk77 : fnOk Tryd.prog 77 = true := by kernel_rfl
theorem fOk67 : fnOk Tryd.prog 67 = true := by kernel_rfl
theorem fOk68 : fnOk Tryd.prog 68 = true := by kernel_rfl
theorem fOk15 : fnOk Tryd.prog 15 = true := by kernel_rfl
theorem tEqG25 : Tryd.prog.eqGuardType Tryd.prog.depth 25 = false := by kernel_rfl
theorem fOk16 : fnOk Tryd.prog 16 = true := by kernel_rfl
theorem fOk17 : fnOk Tryd.prog 17 = true := by kernel_rfl
theorem tB4 : tyB Tryd.prog 4 = true := by kernel_rfl
theorem tF25_0 : tyF Tryd.prog 25 0 0 = true := by kernel_rfl
theorem fOk18 : fnOk Tryd.prog 18 = true := by kernel_rfl
theorem tS9 : tyS Tryd.prog 9 1 = true := by kernel_rfl
theorem tS37 : tyS Tryd.prog 37 4 = true := by kernel_rfl
theorem tZ37 : zeroCells Tryd.prog 37 = some [.int .i64 0, .string ⟨#[]⟩, .string ⟨#[]⟩, .string ⟨#[]⟩] := by kernel_rfl
theorem fOk69 : fnOk Tryd.prog 69 = true := by kernel_rfl
theorem tPl37 : tyPlaces Tryd.prog 37 = some [(0, 1), (1, 1), (2, 2)] := by kernel_rfl
theorem tA37 : tyA Tryd.prog 37 4 = true := by kernel_rfl
theorem fOk107 : fnOk Tryd.prog 107 = true := by kernel_rfl
theorem fOk70 : fnOk Tryd.prog 70 = true := by kernel_rfl
theorem fOk19 : fnOk Tryd.prog 19 = true := by kernel_rfl
theorem fOk71 : fnOk Tryd.prog 71 = true := by kernel_rfl
theorem fOk72 : fnOk Tryd.prog 72 = true := by kernel_rfl
theorem fOk20 : fnOk Tryd.prog 20 = true := by kernel_rfl
theorem tF37_0 : tyF Tryd.prog 37 0 0 = true := by kernel_rfl
theorem tC3 : tyC Tryd.prog 3 = true := by kernel_rfl
theorem tF37_1 : tyF Tryd.prog 37 1 1 = true := by kernel_rfl
theorem tF37_2 : tyF Tryd.prog 37 2 2 = true := by kernel_rfl
theorem fOk21 : fnOk Tryd.prog 21 = true := by kernel_rfl
theorem fOk22 : fnOk Tryd.prog 22 = true := by kernel_rfl
theorem tIsSl42 : tySlice Tryd.prog 42 = true := by kernel_rfl
theorem tSl42 : tySl Tryd.prog 42 1 = true := by kernel_rfl
theorem fOk74 : fnOk Tryd.prog 74 = true := by kernel_rfl
theorem fOk116 : fnOk Tryd.prog 116 = true := by kernel_rfl
theorem fOk75 : fnOk Tryd.prog 75 = true := by kernel_rfl
theorem fOk117 : fnOk Tryd.prog 117 = true := by kernel_rfl
theorem fOk23 : fnOk Tryd.prog 23 = true := by kernel_rfl
theorem fOk78 : fnOk Tryd.prog 78 = true := by kernel_rfl
theorem fOk119 : fnOk Tryd.prog 119 = true := by kernel_rfl
theorem fOk79 : fnOk Tryd.prog 79 = true := by kernel_rfl
theorem fOk120 : fnOk Tryd.prog 120 = true := by kernel_rfl
theorem fOk24 : fnOk Tryd.prog 24 = true := by kernel_rfl
theorem fOk80 : fnOk Tryd.prog 80 = true := by kernel_rfl
theorem fOk25 : fnOk Tryd.prog 25 = true := by kernel_rfl
theorem fOk81 : fnOk Tryd.prog 81 = true := by kernel_rfl
theorem fOk26 : fnOk Tryd.prog 26 = true := by kernel_rfl
theorem fOk82 : fnOk Tryd.prog 82 = true := by kernel_rfl
theorem fOk27 : fnOk Tryd.prog 27 = true := by kernel_rfl
theorem fOk28 : fnOk Tryd.prog 28 = true := by kernel_rfl
theorem fOk83 : fnOk Tryd.prog 83 = true := by kernel_rfl
theorem fOk29 : fnOk Tryd.prog 29 = true := by kernel_rfl
theorem fOk84 : fnOk Tryd.prog 84 = true := by kernel_rfl
theorem fOk85 : fnOk Tryd.prog 85 = true := by kernel_rfl
theorem fOk30 : fnOk Tryd.prog 30 = true := by kernel_rfl
theorem fOk86 : fnOk Tryd.prog 86 = true := by kernel_rfl
theorem tEl42 : tyEl Tryd.prog 42 9 1 16 = true := by kernel_rfl
theorem tZ9 : zeroCells Tryd.prog 9 = some [.string ⟨#[]⟩] := by kernel_rfl
theorem fOk31 : fnOk Tryd.prog 31 = true := by kernel_rfl
theorem fOk87 : fnOk Tryd.prog 87 = true := by kernel_rfl
theorem fOk32 : fnOk Tryd.prog 32 = true := by kernel_rfl
theorem fOk88 : fnOk Tryd.prog 88 = true := by kernel_rfl
theorem fOk33 : fnOk Tryd.prog 33 = true := by kernel_rfl
theorem fOk89 : fnOk Tryd.prog 89 = true := by kernel_rfl
theorem fOk34 : fnOk Tryd.prog 34 = true := by kernel_rfl
theorem fOk35 : fnOk Tryd.prog 35 = true := by kernel_rfl
theorem tZ103 : zeroCells Tryd.prog 103 = some [.slice none 0 0] := by kernel_rfl
theorem tPl103 : tyPlaces Tryd.prog 103 = some [(0, 1)] := by kernel_rfl
theorem tS103 : tyS Tryd.prog 103 1 = true := by kernel_rfl
theorem tZ105 : zeroCells Tryd.prog 105 = some [.slice none 0 0] := by kernel_rfl
theorem tPl105 : tyPlaces Tryd.prog 105 = some [(0, 1)] := by kernel_rfl
theorem tS105 : tyS Tryd.prog 105 1 = true := by kernel_rfl
theorem tIsSl52 : tySlice Tryd.prog 52 = true := by kernel_rfl
theorem tSl52 : tySl Tryd.prog 52 4 = true := by kernel_rfl
theorem tA61 : tyA Tryd.prog 61 4 = true := by kernel_rfl
theorem tZ61 : zeroCells Tryd.prog 61 = some [.int .i64 0, .int .i64 0, .int .i64 0, .string ⟨#[]⟩] := by kernel_rfl
theorem tS61 : tyS Tryd.prog 61 4 = true := by kernel_rfl
theorem tF61_2 : tyF Tryd.prog 61 2 2 = true := by kernel_rfl
def tt : TT := [(3, [.I .i64, .U, .C]), (4, [.B]), (5, [.U, .I .u8, .S 1]), (9, [.Str, .C, .S 1]), (12, [.Fn]), (13, [.Fn]), (14, [.Fn]), (15, [.Fn]), (16, [.Fn]), (17, [.Fn]), (18, [.Fn]), (19, [.Fn]), (20, [.Fn]), (21, [.Fn]), (22, [.Fn]), (23, [.S 3, .Z 3 [.string ⟨#[]⟩, .string ⟨#[]⟩, .string ⟨#[]⟩], .Pl [(0, 1), (1, 1), (2, 1)], .A 3, .F 0 0, .F 2 2, .F 1 1, .Fn]), (24, [.Fn]), (25, [.S 2, .Z 2 [.string ⟨#[]⟩, .string ⟨#[]⟩], .Pl [(0, 1), (1, 1)], .A 2, .F 0 0, .Fn]), (26, [.Fn]), (27, [.Fn]), (28, [.Fn]), (29, [.Fn]), (30, [.Fn]), (31, [.Fn]), (32, [.Fn]), (33, [.Fn]), (34, [.Fn]), (35, [.Fn]), (37, [.S 4, .Z 4 [.int .i64 0, .string ⟨#[]⟩, .string ⟨#[]⟩, .string ⟨#[]⟩], .Pl [(0, 1), (1, 1), (2, 2)], .A 4, .F 0 0, .F 1 1, .F 2 2]), (42, [.Sn, .Sl 1]), (52, [.Sn, .Sl 4]), (61, [.Fn, .A 4, .Z 4 [.int .i64 0, .int .i64 0, .int .i64 0, .string ⟨#[]⟩], .S 4, .F 2 2]), (62, [.Fn]), (63, [.Fn]), (64, [.Fn]), (65, [.Fn]), (66, [.Fn]), (67, [.Fn]), (68, [.Fn]), (69, [.Fn]), (70, [.Fn]), (71, [.Fn]), (72, [.Fn]), (73, [.Fn]), (74, [.Fn]), (75, [.Fn]), (76, [.Fn]), (77, [.Fn]), (78, [.Fn]), (79, [.Fn]), (80, [.Fn]), (81, [.Fn]), (82, [.Fn]), (83, [.Fn]), (84, [.Fn]), (85, [.Fn]), (103, [.Z 1 [.slice none 0 0], .Pl [(0, 1)], .S 1]), (105, [.Z 1 [.slice none 0 0], .Pl [(0, 1)], .S 1]), (107, [.Fn]), (114, [.Fn]), (115, [.Fn]), (116, [.Fn]), (117, [.Fn]), (118, [.Fn]), (119, [.Fn]), (120, [.Fn]), (122, [.El 5 1 1, .Sn]), (134, [.Fn]), (135, [.Fn]), (141, [.I .u64, .U, .Fn]), (143, [.Z 16 [.int .u8 0, .int .u8 0, .int .u8 0, .int .u8 0, .int .u8 0, .int .u8 0, .int .u8 0, .int .u8 0, .int .u8 0, .int .u8 0, .int .u8 0, .int .u8 0, .int .u8 0, .int .u8 0, .int .u8 0, .int .u8 0], .A 16, .S 16, .Arr 16 1]), (146, [.Fn]), (147, [.Fn]), (149, [.Fn]), (154, [.Fn]), (155, [.Fn]), (156, [.Fn]), (157, [.Fn]), (158, [.Fn]), (161, [.Fn]), (166, [.I .u64]), (170, [.Z 24 [.int .u8 0, .int .u8 0, .int .u8 0, .int .u8 0, .int .u8 0, .int .u8 0, .int .u8 0, .int .u8 0, .int .u8 0, .int .u8 0, .int .u8 0, .int .u8 0, .int .u8 0, .int .u8 0, .int .u8 0, .int .u8 0, .int .u8 0, .int .u8 0, .int .u8 0, .int .u8 0, .int .u8 0, .int .u8 0, .int .u8 0, .int .u8 0]]), (182, [.Z 65 [.int .u8 0, .int .u8 0, .int .u8 0, .int .u8 0, .int .u8 0, .int .u8 0, .int .u8 0, .int .u8 0, .int .u8 0, .int .u8 0, .int .u8 0, .int .u8 0, .int .u8 0, .int .u8 0, .int .u8 0, .int .u8 0, .int .u8 0, .int .u8 0, .int .u8 0, .int .u8 0, .int .u8 0, .int .u8 0, .int .u8 0, .int .u8 0, .int .u8 0, .int .u8 0, .int .u8 0, .int .u8 0, .int .u8 0, .int .u8 0, .int .u8 0, .int .u8 0, .int .u8 0, .int .u8 0, .int .u8 0, .int .u8 0, .int .u8 0, .int .u8 0, .int .u8 0, .int .u8 0, .int .u8 0, .int .u8 0, .int .u8 0, .int .u8 0, .int .u8 0, .int .u8 0, .int .u8 0, .int .u8 0, .int .u8 0, .int .u8 0, .int .u8 0, .int .u8 0, .int .u8 0, .int .u8 0, .int .u8 0, .int .u8 0, .int .u8 0, .int .u8 0, .int .u8 0, .int .u8 0, .int .u8 0, .int .u8 0, .int .u8 0, .int .u8 0, .int .u8 0]])]
theorem ok : TTok Tryd.prog tt := tt_all ⟨⟨tI3, tUn3, tC3, trivial⟩, ⟨tB4, trivial⟩, ⟨tUn5, tI5, tS5, trivial⟩, ⟨tStr9, tC9, tS9, trivial⟩, ⟨fOk12, trivial⟩, ⟨fOk13, trivial⟩, ⟨fOk14, trivial⟩, ⟨fOk15, trivial⟩, ⟨fOk16, trivial⟩, ⟨fOk17, trivial⟩, ⟨fOk18, trivial⟩, ⟨fOk19, trivial⟩, ⟨fOk20, trivial⟩, ⟨fOk21, trivial⟩, ⟨fOk22, trivial⟩, ⟨tS23, ⟨tZ23, rfl⟩, tPl23, tA23, tF23_0, tF23_2, tF23_1, fOk23, trivial⟩, ⟨fOk24, trivial⟩, ⟨tS25, ⟨tZ25, rfl⟩, tPl25, tA25, tF25_0, fOk25, trivial⟩, ⟨fOk26, trivial⟩, ⟨fOk27, trivial⟩, ⟨fOk28, trivial⟩, ⟨fOk29, trivial⟩, ⟨fOk30, trivial⟩, ⟨fOk31, trivial⟩, ⟨fOk32, trivial⟩, ⟨fOk33, trivial⟩, ⟨fOk34, trivial⟩, ⟨fOk35, trivial⟩, ⟨tS37, ⟨tZ37, rfl⟩, tPl37, tA37, tF37_0, tF37_1, tF37_2, trivial⟩, ⟨tIsSl42, tSl42, trivial⟩, ⟨tIsSl52, tSl52, trivial⟩, ⟨fOk61, tA61, ⟨tZ61, rfl⟩, tS61, tF61_2, trivial⟩, ⟨fOk62, trivial⟩, ⟨fOk63, trivial⟩, ⟨fOk64, trivial⟩, ⟨fOk65, trivial⟩, ⟨fOk66, trivial⟩, ⟨fOk67, trivial⟩, ⟨fOk68, trivial⟩, ⟨fOk69, trivial⟩, ⟨fOk70, trivial⟩, ⟨fOk71, trivial⟩, ⟨fOk72, trivial⟩, ⟨fOk73, trivial⟩, ⟨fOk74, trivial⟩, ⟨fOk75, trivial⟩, ⟨fOk76, trivial⟩, ⟨fOk77, trivial⟩, ⟨fOk78, trivial⟩, ⟨fOk79, trivial⟩, ⟨fOk80, trivial⟩, ⟨fOk81, trivial⟩, ⟨fOk82, trivial⟩, ⟨fOk83, trivial⟩, ⟨fOk84, trivial⟩, ⟨fOk85, trivial⟩, ⟨⟨tZ103, rfl⟩, tPl103, tS103, trivial⟩, ⟨⟨tZ105, rfl⟩, tPl105, tS105, trivial⟩, ⟨fOk107, trivial⟩, ⟨fOk114, trivial⟩, ⟨fOk115, trivial⟩, ⟨fOk116, trivial⟩, ⟨fOk117, trivial⟩, ⟨fOk118, trivial⟩, ⟨fOk119, trivial⟩, ⟨fOk120, trivial⟩, ⟨tEl122, tIsSl122, trivial⟩, ⟨fOk134, trivial⟩, ⟨fOk135, trivial⟩, ⟨tI141, tUn141, fOk141, trivial⟩, ⟨⟨tZ143, rfl⟩, tA143, tS143, tArr143, trivial⟩, ⟨fOk146, trivial⟩, ⟨fOk147, trivial⟩, ⟨fOk149, trivial⟩, ⟨fOk154, trivial⟩, ⟨fOk155, trivial⟩, ⟨fOk156, trivial⟩, ⟨fOk157, trivial⟩, ⟨fOk158, trivial⟩, ⟨fOk161, trivial⟩, ⟨tI166, trivial⟩, ⟨⟨tZ170, rfl⟩, trivial⟩, ⟨⟨tZ182, rfl⟩, trivial⟩, trivial⟩
instance {N : Nat} {w : World} {m : Mem} {o : Nat → Prop} {p : Nat} {l : Locs} {g : Gl} {h : GlOk g m} : TC ⟨Tryd.prog, N, w, m, o, p, l, g, h⟩ tt := ⟨ok⟩
end Go.Proofs.YtihfhmibfhkoeaaDoor
