/- Part of the proof: ATT. -/
import Derived.Test.YtiphmdpaajjdeaaGreatDoorGPvZ
import Derived.Test.YtiphmdpaajjdeaaGreatDoorGZA
import Derived.Lib.Repeat
import Derived.Lib.ItoaLen
import Derived.Test.YtiphmdpaajjdeaaGreatDoorGWA
import Derived.Test.YtiphmdpaajjdeaaGreatDoorGLM
import Derived.Test.YtiphmdpaajjdeaaGreatDoorProg
import Derived.KernelRfl
namespace Go.Proofs.YtiphmdpaajjdeaaGreatDoor
open Go Go.Pv
set_option linter.unusedVariables false
set_option maxRecDepth 100000
theorem mixed : Tryz.prog.follows .mixedOrders = true := by kernel_rfl
def tab0 : Nat → Int := fun i => ([1, 10, 100, 1000, 10000, 100000, 1000000, 10000000, 100000000, 1000000000, 10000000000, 100000000000, 1000000000000, 10000000000000, 100000000000000, 1000000000000000, 10000000000000000, 100000000000000000, 1000000000000000000, 10000000000000000000] : List Int).getD i 0
def tab3 : Nat → Int := fun i => ([0, 1, 56, 2, 57, 49, 28, 3, 61, 58, 42, 50, 38, 29, 17, 4, 62, 47, 59, 36, 45, 43, 51, 22, 53, 39, 33, 30, 24, 18, 12, 5, 63, 55, 48, 27, 60, 41, 37, 16, 46, 35, 44, 21, 52, 32, 23, 11, 54, 26, 40, 15, 34, 20, 31, 10, 25, 14, 19, 9, 13, 8, 7, 6] : List Int).getD i 0
def gl : Gl := [(0, [V.con (.int .u64 (tab0 0)), V.con (.int .u64 (tab0 1)), V.con (.int .u64 (tab0 2)), V.con (.int .u64 (tab0 3)), V.con (.int .u64 (tab0 4)), V.con (.int .u64 (tab0 5)), V.con (.int .u64 (tab0 6)), V.con (.int .u64 (tab0 7)), V.con (.int .u64 (tab0 8)), V.con (.int .u64 (tab0 9)), V.con (.int .u64 (tab0 10)), V.con (.int .u64 (tab0 11)), V.con (.int .u64 (tab0 12)), V.con (.int .u64 (tab0 13)), V.con (.int .u64 (tab0 14)), V.con (.int .u64 (tab0 15)), V.con (.int .u64 (tab0 16)), V.con (.int .u64 (tab0 17)), V.con (.int .u64 (tab0 18)), V.con (.int .u64 (tab0 19))]), (3, [V.con (.int .u8 (tab3 0)), V.con (.int .u8 (tab3 1)), V.con (.int .u8 (tab3 2)), V.con (.int .u8 (tab3 3)), V.con (.int .u8 (tab3 4)), V.con (.int .u8 (tab3 5)), V.con (.int .u8 (tab3 6)), V.con (.int .u8 (tab3 7)), V.con (.int .u8 (tab3 8)), V.con (.int .u8 (tab3 9)), V.con (.int .u8 (tab3 10)), V.con (.int .u8 (tab3 11)), V.con (.int .u8 (tab3 12)), V.con (.int .u8 (tab3 13)), V.con (.int .u8 (tab3 14)), V.con (.int .u8 (tab3 15)), V.con (.int .u8 (tab3 16)), V.con (.int .u8 (tab3 17)), V.con (.int .u8 (tab3 18)), V.con (.int .u8 (tab3 19)), V.con (.int .u8 (tab3 20)), V.con (.int .u8 (tab3 21)), V.con (.int .u8 (tab3 22)), V.con (.int .u8 (tab3 23)), V.con (.int .u8 (tab3 24)), V.con (.int .u8 (tab3 25)), V.con (.int .u8 (tab3 26)), V.con (.int .u8 (tab3 27)), V.con (.int .u8 (tab3 28)), V.con (.int .u8 (tab3 29)), V.con (.int .u8 (tab3 30)), V.con (.int .u8 (tab3 31)), V.con (.int .u8 (tab3 32)), V.con (.int .u8 (tab3 33)), V.con (.int .u8 (tab3 34)), V.con (.int .u8 (tab3 35)), V.con (.int .u8 (tab3 36)), V.con (.int .u8 (tab3 37)), V.con (.int .u8 (tab3 38)), V.con (.int .u8 (tab3 39)), V.con (.int .u8 (tab3 40)), V.con (.int .u8 (tab3 41)), V.con (.int .u8 (tab3 42)), V.con (.int .u8 (tab3 43)), V.con (.int .u8 (tab3 44)), V.con (.int .u8 (tab3 45)), V.con (.int .u8 (tab3 46)), V.con (.int .u8 (tab3 47)), V.con (.int .u8 (tab3 48)), V.con (.int .u8 (tab3 49)), V.con (.int .u8 (tab3 50)), V.con (.int .u8 (tab3 51)), V.con (.int .u8 (tab3 52)), V.con (.int .u8 (tab3 53)), V.con (.int .u8 (tab3 54)), V.con (.int .u8 (tab3 55)), V.con (.int .u8 (tab3 56)), V.con (.int .u8 (tab3 57)), V.con (.int .u8 (tab3 58)), V.con (.int .u8 (tab3 59)), V.con (.int .u8 (tab3 60)), V.con (.int .u8 (tab3 61)), V.con (.int .u8 (tab3 62)), V.con (.int .u8 (tab3 63))])]
def encI_u8 (x : Int) : List V := [(V.con (.int .u8 x))]
theorem imms_encI_u8 (x : Int) : Imms (encI_u8 x) := (.cons (Imm.con _) .nil)
theorem one_encI_u8 (x : Int) : (encI_u8 x).all oneV = true := rfl
instance : EI encI_u8 := ⟨imms_encI_u8, one_encI_u8⟩
def encS (x : (List UInt8)) : List V := [(sV x)]
theorem imms_encS (x : (List UInt8)) : Imms (encS x) := (.cons (Imm.con _) .nil)
theorem one_encS (x : (List UInt8)) : (encS x).all oneV = true := rfl
instance : EI encS := ⟨imms_encS, one_encS⟩
theorem tZ95 : zeroCells Tryz.prog 95 = some [.slice none 0 0] := by kernel_rfl
theorem tPl95 : tyPlaces Tryz.prog 95 = some [(0, 1)] := by kernel_rfl
theorem tS95 : tyS Tryz.prog 95 1 = true := by kernel_rfl
theorem fOk14 : fnOk Tryz.prog 14 = true := by kernel_rfl
theorem tIsSl50 : tySlice Tryz.prog 50 = true := by kernel_rfl
theorem tSl50 : tySl Tryz.prog 50 1 = true := by kernel_rfl
theorem tC9 : tyC Tryz.prog 9 = true := by kernel_rfl
theorem tStr9 : tyStr Tryz.prog 9 = true := by kernel_rfl
theorem tF95_0 : tyF Tryz.prog 95 0 0 = true := by kernel_rfl
theorem tC50 : tyC Tryz.prog 50 = true := by kernel_rfl
theorem tI151 : tyI Tryz.prog 151 .u64 = true := by kernel_rfl
theorem tUn5 : tyU Tryz.prog 5 = true := by kernel_rfl
theorem tI3 : tyI Tryz.prog 3 .i64 = true := by kernel_rfl
theorem tUn151 : tyU Tryz.prog 151 = true := by kernel_rfl
theorem fOk113 : fnOk Tryz.prog 113 = true := by kernel_rfl
theorem tZ182 : zeroCells Tryz.prog 182 = some [.int .u8 0, .int .u8 0, .int .u8 0, .int .u8 0, .int .u8 0, .int .u8 0, .int .u8 0, .int .u8 0, .int .u8 0, .int .u8 0, .int .u8 0, .int .u8 0, .int .u8 0, .int .u8 0, .int .u8 0, .int .u8 0, .int .u8 0, .int .u8 0, .int .u8 0, .int .u8 0, .int .u8 0, .int .u8 0, .int .u8 0, .int .u8 0] := by kernel_rfl
theorem tI5 : tyI Tryz.prog 5 .u8 = true := by kernel_rfl
theorem fOk131 : fnOk Tryz.prog 131 = true := by kernel_rfl
theorem fOk130 : fnOk Tryz.prog 130 = true := by kernel_rfl
theorem fOk132 : fnOk Tryz.prog 132 = true := by kernel_rfl
theorem fOk114 : fnOk Tryz.prog 114 = true := by kernel_rfl
theorem tZ204 : zeroCells Tryz.prog 204 = some [.int .u8 0, .int .u8 0, .int .u8 0, .int .u8 0, .int .u8 0, .int .u8 0, .int .u8 0, .int .u8 0, .int .u8 0, .int .u8 0, .int .u8 0, .int .u8 0, .int .u8 0, .int .u8 0, .int .u8 0, .int .u8 0, .int .u8 0, .int .u8 0, .int .u8 0, .int .u8 0, .int .u8 0, .int .u8 0, .int .u8 0, .int .u8 0, .int .u8 0, .int .u8 0, .int .u8 0, .int .u8 0, .int .u8 0, .int .u8 0, .int .u8 0, .int .u8 0, .int .u8 0, .int .u8 0, .int .u8 0, .int .u8 0, .int .u8 0, .int .u8 0, .int .u8 0, .int .u8 0, .int .u8 0, .int .u8 0, .int .u8 0, .int .u8 0, .int .u8 0, .int .u8 0, .int .u8 0, .int .u8 0, .int .u8 0, .int .u8 0, .int .u8 0, .int .u8 0, .int .u8 0, .int .u8 0, .int .u8 0, .int .u8 0, .int .u8 0, .int .u8 0, .int .u8 0, .int .u8 0, .int .u8 0, .int .u8 0, .int .u8 0, .int .u8 0, .int .u8 0] := by kernel_rfl
theorem fOk133 : fnOk Tryz.prog 133 = true := by kernel_rfl
theorem tI161 : tyI Tryz.prog 161 .u64 = true := by kernel_rfl
theorem tUn3 : tyU Tryz.prog 3 = true := by kernel_rfl
theorem tArr244 : tyArr Tryz.prog 244 64 1 = true := by kernel_rfl
theorem tC5 : tyC Tryz.prog 5 = true := by kernel_rfl
theorem fOk149 : fnOk Tryz.prog 149 = true := by kernel_rfl
theorem fOk134 : fnOk Tryz.prog 134 = true := by kernel_rfl
theorem tArr204 : tyArr Tryz.prog 204 65 1 = true := by kernel_rfl
theorem tS5 : tyS Tryz.prog 5 1 = true := by kernel_rfl
theorem tBy168 : tyBytes Tryz.prog 168 = true := by kernel_rfl
theorem fOk116 : fnOk Tryz.prog 116 = true := by kernel_rfl
theorem fOk100 : fnOk Tryz.prog 100 = true := by kernel_rfl
theorem fOk88 : fnOk Tryz.prog 88 = true := by kernel_rfl
theorem fOk89 : fnOk Tryz.prog 89 = true := by kernel_rfl
theorem fOk68 : fnOk Tryz.prog 68 = true := by kernel_rfl
theorem fOk39 : fnOk Tryz.prog 39 = true := by kernel_rfl
theorem tS50 : tyS Tryz.prog 50 1 = true := by kernel_rfl
theorem tEl50 : tyEl Tryz.prog 50 9 1 16 = true := by kernel_rfl
theorem tZ9 : zeroCells Tryz.prog 9 = some [.string ⟨#[]⟩] := by kernel_rfl
theorem fOk15 : fnOk Tryz.prog 15 = true := by kernel_rfl
theorem fOk7 : fnOk Tryz.prog 7 = true := by kernel_rfl
theorem fOk16 : fnOk Tryz.prog 16 = true := by kernel_rfl
theorem fOk69 : fnOk Tryz.prog 69 = true := by kernel_rfl
theorem fOk40 : fnOk Tryz.prog 40 = true := by kernel_rfl
theorem fOk70 : fnOk Tryz.prog 70 = true := by kernel_rfl
theorem fOk17 : fnOk Tryz.prog 17 = true := by kernel_rfl
theorem fOk18 : fnOk Tryz.prog 18 = true := by kernel_rfl
theorem tZ137 : zeroCells Tryz.prog 137 = some [.int .u8 0, .int .u8 0, .int .u8 0, .int .u8 0, .int .u8 0, .int .u8 0, .int .u8 0, .int .u8 0, .int .u8 0, .int .u8 0, .int .u8 0, .int .u8 0, .int .u8 0, .int .u8 0, .int .u8 0, .int .u8 0] := by kernel_rfl
theorem tA137 : tyA Tryz.prog 137 16 = true := by kernel_rfl
theorem tS137 : tyS Tryz.prog 137 16 = true := by kernel_rfl
theorem tArr137 : tyArr Tryz.prog 137 16 1 = true := by kernel_rfl
theorem fOk73 : fnOk Tryz.prog 73 = true := by kernel_rfl
theorem fOk43 : fnOk Tryz.prog 43 = true := by kernel_rfl
theorem fOk44 : fnOk Tryz.prog 44 = true := by kernel_rfl
theorem fOk71 : fnOk Tryz.prog 71 = true := by kernel_rfl
theorem fOk41 : fnOk Tryz.prog 41 = true := by kernel_rfl
theorem fOk19 : fnOk Tryz.prog 19 = true := by kernel_rfl
theorem fOk72 : fnOk Tryz.prog 72 = true := by kernel_rfl
theorem fOk42 : fnOk Tryz.prog 42 = true := by kernel_rfl
theorem fOk20 : fnOk Tryz.prog 20 = true := by kernel_rfl
theorem fOk45 : fnOk Tryz.prog 45 = true := by kernel_rfl
theorem tAB137 : tyAB Tryz.prog 137 16 = true := by kernel_rfl
theorem fOk46 : fnOk Tryz.prog 46 = true := by kernel_rfl
theorem fOk21 : fnOk Tryz.prog 21 = true := by kernel_rfl
theorem fOk47 : fnOk Tryz.prog 47 = true := by kernel_rfl
theorem fOk22 : fnOk Tryz.prog 22 = true := by kernel_rfl
theorem fOk74 : fnOk Tryz.prog 74 = true := by kernel_rfl
theorem fOk48 : fnOk Tryz.prog 48 = true := by kernel_rfl
theorem fOk49 : fnOk Tryz.prog 49 = true := by kernel_rfl
theorem fOk75 : fnOk Tryz.prog 75 = true := by kernel_rfl
theorem fOk50 : fnOk Tryz.prog 50 = true := by kernel_rfl
theorem tEl168 : tyEl Tryz.prog 168 5 1 1 = true := by kernel_rfl
theorem tZ5 : zeroCells Tryz.prog 5 = some [.int .u8 0] := by kernel_rfl
theorem tIsSl168 : tySlice Tryz.prog 168 = true := by kernel_rfl
theorem fOk90 : fnOk Tryz.prog 90 = true := by kernel_rfl
theorem fOk76 : fnOk Tryz.prog 76 = true := by kernel_rfl
theorem fOk23 : fnOk Tryz.prog 23 = true := by kernel_rfl
theorem fOk51 : fnOk Tryz.prog 51 = true := by kernel_rfl
theorem fOk24 : fnOk Tryz.prog 24 = true := by kernel_rfl
theorem tB4 : tyB Tryz.prog 4 = true := by kernel_rfl
def tt : TT := [(3, [.I .i64, .U]), (4, [.B]), (5, [.U, .I .u8, .S 1]), (7, [.Fn]), (9, [.C, .Str]), (18, [.Fn]), (39, [.Fn]), (40, [.Fn]), (43, [.Fn]), (44, [.Fn]), (45, [.Fn]), (46, [.Fn]), (47, [.Fn]), (48, [.Fn]), (49, [.Fn]), (50, [.Sn, .Sl 1, .C, .S 1, .Fn]), (51, [.Fn]), (68, [.Fn]), (69, [.Fn]), (70, [.Fn]), (73, [.Fn]), (74, [.Fn]), (75, [.Fn]), (76, [.Fn]), (88, [.Fn]), (89, [.Fn]), (90, [.Fn]), (95, [.Z 1 [.slice none 0 0], .Pl [(0, 1)], .S 1, .F 0 0]), (100, [.Fn]), (113, [.Fn]), (114, [.Fn]), (116, [.Fn]), (130, [.Fn]), (131, [.Fn]), (132, [.Fn]), (133, [.Fn]), (134, [.Fn]), (137, [.Z 16 [.int .u8 0, .int .u8 0, .int .u8 0, .int .u8 0, .int .u8 0, .int .u8 0, .int .u8 0, .int .u8 0, .int .u8 0, .int .u8 0, .int .u8 0, .int .u8 0, .int .u8 0, .int .u8 0, .int .u8 0, .int .u8 0], .A 16, .S 16, .Arr 16 1]), (149, [.Fn]), (151, [.I .u64, .U]), (161, [.I .u64]), (168, [.El 5 1 1, .Sn]), (182, [.Z 24 [.int .u8 0, .int .u8 0, .int .u8 0, .int .u8 0, .int .u8 0, .int .u8 0, .int .u8 0, .int .u8 0, .int .u8 0, .int .u8 0, .int .u8 0, .int .u8 0, .int .u8 0, .int .u8 0, .int .u8 0, .int .u8 0, .int .u8 0, .int .u8 0, .int .u8 0, .int .u8 0, .int .u8 0, .int .u8 0, .int .u8 0, .int .u8 0]]), (204, [.Z 65 [.int .u8 0, .int .u8 0, .int .u8 0, .int .u8 0, .int .u8 0, .int .u8 0, .int .u8 0, .int .u8 0, .int .u8 0, .int .u8 0, .int .u8 0, .int .u8 0, .int .u8 0, .int .u8 0, .int .u8 0, .int .u8 0, .int .u8 0, .int .u8 0, .int .u8 0, .int .u8 0, .int .u8 0, .int .u8 0, .int .u8 0, .int .u8 0, .int .u8 0, .int .u8 0, .int .u8 0, .int .u8 0, .int .u8 0, .int .u8 0, .int .u8 0, .int .u8 0, .int .u8 0, .int .u8 0, .int .u8 0, .int .u8 0, .int .u8 0, .int .u8 0, .int .u8 0, .int .u8 0, .int .u8 0, .int .u8 0, .int .u8 0, .int .u8 0, .int .u8 0, .int .u8 0, .int .u8 0, .int .u8 0, .int .u8 0, .int .u8 0, .int .u8 0, .int .u8 0, .int .u8 0, .int .u8 0, .int .u8 0, .int .u8 0, .int .u8 0, .int .u8 0, .int .u8 0, .int .u8 0, .int .u8 0, .int .u8 0, .int .u8 0, .int .u8 0, .int .u8 0]])]
theorem ok : TTok Tryz.prog tt := tt_all ⟨⟨tI3, tUn3, trivial⟩, ⟨tB4, trivial⟩, ⟨tUn5, tI5, tS5, trivial⟩, ⟨fOk7, trivial⟩, ⟨tC9, tStr9, trivial⟩, ⟨fOk18, trivial⟩, ⟨fOk39, trivial⟩, ⟨fOk40, trivial⟩, ⟨fOk43, trivial⟩, ⟨fOk44, trivial⟩, ⟨fOk45, trivial⟩, ⟨fOk46, trivial⟩, ⟨fOk47, trivial⟩, ⟨fOk48, trivial⟩, ⟨fOk49, trivial⟩, ⟨tIsSl50, tSl50, tC50, tS50, fOk50, trivial⟩, ⟨fOk51, trivial⟩, ⟨fOk68, trivial⟩, ⟨fOk69, trivial⟩, ⟨fOk70, trivial⟩, ⟨fOk73, trivial⟩, ⟨fOk74, trivial⟩, ⟨fOk75, trivial⟩, ⟨fOk76, trivial⟩, ⟨fOk88, trivial⟩, ⟨fOk89, trivial⟩, ⟨fOk90, trivial⟩, ⟨⟨tZ95, rfl⟩, tPl95, tS95, tF95_0, trivial⟩, ⟨fOk100, trivial⟩, ⟨fOk113, trivial⟩, ⟨fOk114, trivial⟩, ⟨fOk116, trivial⟩, ⟨fOk130, trivial⟩, ⟨fOk131, trivial⟩, ⟨fOk132, trivial⟩, ⟨fOk133, trivial⟩, ⟨fOk134, trivial⟩, ⟨⟨tZ137, rfl⟩, tA137, tS137, tArr137, trivial⟩, ⟨fOk149, trivial⟩, ⟨tI151, tUn151, trivial⟩, ⟨tI161, trivial⟩, ⟨tEl168, tIsSl168, trivial⟩, ⟨⟨tZ182, rfl⟩, trivial⟩, ⟨⟨tZ204, rfl⟩, trivial⟩, trivial⟩
instance {N : Nat} {w : World} {m : Mem} {o : Nat → Prop} {p : Nat} {l : Nat → Option (Option (Nat × Cap))} {g : Gl} {h : GlOk g m} : TC ⟨Tryz.prog, N, w, m, o, p, l, g, h⟩ tt := ⟨ok⟩
end Go.Proofs.YtiphmdpaajjdeaaGreatDoor
