/- Part of the proof: RTz, REz, ZC6Sh. -/
import Derived.Test.YtpbkggamiipdmaaGreatC6EW
import Derived.Test.YtpbkggamiipdmaaGreatProg
import Derived.KernelRfl
import Derived.Shelf.Strconv.Itoa0
import Derived.Shelf.Sort.Plain
import Derived.Ground.Names2Prog
import Derived.Shelf.Slices.CompactI
import Derived.Shelf.Slices.CompactS
import Derived.Shelf.Slices.SearchI
import Derived.Shelf.Slices.In.SortNone
import Derived.Ground.SlsfProg
import Derived.Shelf.SlSortCmp.WholeK
import Derived.Shelf.SlSortCmp.NoneTotal
namespace Go.Proofs.YtpbkggamiipdmaaGreat
open Go Go.Pv
set_option maxRecDepth 100000
noncomputable def evft : FT := [(14, Tryz.f14), (17, Tryz.f17), (23, Tryz.f23), (25, Tryz.f25), (26, Tryz.f26), (41, Tryz.f41), (59, Tryz.f59), (60, Tryz.f60), (78, Tryz.f78), (79, Tryz.f79), (86, Tryz.f86), (89, Tryz.f89), (100, Tryz.f100), (117, Tryz.f117), (127, Tryz.f127), (128, Tryz.f128), (129, Tryz.f129), (130, Tryz.f130), (143, Tryz.f143), (148, Tryz.f148), (149, Tryz.f149), (150, Tryz.f150), (151, Tryz.f151), (158, Tryz.f158), (164, Tryz.f164), (169, Tryz.f169), (173, Tryz.f173), (174, Tryz.f174), (204, Tryz.f204), (207, Tryz.f207), (208, Tryz.f208)]
theorem evft_ok : FTok Tryz.prog evft := by
 intro p hp
 simp only [evft, List.mem_cons, List.not_mem_nil, or_false] at hp
 rcases hp with rfl | rfl | rfl | rfl | rfl | rfl | rfl | rfl | rfl | rfl | rfl | rfl | rfl | rfl | rfl | rfl | rfl | rfl | rfl | rfl | rfl | rfl | rfl | rfl | rfl | rfl | rfl | rfl | rfl | rfl | rfl
 ·exact ⟨Tryz.func14, by kernel_rfl⟩
 ·exact ⟨Tryz.func17, by kernel_rfl⟩
 ·exact ⟨Tryz.func23, by kernel_rfl⟩
 ·exact ⟨Tryz.func25, by kernel_rfl⟩
 ·exact ⟨Tryz.func26, by kernel_rfl⟩
 ·exact ⟨Tryz.func41, by kernel_rfl⟩
 ·exact ⟨Tryz.func59, by kernel_rfl⟩
 ·exact ⟨Tryz.func60, by kernel_rfl⟩
 ·exact ⟨Tryz.func78, by kernel_rfl⟩
 ·exact ⟨Tryz.func79, by kernel_rfl⟩
 ·exact ⟨Tryz.func86, by kernel_rfl⟩
 ·exact ⟨Tryz.func89, by kernel_rfl⟩
 ·exact ⟨Tryz.func100, by kernel_rfl⟩
 ·exact ⟨Tryz.func117, by kernel_rfl⟩
 ·exact ⟨Tryz.func127, by kernel_rfl⟩
 ·exact ⟨Tryz.func128, by kernel_rfl⟩
 ·exact ⟨Tryz.func129, by kernel_rfl⟩
 ·exact ⟨Tryz.func130, by kernel_rfl⟩
 ·exact ⟨Tryz.func143, by kernel_rfl⟩
 ·exact ⟨Tryz.func148, by kernel_rfl⟩
 ·exact ⟨Tryz.func149, by kernel_rfl⟩
 ·exact ⟨Tryz.func150, by kernel_rfl⟩
 ·exact ⟨Tryz.func151, by kernel_rfl⟩
 ·exact ⟨Tryz.func158, by kernel_rfl⟩
 ·exact ⟨Tryz.func164, by kernel_rfl⟩
 ·exact ⟨Tryz.func169, by kernel_rfl⟩
 ·exact ⟨Tryz.func173, by kernel_rfl⟩
 ·exact ⟨Tryz.func174, by kernel_rfl⟩
 ·exact ⟨Tryz.func204, by kernel_rfl⟩
 ·exact ⟨Tryz.func207, by kernel_rfl⟩
 ·exact ⟨Tryz.func208, by kernel_rfl⟩
def evtt : TT := [(3, [.Z 1 [.int .i64 0], .C, .U, .I .i64]), (4, [.C, .Z 1 [.bool false], .S 1]), (9, [.Z 1 [.string ⟨#[]⟩], .C, .Str]), (22, [.C, .Sn, .Sl 2]), (23, [.C, .Sn, .Sl 2]), (24, [.El 94 4 80, .C, .Sl 4, .Sn]), (25, [.El 9 1 16, .Sn, .Sl 1, .C]), (27, [.Z 4 [.slice none 0 0, .slice none 0 0, .slice none 0 0, .slice none 0 0], .Pl [(0, 1), (1, 1), (2, 1), (3, 1)], .S 4, .A 4, .F 2 2, .F 1 1, .F 0 0, .F 3 3]), (83, [.C]), (87, [.C]), (88, [.C]), (89, [.C]), (91, [.Z 9 [.slice none 0 0, .slice none 0 0, .slice none 0 0, .slice none 0 0, .map none, .map none, .map none, .map none, .bool false], .Pl [(0, 4), (4, 1), (5, 1), (6, 1), (7, 1), (8, 1)], .S 9, .F 1 4, .F 2 5, .F 3 6, .F 4 7, .F 0 0, .F 5 8]), (92, [.El 109 4 56, .C, .Sn, .Sl 4]), (94, [.Z 4 [.string ⟨#[]⟩, .string ⟨#[]⟩, .slice none 0 0, .slice none 0 0], .Pl [(0, 1), (1, 1), (2, 1), (3, 1)], .F 0 0, .A 4, .S 4, .F 3 3, .F 2 2, .F 1 1]), (98, [.A 2, .Z 2 [.string ⟨#[]⟩, .slice none 0 0], .S 2, .F 0 0, .F 1 1]), (102, [.C, .Sn, .Sl 2]), (104, [.A 2, .Z 2 [.string ⟨#[]⟩, .slice none 0 0], .S 2, .F 0 0, .F 1 1]), (109, [.Z 4 [.int .i64 0, .string ⟨#[]⟩, .string ⟨#[]⟩, .string ⟨#[]⟩], .Pl [(0, 1), (1, 1), (2, 1), (3, 1)], .A 4, .S 4, .F 3 3, .F 0 0, .F 1 1, .F 2 2]), (116, [.A 2, .Z 2 [.string ⟨#[]⟩, .string ⟨#[]⟩], .S 2, .F 0 0, .F 1 1]), (122, [.C]), (124, [.A 4, .Z 4 [.bool false, .map none, .map none, .map none], .Pl [(0, 1), (1, 1), (2, 1), (3, 1)], .S 4, .F 1 1, .F 2 2, .F 3 3, .F 0 0]), (164, [.C, .Sn, .Sl 1, .El 4 1 1]), (165, [.El 3 1 8, .Sn, .C, .Sl 1, .S 1]), (167, [.C]), (168, [.C, .Sn, .Sl 2, .El 304 2 32, .S 1]), (170, [.F 1 1, .Z 7 [.pointer none, .slice none 0 0, .slice none 0 0, .map none, .slice none 0 0, .slice none 0 0, .slice none 0 0], .Pl [(0, 1), (1, 1), (2, 1), (3, 1), (4, 1), (5, 1), (6, 1)], .S 7, .F 6 6, .F 2 2, .F 0 0, .F 4 4, .F 3 3]), (244, [.I .u64, .U]), (304, [.A 2, .Z 2 [.string ⟨#[]⟩, .string ⟨#[]⟩], .S 2, .F 0 0, .F 1 1, .Pl [(0, 1), (1, 1)]])]
theorem evtt_ok : TTok Tryz.prog evtt := tt_all ⟨⟨⟨(by kernel_rfl : zeroCells Tryz.prog 3 = some [.int .i64 0]), rfl⟩, (by kernel_rfl : tyC Tryz.prog 3 = true), (by kernel_rfl : tyU Tryz.prog 3 = true), (by kernel_rfl : tyI Tryz.prog 3 .i64 = true), trivial⟩, ⟨(by kernel_rfl : tyC Tryz.prog 4 = true), ⟨(by kernel_rfl : zeroCells Tryz.prog 4 = some [.bool false]), rfl⟩, (by kernel_rfl : tyS Tryz.prog 4 1 = true), trivial⟩, ⟨⟨(by kernel_rfl : zeroCells Tryz.prog 9 = some [.string ⟨#[]⟩]), rfl⟩, (by kernel_rfl : tyC Tryz.prog 9 = true), (by kernel_rfl : tyStr Tryz.prog 9 = true), trivial⟩, ⟨(by kernel_rfl : tyC Tryz.prog 22 = true), (by kernel_rfl : q4f Tryz.prog 22 = true), (by kernel_rfl : tySl Tryz.prog 22 2 = true), trivial⟩, ⟨(by kernel_rfl : tyC Tryz.prog 23 = true), (by kernel_rfl : q4f Tryz.prog 23 = true), (by kernel_rfl : tySl Tryz.prog 23 2 = true), trivial⟩, ⟨(by kernel_rfl : tyEl Tryz.prog 24 94 4 80 = true), (by kernel_rfl : tyC Tryz.prog 24 = true), (by kernel_rfl : tySl Tryz.prog 24 4 = true), (by kernel_rfl : q4f Tryz.prog 24 = true), trivial⟩, ⟨(by kernel_rfl : tyEl Tryz.prog 25 9 1 16 = true), (by kernel_rfl : q4f Tryz.prog 25 = true), (by kernel_rfl : tySl Tryz.prog 25 1 = true), (by kernel_rfl : tyC Tryz.prog 25 = true), trivial⟩, ⟨⟨(by kernel_rfl : zeroCells Tryz.prog 27 = some [.slice none 0 0, .slice none 0 0, .slice none 0 0, .slice none 0 0]), rfl⟩, (by kernel_rfl : q0h Tryz.prog 27 = some [(0, 1), (1, 1), (2, 1), (3, 1)]), (by kernel_rfl : tyS Tryz.prog 27 4 = true), (by kernel_rfl : tyA Tryz.prog 27 4 = true), (by kernel_rfl : tyF Tryz.prog 27 2 2 = true), (by kernel_rfl : tyF Tryz.prog 27 1 1 = true), (by kernel_rfl : tyF Tryz.prog 27 0 0 = true), (by kernel_rfl : tyF Tryz.prog 27 3 3 = true), trivial⟩, ⟨(by kernel_rfl : tyC Tryz.prog 83 = true), trivial⟩, ⟨(by kernel_rfl : tyC Tryz.prog 87 = true), trivial⟩, ⟨(by kernel_rfl : tyC Tryz.prog 88 = true), trivial⟩, ⟨(by kernel_rfl : tyC Tryz.prog 89 = true), trivial⟩, ⟨⟨(by kernel_rfl : zeroCells Tryz.prog 91 = some [.slice none 0 0, .slice none 0 0, .slice none 0 0, .slice none 0 0, .map none, .map none, .map none, .map none, .bool false]), rfl⟩, (by kernel_rfl : q0h Tryz.prog 91 = some [(0, 4), (4, 1), (5, 1), (6, 1), (7, 1), (8, 1)]), (by kernel_rfl : tyS Tryz.prog 91 9 = true), (by kernel_rfl : tyF Tryz.prog 91 1 4 = true), (by kernel_rfl : tyF Tryz.prog 91 2 5 = true), (by kernel_rfl : tyF Tryz.prog 91 3 6 = true), (by kernel_rfl : tyF Tryz.prog 91 4 7 = true), (by kernel_rfl : tyF Tryz.prog 91 0 0 = true), (by kernel_rfl : tyF Tryz.prog 91 5 8 = true), trivial⟩, ⟨(by kernel_rfl : tyEl Tryz.prog 92 109 4 56 = true), (by kernel_rfl : tyC Tryz.prog 92 = true), (by kernel_rfl : q4f Tryz.prog 92 = true), (by kernel_rfl : tySl Tryz.prog 92 4 = true), trivial⟩, ⟨⟨(by kernel_rfl : zeroCells Tryz.prog 94 = some [.string ⟨#[]⟩, .string ⟨#[]⟩, .slice none 0 0, .slice none 0 0]), rfl⟩, (by kernel_rfl : q0h Tryz.prog 94 = some [(0, 1), (1, 1), (2, 1), (3, 1)]), (by kernel_rfl : tyF Tryz.prog 94 0 0 = true), (by kernel_rfl : tyA Tryz.prog 94 4 = true), (by kernel_rfl : tyS Tryz.prog 94 4 = true), (by kernel_rfl : tyF Tryz.prog 94 3 3 = true), (by kernel_rfl : tyF Tryz.prog 94 2 2 = true), (by kernel_rfl : tyF Tryz.prog 94 1 1 = true), trivial⟩, ⟨(by kernel_rfl : tyA Tryz.prog 98 2 = true), ⟨(by kernel_rfl : zeroCells Tryz.prog 98 = some [.string ⟨#[]⟩, .slice none 0 0]), rfl⟩, (by kernel_rfl : tyS Tryz.prog 98 2 = true), (by kernel_rfl : tyF Tryz.prog 98 0 0 = true), (by kernel_rfl : tyF Tryz.prog 98 1 1 = true), trivial⟩, ⟨(by kernel_rfl : tyC Tryz.prog 102 = true), (by kernel_rfl : q4f Tryz.prog 102 = true), (by kernel_rfl : tySl Tryz.prog 102 2 = true), trivial⟩, ⟨(by kernel_rfl : tyA Tryz.prog 104 2 = true), ⟨(by kernel_rfl : zeroCells Tryz.prog 104 = some [.string ⟨#[]⟩, .slice none 0 0]), rfl⟩, (by kernel_rfl : tyS Tryz.prog 104 2 = true), (by kernel_rfl : tyF Tryz.prog 104 0 0 = true), (by kernel_rfl : tyF Tryz.prog 104 1 1 = true), trivial⟩, ⟨⟨(by kernel_rfl : zeroCells Tryz.prog 109 = some [.int .i64 0, .string ⟨#[]⟩, .string ⟨#[]⟩, .string ⟨#[]⟩]), rfl⟩, (by kernel_rfl : q0h Tryz.prog 109 = some [(0, 1), (1, 1), (2, 1), (3, 1)]), (by kernel_rfl : tyA Tryz.prog 109 4 = true), (by kernel_rfl : tyS Tryz.prog 109 4 = true), (by kernel_rfl : tyF Tryz.prog 109 3 3 = true), (by kernel_rfl : tyF Tryz.prog 109 0 0 = true), (by kernel_rfl : tyF Tryz.prog 109 1 1 = true), (by kernel_rfl : tyF Tryz.prog 109 2 2 = true), trivial⟩, ⟨(by kernel_rfl : tyA Tryz.prog 116 2 = true), ⟨(by kernel_rfl : zeroCells Tryz.prog 116 = some [.string ⟨#[]⟩, .string ⟨#[]⟩]), rfl⟩, (by kernel_rfl : tyS Tryz.prog 116 2 = true), (by kernel_rfl : tyF Tryz.prog 116 0 0 = true), (by kernel_rfl : tyF Tryz.prog 116 1 1 = true), trivial⟩, ⟨(by kernel_rfl : tyC Tryz.prog 122 = true), trivial⟩, ⟨(by kernel_rfl : tyA Tryz.prog 124 4 = true), ⟨(by kernel_rfl : zeroCells Tryz.prog 124 = some [.bool false, .map none, .map none, .map none]), rfl⟩, (by kernel_rfl : q0h Tryz.prog 124 = some [(0, 1), (1, 1), (2, 1), (3, 1)]), (by kernel_rfl : tyS Tryz.prog 124 4 = true), (by kernel_rfl : tyF Tryz.prog 124 1 1 = true), (by kernel_rfl : tyF Tryz.prog 124 2 2 = true), (by kernel_rfl : tyF Tryz.prog 124 3 3 = true), (by kernel_rfl : tyF Tryz.prog 124 0 0 = true), trivial⟩, ⟨(by kernel_rfl : tyC Tryz.prog 164 = true), (by kernel_rfl : q4f Tryz.prog 164 = true), (by kernel_rfl : tySl Tryz.prog 164 1 = true), (by kernel_rfl : tyEl Tryz.prog 164 4 1 1 = true), trivial⟩, ⟨(by kernel_rfl : tyEl Tryz.prog 165 3 1 8 = true), (by kernel_rfl : q4f Tryz.prog 165 = true), (by kernel_rfl : tyC Tryz.prog 165 = true), (by kernel_rfl : tySl Tryz.prog 165 1 = true), (by kernel_rfl : tyS Tryz.prog 165 1 = true), trivial⟩, ⟨(by kernel_rfl : tyC Tryz.prog 167 = true), trivial⟩, ⟨(by kernel_rfl : tyC Tryz.prog 168 = true), (by kernel_rfl : q4f Tryz.prog 168 = true), (by kernel_rfl : tySl Tryz.prog 168 2 = true), (by kernel_rfl : tyEl Tryz.prog 168 304 2 32 = true), (by kernel_rfl : tyS Tryz.prog 168 1 = true), trivial⟩, ⟨(by kernel_rfl : tyF Tryz.prog 170 1 1 = true), ⟨(by kernel_rfl : zeroCells Tryz.prog 170 = some [.pointer none, .slice none 0 0, .slice none 0 0, .map none, .slice none 0 0, .slice none 0 0, .slice none 0 0]), rfl⟩, (by kernel_rfl : q0h Tryz.prog 170 = some [(0, 1), (1, 1), (2, 1), (3, 1), (4, 1), (5, 1), (6, 1)]), (by kernel_rfl : tyS Tryz.prog 170 7 = true), (by kernel_rfl : tyF Tryz.prog 170 6 6 = true), (by kernel_rfl : tyF Tryz.prog 170 2 2 = true), (by kernel_rfl : tyF Tryz.prog 170 0 0 = true), (by kernel_rfl : tyF Tryz.prog 170 4 4 = true), (by kernel_rfl : tyF Tryz.prog 170 3 3 = true), trivial⟩, ⟨(by kernel_rfl : tyI Tryz.prog 244 .u64 = true), (by kernel_rfl : tyU Tryz.prog 244 = true), trivial⟩, ⟨(by kernel_rfl : tyA Tryz.prog 304 2 = true), ⟨(by kernel_rfl : zeroCells Tryz.prog 304 = some [.string ⟨#[]⟩, .string ⟨#[]⟩]), rfl⟩, (by kernel_rfl : tyS Tryz.prog 304 2 = true), (by kernel_rfl : tyF Tryz.prog 304 0 0 = true), (by kernel_rfl : tyF Tryz.prog 304 1 1 = true), (by kernel_rfl : q0h Tryz.prog 304 = some [(0, 1), (1, 1)]), trivial⟩, trivial⟩
def evmt : List MT := [⟨87, 9, 3, true, .i64, .con (.int .i64 0)⟩, ⟨88, 9, 165, true, .i64, .con (.slice none 0 0)⟩, ⟨89, 9, 4, true, .i64, .con (.bool false)⟩]
theorem evmt_ok : MTok Tryz.prog evmt := by
 intro p hp
 simp only [evmt, List.mem_cons, List.not_mem_nil, or_false] at hp
 rcases hp with rfl | rfl | rfl
 ·exact ⟨by kernel_rfl, keyT_str (by kernel_rfl), _, by kernel_rfl, fun _ => (.con _)⟩
 ·exact ⟨by kernel_rfl, keyT_str (by kernel_rfl), _, by kernel_rfl, fun _ => (.con _)⟩
 ·exact ⟨by kernel_rfl, keyT_str (by kernel_rfl), _, by kernel_rfl, fun _ => (.con _)⟩
def evxt : XT := []
theorem evxt_ok {gl : Gl} : XTok gl Tryz.prog evxt := by intro p hp; simp [evxt] at hp
theorem kmixed : Tryz.prog.follows .mixedOrders = true := by kernel_rfl
theorem told_run : evF evft evxt evtt evmt 3000 14 [] = some (.con (.bool true)) := by kernel_rfl
theorem told_pure {gl : Gl} : PureG gl Tryz.prog 14 [] (bV true) := evF_ok evft_ok evxt_ok evtt_ok evmt_ok kmixed told_run
end Go.Proofs.YtpbkggamiipdmaaGreat
/-
 DERIVED: THE SHELF's CONTRACTS AT THIS DUMP, IN PLAIN WORDS (tools/lay-plain.mjs out of 'TryzShelf.lean', which tools/lay-shelf.mjs wrote): THE SAME DECLARATIONS UNDER THE SAME NAMES: 'import', 'namespace', 'open', 'def', 'theorem' AND NOTHING ELSE: no command of the shelf's: FOR A HAND-IN. Each laying: the table of numbers ('.._ren') and one theorem, a field a fact of the dump's own or the kernel's comparison; each contract: ONE APPLICATION.
-/
namespace Go.Proofs
open Go.Shelf
def Tryz.lays189_ren : Go.Shelf.Ren := ⟨fun | 189 => 152 | 125 => 135 | 257 => 195 | 128 => 185 | 129 => 186 | 294 => 247 | 295 => 248 | 296 => 249 | 297 => 250 | 298 => 251 | 299 => 252 | 216 => 253 | 300 => 254 | 301 => 255 | 328 => 272 | 329 => 234 | 330 => 235 | 331 => 273 | 332 => 274 | 215 => 170 | 343 => 280 | n => n, fun | 28 => 165 | 3 => 3 | 46 => 244 | 0 => 0 | 51 => 295 | 53 => 297 | 4 => 4 | 183 => 289 | 182 => 288 | 131 => 86 | 5 => 5 | 9 => 9 | 218 => 332 | 222 => 336 | 228 => 358 | 229 => 359 | n => n, fun | n => n⟩
theorem Tryz.lays189 : Go.Proofs.Lays.n189 Tryz.prog Tryz.lays189_ren := {
 mixed := by kernel_rfl
 f125 := Tryz.func135.trans (congrArg some (by kernel_rfl))
 f128 := Tryz.func185.trans (congrArg some (by kernel_rfl))
 f129 := Tryz.func186.trans (congrArg some (by kernel_rfl))
 f189 := Tryz.func152.trans (congrArg some (by kernel_rfl))
 f215 := Tryz.func170.trans (congrArg some (by kernel_rfl))
 f216 := Tryz.func253.trans (congrArg some (by kernel_rfl))
 f257 := Tryz.func195.trans (congrArg some (by kernel_rfl))
 f294 := Tryz.func247.trans (congrArg some (by kernel_rfl))
 f295 := Tryz.func248.trans (congrArg some (by kernel_rfl))
 f296 := Tryz.func249.trans (congrArg some (by kernel_rfl))
 f297 := Tryz.func250.trans (congrArg some (by kernel_rfl))
 f298 := Tryz.func251.trans (congrArg some (by kernel_rfl))
 f299 := Tryz.func252.trans (congrArg some (by kernel_rfl))
 f300 := Tryz.func254.trans (congrArg some (by kernel_rfl))
 f301 := Tryz.func255.trans (congrArg some (by kernel_rfl))
 f328 := Tryz.func272.trans (congrArg some (by kernel_rfl))
 f329 := Tryz.func234.trans (congrArg some (by kernel_rfl))
 f330 := Tryz.func235.trans (congrArg some (by kernel_rfl))
 f331 := Tryz.func273.trans (congrArg some (by kernel_rfl))
 f332 := Tryz.func274.trans (congrArg some (by kernel_rfl))
 f343 := Tryz.func280.trans (congrArg some (by kernel_rfl))
 t0 := Tryz.underlying0
 a0 := Tryz.isAgg0
 z0 := Tryz.sizeOf0
 v0 := Tryz.zeroValue0
 t3 := Tryz.underlying3
 a3 := Tryz.isAgg3
 z3 := Tryz.sizeOf3
 v3 := Tryz.zeroValue3
 t4 := Tryz.underlying4
 a4 := Tryz.isAgg4
 z4 := Tryz.sizeOf4
 v4 := Tryz.zeroValue4
 t5 := Tryz.underlying5
 a5 := Tryz.isAgg5
 z5 := Tryz.sizeOf5
 v5 := Tryz.zeroValue5
 t9 := Tryz.underlying9
 a9 := Tryz.isAgg9
 z9 := Tryz.sizeOf9
 v9 := Tryz.zeroValue9
 t28 := Tryz.underlying165
 a28 := Tryz.isAgg165
 z28 := Tryz.sizeOf165
 v28 := Tryz.zeroValue165
 t46 := Tryz.underlying244
 a46 := Tryz.isAgg244
 z46 := Tryz.sizeOf244
 v46 := Tryz.zeroValue244
 t51 := Tryz.underlying295
 a51 := Tryz.isAgg295
 z51 := Tryz.sizeOf295
 v51 := Tryz.zeroValue295
 t53 := Tryz.underlying297
 a53 := Tryz.isAgg297
 z53 := Tryz.sizeOf297
 v53 := Tryz.zeroValue297
 t131 := Tryz.underlying86
 a131 := Tryz.isAgg86
 z131 := Tryz.sizeOf86
 v131 := Tryz.zeroValue86
 t182 := Tryz.underlying288
 a182 := Tryz.isAgg288
 z182 := Tryz.sizeOf288
 v182 := Tryz.zeroValue288
 t183 := Tryz.underlying289
 a183 := Tryz.isAgg289
 z183 := Tryz.sizeOf289
 v183 := Tryz.zeroValue289
 t218 := Tryz.underlying332
 a218 := Tryz.isAgg332
 z218 := Tryz.sizeOf332
 v218 := Tryz.zeroValue332
 t222 := Tryz.underlying336
 a222 := Tryz.isAgg336
 z222 := Tryz.sizeOf336
 v222 := Tryz.zeroValue336
 t228 := Tryz.underlying358
 a228 := Tryz.isAgg358
 z228 := Tryz.sizeOf358
 v228 := Tryz.zeroValue358
 t229 := Tryz.underlying359
 a229 := Tryz.isAgg359
 z229 := Tryz.sizeOf359
 v229 := Tryz.zeroValue359 }
open Go.Sort Go.RowKit in
theorem Tryz.slices_Sort_int (blk off cap : Nat) (zs : List Int) (w : World) (hH : Holds (Value.int .i64) w blk off zs.toArray) (hblk : blk < w.heap.size) (hsz : zs.length < 4611686018427387904) :
  Calls Tryz.prog 152 #[.slice (some ⟨blk, off, none⟩) zs.length cap] w fun e w' =>
   e = .returned (.tuple #[]) ∧ ∃ n os, w' = grow (putRow (Value.int .i64) (Sort.ahead w n) blk off (zs.mergeSort fun x y => decide (x ≤ y)).toArray) os := Any.slices_Sort_int Tryz.lays189 blk off cap zs w hH hblk hsz
def Tryz.lays190_ren : Go.Shelf.Ren := ⟨fun | 190 => 70 | 125 => 135 | 258 => 134 | 128 => 185 | 129 => 186 | 302 => 176 | 303 => 177 | 304 => 178 | 305 => 179 | 306 => 180 | 307 => 181 | 308 => 182 | 309 => 183 | 310 => 184 | 333 => 233 | 329 => 234 | 330 => 235 | 334 => 236 | 335 => 237 | 336 => 158 | 344 => 268 | n => n, fun | 31 => 25 | 9 => 9 | 3 => 3 | 46 => 244 | 0 => 0 | 51 => 295 | 53 => 297 | 4 => 4 | 183 => 289 | 182 => 288 | 131 => 86 | 5 => 5 | 218 => 332 | 222 => 336 | 228 => 358 | 229 => 359 | n => n, fun | n => n⟩
theorem Tryz.lays190 : Go.Proofs.Lays.n190 Tryz.prog Tryz.lays190_ren := {
 mixed := by kernel_rfl
 f125 := Tryz.func135.trans (congrArg some (by kernel_rfl))
 f128 := Tryz.func185.trans (congrArg some (by kernel_rfl))
 f129 := Tryz.func186.trans (congrArg some (by kernel_rfl))
 f190 := Tryz.func70.trans (congrArg some (by kernel_rfl))
 f258 := Tryz.func134.trans (congrArg some (by kernel_rfl))
 f302 := Tryz.func176.trans (congrArg some (by kernel_rfl))
 f303 := Tryz.func177.trans (congrArg some (by kernel_rfl))
 f304 := Tryz.func178.trans (congrArg some (by kernel_rfl))
 f305 := Tryz.func179.trans (congrArg some (by kernel_rfl))
 f306 := Tryz.func180.trans (congrArg some (by kernel_rfl))
 f307 := Tryz.func181.trans (congrArg some (by kernel_rfl))
 f308 := Tryz.func182.trans (congrArg some (by kernel_rfl))
 f309 := Tryz.func183.trans (congrArg some (by kernel_rfl))
 f310 := Tryz.func184.trans (congrArg some (by kernel_rfl))
 f329 := Tryz.func234.trans (congrArg some (by kernel_rfl))
 f330 := Tryz.func235.trans (congrArg some (by kernel_rfl))
 f333 := Tryz.func233.trans (congrArg some (by kernel_rfl))
 f334 := Tryz.func236.trans (congrArg some (by kernel_rfl))
 f335 := Tryz.func237.trans (congrArg some (by kernel_rfl))
 f336 := Tryz.func158.trans (congrArg some (by kernel_rfl))
 f344 := Tryz.func268.trans (congrArg some (by kernel_rfl))
 t0 := Tryz.underlying0
 a0 := Tryz.isAgg0
 z0 := Tryz.sizeOf0
 v0 := Tryz.zeroValue0
 t3 := Tryz.underlying3
 a3 := Tryz.isAgg3
 z3 := Tryz.sizeOf3
 v3 := Tryz.zeroValue3
 t4 := Tryz.underlying4
 a4 := Tryz.isAgg4
 z4 := Tryz.sizeOf4
 v4 := Tryz.zeroValue4
 t5 := Tryz.underlying5
 a5 := Tryz.isAgg5
 z5 := Tryz.sizeOf5
 v5 := Tryz.zeroValue5
 t9 := Tryz.underlying9
 a9 := Tryz.isAgg9
 z9 := Tryz.sizeOf9
 v9 := Tryz.zeroValue9
 t31 := Tryz.underlying25
 a31 := Tryz.isAgg25
 z31 := Tryz.sizeOf25
 v31 := Tryz.zeroValue25
 t46 := Tryz.underlying244
 a46 := Tryz.isAgg244
 z46 := Tryz.sizeOf244
 v46 := Tryz.zeroValue244
 t51 := Tryz.underlying295
 a51 := Tryz.isAgg295
 z51 := Tryz.sizeOf295
 v51 := Tryz.zeroValue295
 t53 := Tryz.underlying297
 a53 := Tryz.isAgg297
 z53 := Tryz.sizeOf297
 v53 := Tryz.zeroValue297
 t131 := Tryz.underlying86
 a131 := Tryz.isAgg86
 z131 := Tryz.sizeOf86
 v131 := Tryz.zeroValue86
 t182 := Tryz.underlying288
 a182 := Tryz.isAgg288
 z182 := Tryz.sizeOf288
 v182 := Tryz.zeroValue288
 t183 := Tryz.underlying289
 a183 := Tryz.isAgg289
 z183 := Tryz.sizeOf289
 v183 := Tryz.zeroValue289
 t218 := Tryz.underlying332
 a218 := Tryz.isAgg332
 z218 := Tryz.sizeOf332
 v218 := Tryz.zeroValue332
 t222 := Tryz.underlying336
 a222 := Tryz.isAgg336
 z222 := Tryz.sizeOf336
 v222 := Tryz.zeroValue336
 t228 := Tryz.underlying358
 a228 := Tryz.isAgg358
 z228 := Tryz.sizeOf358
 v228 := Tryz.zeroValue358
 t229 := Tryz.underlying359
 a229 := Tryz.isAgg359
 z229 := Tryz.sizeOf359
 v229 := Tryz.zeroValue359 }
open Go.Sort Go.RowKit in
theorem Tryz.slices_Sort_string (blk off cap : Nat) (ss : List (List UInt8)) (w : World) (hH : Holds encStr w blk off ss.toArray) (hblk : blk < w.heap.size) (hsz : ss.length < 4611686018427387904) :
  Calls Tryz.prog 70 #[.slice (some ⟨blk, off, none⟩) ss.length cap] w fun e w' =>
   e = .returned (.tuple #[]) ∧ ∃ n os, w' = grow (putRow encStr (Sort.ahead w n) blk off (ss.mergeSort fun x y => decide (x ≤ y)).toArray) os := Any.slices_Sort_string Tryz.lays190 blk off cap ss w hH hblk hsz
def Tryz.laysNm220_ren : Go.Shelf.Ren := ⟨fun | 20 => 153 | n => n, fun | 22 => 165 | 3 => 3 | 4 => 4 | 0 => 0 | n => n, fun | n => n⟩
theorem Tryz.laysNm220 : Go.Proofs.Lays2.n20 Tryz.prog Tryz.laysNm220_ren := {
 mixed := by kernel_rfl
 f20 := Tryz.func153.trans (congrArg some (by kernel_rfl))
 t0 := Tryz.underlying0
 a0 := Tryz.isAgg0
 z0 := Tryz.sizeOf0
 v0 := Tryz.zeroValue0
 t3 := Tryz.underlying3
 a3 := Tryz.isAgg3
 z3 := Tryz.sizeOf3
 v3 := Tryz.zeroValue3
 t4 := Tryz.underlying4
 a4 := Tryz.isAgg4
 z4 := Tryz.sizeOf4
 v4 := Tryz.zeroValue4
 t22 := Tryz.underlying165
 a22 := Tryz.isAgg165
 z22 := Tryz.sizeOf165
 v22 := Tryz.zeroValue165
 i3 := by kernel_rfl }
open Go.RowKit Go.Lib Go.Sort in
theorem Tryz.slices_Compact_int (blk off cap : Nat) (zs : List Int) (w : World) (hH : Holds (Value.int .i64) w blk off zs.toArray) (hsz : zs.length ≤ 9223372036854775807) (hcap : zs.length ≤ cap) :
  Calls Tryz.prog 153 #[.slice (some ⟨blk, off, none⟩) zs.length cap] w fun e w' => e = .returned (.slice (some ⟨blk, off, none⟩) (Lib.compact zs).length cap) ∧ ∃ q, w' = putRow (Value.int .i64) (Sort.ahead w q) blk off (Lib.compact zs ++ List.replicate (zs.length - (Lib.compact zs).length) 0).toArray := Any.slices_Compact_int Tryz.laysNm220 blk off cap zs w hH hsz hcap
open Go.RowKit Go.Lib Go.Sort in
theorem Tryz.slices_Compact_int_empty (a : Option Addr) (cap : Nat) (w : World) :
  Calls Tryz.prog 153 #[.slice a 0 cap] w fun e w' => e = .returned (.slice a 0 cap) ∧ w' = w := Any.slices_Compact_int_empty Tryz.laysNm220 a cap w
open Go.RowKit Go.Sort in
theorem Tryz.slices_Sort_string_none (p : Option Addr) (cap : Nat) (w : World) :
  Calls Tryz.prog 70 #[.slice p 0 cap] w fun e w' => e = .returned (.tuple #[]) ∧ w' = w := Any.slices_Sort_string_none Tryz.lays190 p cap w
open Go.RowKit Go.Sort in
theorem Tryz.slices_Sort_int_none (p : Option Addr) (cap : Nat) (w : World) :
  Calls Tryz.prog 152 #[.slice p 0 cap] w fun e w' => e = .returned (.tuple #[]) ∧ w' = w := Any.slices_Sort_int_none Tryz.lays189 p cap w
def Tryz.laysSlF06_f144_ren : Go.Shelf.Ren := ⟨fun | 6 => 144 | 15 => 135 | 14 => 189 | 28 => 185 | 29 => 186 | 20 => 238 | 21 => 239 | 22 => 240 | 23 => 241 | 24 => 242 | 25 => 243 | 26 => 244 | 27 => 245 | 46 => 269 | 47 => 234 | 48 => 235 | 49 => 270 | 50 => 271 | 57 => 279 | n => n, fun | 22 => 43 | 24 => 160 | 25 => 249 | 3 => 3 | 39 => 244 | 0 => 0 | 53 => 295 | 55 => 297 | 4 => 4 | 46 => 289 | 45 => 288 | 50 => 86 | 5 => 5 | 9 => 9 | 66 => 332 | 70 => 336 | 76 => 358 | 77 => 359 | n => n, fun | n => n⟩
theorem Tryz.laysSlF06_f144 : Go.Proofs.SlLaysF0.n6 Tryz.prog Tryz.laysSlF06_f144_ren := {
 mixed := by kernel_rfl
 f6 := ⟨Tryz.f144.name, by decide, Tryz.func144.trans (congrArg some (by kernel_rfl))⟩
 f14 := ⟨Tryz.f189.name, by decide, Tryz.func189.trans (congrArg some (by kernel_rfl))⟩
 f15 := Tryz.func135.trans (congrArg some (by kernel_rfl))
 f20 := ⟨Tryz.f238.name, by decide, Tryz.func238.trans (congrArg some (by kernel_rfl))⟩
 f21 := ⟨Tryz.f239.name, by decide, Tryz.func239.trans (congrArg some (by kernel_rfl))⟩
 f22 := ⟨Tryz.f240.name, by decide, Tryz.func240.trans (congrArg some (by kernel_rfl))⟩
 f23 := ⟨Tryz.f241.name, by decide, Tryz.func241.trans (congrArg some (by kernel_rfl))⟩
 f24 := ⟨Tryz.f242.name, by decide, Tryz.func242.trans (congrArg some (by kernel_rfl))⟩
 f25 := ⟨Tryz.f243.name, by decide, Tryz.func243.trans (congrArg some (by kernel_rfl))⟩
 f26 := ⟨Tryz.f244.name, by decide, Tryz.func244.trans (congrArg some (by kernel_rfl))⟩
 f27 := ⟨Tryz.f245.name, by decide, Tryz.func245.trans (congrArg some (by kernel_rfl))⟩
 f28 := Tryz.func185.trans (congrArg some (by kernel_rfl))
 f29 := Tryz.func186.trans (congrArg some (by kernel_rfl))
 f46 := ⟨Tryz.f269.name, by decide, Tryz.func269.trans (congrArg some (by kernel_rfl))⟩
 f47 := Tryz.func234.trans (congrArg some (by kernel_rfl))
 f48 := Tryz.func235.trans (congrArg some (by kernel_rfl))
 f49 := ⟨Tryz.f270.name, by decide, Tryz.func270.trans (congrArg some (by kernel_rfl))⟩
 f50 := ⟨Tryz.f271.name, by decide, Tryz.func271.trans (congrArg some (by kernel_rfl))⟩
 f57 := ⟨Tryz.f279.name, by decide, Tryz.func279.trans (congrArg some (by kernel_rfl))⟩
 t0 := Tryz.underlying0
 a0 := Tryz.isAgg0
 z0 := Tryz.sizeOf0
 v0 := Tryz.zeroValue0
 t3 := Tryz.underlying3
 a3 := Tryz.isAgg3
 z3 := Tryz.sizeOf3
 v3 := Tryz.zeroValue3
 t4 := Tryz.underlying4
 a4 := Tryz.isAgg4
 z4 := Tryz.sizeOf4
 v4 := Tryz.zeroValue4
 t5 := Tryz.underlying5
 a5 := Tryz.isAgg5
 z5 := Tryz.sizeOf5
 v5 := Tryz.zeroValue5
 t9 := Tryz.underlying9
 a9 := Tryz.isAgg9
 z9 := Tryz.sizeOf9
 v9 := Tryz.zeroValue9
 t22 := Tryz.underlying43
 a22 := Tryz.isAgg43
 z22 := Tryz.sizeOf43
 v22 := Tryz.zeroValue43
 t25 := Tryz.underlying249
 a25 := Tryz.isAgg249
 z25 := Tryz.sizeOf249
 v25 := Tryz.zeroValue249
 t39 := Tryz.underlying244
 a39 := Tryz.isAgg244
 z39 := Tryz.sizeOf244
 v39 := Tryz.zeroValue244
 t45 := Tryz.underlying288
 a45 := Tryz.isAgg288
 z45 := Tryz.sizeOf288
 v45 := Tryz.zeroValue288
 t46 := Tryz.underlying289
 a46 := Tryz.isAgg289
 z46 := Tryz.sizeOf289
 v46 := Tryz.zeroValue289
 t50 := Tryz.underlying86
 a50 := Tryz.isAgg86
 z50 := Tryz.sizeOf86
 v50 := Tryz.zeroValue86
 t53 := Tryz.underlying295
 a53 := Tryz.isAgg295
 z53 := Tryz.sizeOf295
 v53 := Tryz.zeroValue295
 t55 := Tryz.underlying297
 a55 := Tryz.isAgg297
 z55 := Tryz.sizeOf297
 v55 := Tryz.zeroValue297
 t66 := Tryz.underlying332
 a66 := Tryz.isAgg332
 z66 := Tryz.sizeOf332
 v66 := Tryz.zeroValue332
 t70 := Tryz.underlying336
 a70 := Tryz.isAgg336
 z70 := Tryz.sizeOf336
 v70 := Tryz.zeroValue336
 t76 := Tryz.underlying358
 a76 := Tryz.isAgg358
 z76 := Tryz.sizeOf358
 v76 := Tryz.zeroValue358
 t77 := Tryz.underlying359
 a77 := Tryz.isAgg359
 z77 := Tryz.sizeOf359
 v77 := Tryz.zeroValue359 }
open Go.RowKit Go.Lib Go.Sort in
theorem Tryz.slices_SortFunc_f144 {α : Type} [Inhabited α] (k : Nat) (aE : ∀ w, (isAgg (Tryz.laysSlF06_f144_ren.t 24)).run Tryz.prog w = .ok true w) (zE : ∀ w, (Go.sizeOf (Tryz.laysSlF06_f144_ren.t 24)).run Tryz.prog w = .ok k w) (enc : α → List Value) (hk : ∀ x, (enc x).length = k) (h1 : ∀ x, ∀ v ∈ enc x, v.oneCell' = true) (cf : α → α → Int) (hO : SWO (ltOf cf)) (g : Nat) (cb : Array Value) (blk off cap : Nat) (d : Array α) (w : World) (eg : ∀ args w, (callFunc g args).run Tryz.prog w = .ok (.enter g args) w) (hcmp : CmpLays Tryz.prog g cb enc k cf blk off d.size w) (hH : HoldsK enc k w blk off d) (hblk : blk < w.heap.size) (hsz : d.size < 4611686018427387904) :
  Calls Tryz.prog 144 #[.slice (some ⟨blk, off, none⟩) d.size cap, .func (.func g) #[] cb] w fun e w' =>
   e = .returned (.tuple #[]) ∧ ∃ d' n os, PermIn 0 d.size d d' ∧ SortedIn (ltOf cf) 0 d.size d' ∧ w' = sortWorldK enc k w blk off n d' os := AnyQ.slices_SortFunc Tryz.laysSlF06_f144 k aE zE enc hk h1 cf hO g cb blk off cap d w eg hcmp hH hblk hsz
open Go.RowKit Go.Lib Go.Sort in
theorem Tryz.slices_SortFunc_none_f144 {α : Type} [Inhabited α] (p : Option Addr) (cap : Nat) (fv : Value) (w : World) :
  Calls Tryz.prog 144 #[.slice p 0 cap, fv] w fun e w' => e = .returned (.tuple #[]) ∧ w' = w := AnyF.slices_SortFunc_none Tryz.laysSlF06_f144 p cap fv w
end Go.Proofs
