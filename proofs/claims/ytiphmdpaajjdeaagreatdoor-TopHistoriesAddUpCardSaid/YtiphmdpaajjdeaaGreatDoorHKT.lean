/- Part of the proof: KT. -/
import Derived.Test.YtiphmdpaajjdeaaGreatDoorHEW
import Derived.Test.YtiphmdpaajjdeaaGreatDoorProg
import Derived.KernelRfl
namespace Go.Proofs.YtiphmdpaajjdeaaGreatDoor
open Go Go.Pv
set_option maxRecDepth 100000
noncomputable def evft : FT := [(7, Tryz.f7), (27, Tryz.f27), (30, Tryz.f30), (31, Tryz.f31), (36, Tryz.f36), (58, Tryz.f58), (59, Tryz.f59), (60, Tryz.f60), (61, Tryz.f61), (62, Tryz.f62), (63, Tryz.f63), (64, Tryz.f64), (67, Tryz.f67), (81, Tryz.f81), (82, Tryz.f82), (83, Tryz.f83), (84, Tryz.f84), (85, Tryz.f85), (86, Tryz.f86), (93, Tryz.f93), (94, Tryz.f94), (95, Tryz.f95), (96, Tryz.f96), (97, Tryz.f97), (103, Tryz.f103), (104, Tryz.f104), (106, Tryz.f106), (109, Tryz.f109), (110, Tryz.f110), (111, Tryz.f111), (120, Tryz.f120), (121, Tryz.f121), (123, Tryz.f123), (124, Tryz.f124), (125, Tryz.f125), (126, Tryz.f126), (127, Tryz.f127), (128, Tryz.f128), (138, Tryz.f138), (139, Tryz.f139), (140, Tryz.f140), (141, Tryz.f141), (142, Tryz.f142), (143, Tryz.f143), (144, Tryz.f144), (145, Tryz.f145), (146, Tryz.f146), (147, Tryz.f147), (150, Tryz.f150), (151, Tryz.f151), (152, Tryz.f152), (153, Tryz.f153), (154, Tryz.f154), (155, Tryz.f155), (156, Tryz.f156), (157, Tryz.f157), (158, Tryz.f158), (159, Tryz.f159), (160, Tryz.f160), (161, Tryz.f161), (162, Tryz.f162), (164, Tryz.f164), (165, Tryz.f165), (166, Tryz.f166), (167, Tryz.f167), (168, Tryz.f168), (169, Tryz.f169), (170, Tryz.f170), (171, Tryz.f171), (172, Tryz.f172), (173, Tryz.f173), (174, Tryz.f174), (175, Tryz.f175), (176, Tryz.f176), (177, Tryz.f177), (178, Tryz.f178), (179, Tryz.f179), (180, Tryz.f180), (182, Tryz.f182), (183, Tryz.f183), (184, Tryz.f184), (185, Tryz.f185), (186, Tryz.f186), (187, Tryz.f187), (188, Tryz.f188), (190, Tryz.f190), (191, Tryz.f191), (192, Tryz.f192), (193, Tryz.f193), (194, Tryz.f194), (195, Tryz.f195), (196, Tryz.f196), (197, Tryz.f197)]
theorem evft_ok : FTok Tryz.prog evft := by
  intro p hp
  simp only [evft, List.mem_cons, List.not_mem_nil, or_false] at hp
  rcases hp with rfl | rfl | rfl | rfl | rfl | rfl | rfl | rfl | rfl | rfl | rfl | rfl | rfl | rfl | rfl | rfl | rfl | rfl | rfl | rfl | rfl | rfl | rfl | rfl | rfl | rfl | rfl | rfl | rfl | rfl | rfl | rfl | rfl | rfl | rfl | rfl | rfl | rfl | rfl | rfl | rfl | rfl | rfl | rfl | rfl | rfl | rfl | rfl | rfl | rfl | rfl | rfl | rfl | rfl | rfl | rfl | rfl | rfl | rfl | rfl | rfl | rfl | rfl | rfl | rfl | rfl | rfl | rfl | rfl | rfl | rfl | rfl | rfl | rfl | rfl | rfl | rfl | rfl | rfl | rfl | rfl | rfl | rfl | rfl | rfl | rfl | rfl | rfl | rfl | rfl | rfl | rfl | rfl
  · exact ⟨Tryz.func7, by kernel_rfl⟩
  · exact ⟨Tryz.func27, by kernel_rfl⟩
  · exact ⟨Tryz.func30, by kernel_rfl⟩
  · exact ⟨Tryz.func31, by kernel_rfl⟩
  · exact ⟨Tryz.func36, by kernel_rfl⟩
  · exact ⟨Tryz.func58, by kernel_rfl⟩
  · exact ⟨Tryz.func59, by kernel_rfl⟩
  · exact ⟨Tryz.func60, by kernel_rfl⟩
  · exact ⟨Tryz.func61, by kernel_rfl⟩
  · exact ⟨Tryz.func62, by kernel_rfl⟩
  · exact ⟨Tryz.func63, by kernel_rfl⟩
  · exact ⟨Tryz.func64, by kernel_rfl⟩
  · exact ⟨Tryz.func67, by kernel_rfl⟩
  · exact ⟨Tryz.func81, by kernel_rfl⟩
  · exact ⟨Tryz.func82, by kernel_rfl⟩
  · exact ⟨Tryz.func83, by kernel_rfl⟩
  · exact ⟨Tryz.func84, by kernel_rfl⟩
  · exact ⟨Tryz.func85, by kernel_rfl⟩
  · exact ⟨Tryz.func86, by kernel_rfl⟩
  · exact ⟨Tryz.func93, by kernel_rfl⟩
  · exact ⟨Tryz.func94, by kernel_rfl⟩
  · exact ⟨Tryz.func95, by kernel_rfl⟩
  · exact ⟨Tryz.func96, by kernel_rfl⟩
  · exact ⟨Tryz.func97, by kernel_rfl⟩
  · exact ⟨Tryz.func103, by kernel_rfl⟩
  · exact ⟨Tryz.func104, by kernel_rfl⟩
  · exact ⟨Tryz.func106, by kernel_rfl⟩
  · exact ⟨Tryz.func109, by kernel_rfl⟩
  · exact ⟨Tryz.func110, by kernel_rfl⟩
  · exact ⟨Tryz.func111, by kernel_rfl⟩
  · exact ⟨Tryz.func120, by kernel_rfl⟩
  · exact ⟨Tryz.func121, by kernel_rfl⟩
  · exact ⟨Tryz.func123, by kernel_rfl⟩
  · exact ⟨Tryz.func124, by kernel_rfl⟩
  · exact ⟨Tryz.func125, by kernel_rfl⟩
  · exact ⟨Tryz.func126, by kernel_rfl⟩
  · exact ⟨Tryz.func127, by kernel_rfl⟩
  · exact ⟨Tryz.func128, by kernel_rfl⟩
  · exact ⟨Tryz.func138, by kernel_rfl⟩
  · exact ⟨Tryz.func139, by kernel_rfl⟩
  · exact ⟨Tryz.func140, by kernel_rfl⟩
  · exact ⟨Tryz.func141, by kernel_rfl⟩
  · exact ⟨Tryz.func142, by kernel_rfl⟩
  · exact ⟨Tryz.func143, by kernel_rfl⟩
  · exact ⟨Tryz.func144, by kernel_rfl⟩
  · exact ⟨Tryz.func145, by kernel_rfl⟩
  · exact ⟨Tryz.func146, by kernel_rfl⟩
  · exact ⟨Tryz.func147, by kernel_rfl⟩
  · exact ⟨Tryz.func150, by kernel_rfl⟩
  · exact ⟨Tryz.func151, by kernel_rfl⟩
  · exact ⟨Tryz.func152, by kernel_rfl⟩
  · exact ⟨Tryz.func153, by kernel_rfl⟩
  · exact ⟨Tryz.func154, by kernel_rfl⟩
  · exact ⟨Tryz.func155, by kernel_rfl⟩
  · exact ⟨Tryz.func156, by kernel_rfl⟩
  · exact ⟨Tryz.func157, by kernel_rfl⟩
  · exact ⟨Tryz.func158, by kernel_rfl⟩
  · exact ⟨Tryz.func159, by kernel_rfl⟩
  · exact ⟨Tryz.func160, by kernel_rfl⟩
  · exact ⟨Tryz.func161, by kernel_rfl⟩
  · exact ⟨Tryz.func162, by kernel_rfl⟩
  · exact ⟨Tryz.func164, by kernel_rfl⟩
  · exact ⟨Tryz.func165, by kernel_rfl⟩
  · exact ⟨Tryz.func166, by kernel_rfl⟩
  · exact ⟨Tryz.func167, by kernel_rfl⟩
  · exact ⟨Tryz.func168, by kernel_rfl⟩
  · exact ⟨Tryz.func169, by kernel_rfl⟩
  · exact ⟨Tryz.func170, by kernel_rfl⟩
  · exact ⟨Tryz.func171, by kernel_rfl⟩
  · exact ⟨Tryz.func172, by kernel_rfl⟩
  · exact ⟨Tryz.func173, by kernel_rfl⟩
  · exact ⟨Tryz.func174, by kernel_rfl⟩
  · exact ⟨Tryz.func175, by kernel_rfl⟩
  · exact ⟨Tryz.func176, by kernel_rfl⟩
  · exact ⟨Tryz.func177, by kernel_rfl⟩
  · exact ⟨Tryz.func178, by kernel_rfl⟩
  · exact ⟨Tryz.func179, by kernel_rfl⟩
  · exact ⟨Tryz.func180, by kernel_rfl⟩
  · exact ⟨Tryz.func182, by kernel_rfl⟩
  · exact ⟨Tryz.func183, by kernel_rfl⟩
  · exact ⟨Tryz.func184, by kernel_rfl⟩
  · exact ⟨Tryz.func185, by kernel_rfl⟩
  · exact ⟨Tryz.func186, by kernel_rfl⟩
  · exact ⟨Tryz.func187, by kernel_rfl⟩
  · exact ⟨Tryz.func188, by kernel_rfl⟩
  · exact ⟨Tryz.func190, by kernel_rfl⟩
  · exact ⟨Tryz.func191, by kernel_rfl⟩
  · exact ⟨Tryz.func192, by kernel_rfl⟩
  · exact ⟨Tryz.func193, by kernel_rfl⟩
  · exact ⟨Tryz.func194, by kernel_rfl⟩
  · exact ⟨Tryz.func195, by kernel_rfl⟩
  · exact ⟨Tryz.func196, by kernel_rfl⟩
  · exact ⟨Tryz.func197, by kernel_rfl⟩
def evtt : TT := [(3, [.C, .Z 1 [.int .i64 0], .S 1, .U, .I .i64]), (4, [.S 1, .C]), (5, [.U, .Z 1 [.int .u8 0], .I .u8, .C]), (9, [.C, .Z 1 [.string ⟨#[]⟩], .Str, .S 1]), (21, [.U, .I .i32, .C]), (27, [.C]), (39, [.Sn, .Sl 1, .El 3 1 8, .C, .S 1, .Z 1 [.slice none 0 0]]), (50, [.Sn, .El 9 1 16, .C, .Sl 1]), (70, [.C, .Sn, .Sl 2]), (72, [.Z 6 [.string ⟨#[]⟩, .string ⟨#[]⟩, .string ⟨#[]⟩, .string ⟨#[]⟩, .slice none 0 0, .string ⟨#[]⟩], .Pl [(0, 1), (1, 1), (2, 1), (3, 1), (4, 1), (5, 1)], .A 6, .S 6, .F 0 0, .F 1 1, .F 2 2, .F 4 4, .F 5 5, .F 3 3]), (73, [.C, .Sn, .Sl 2]), (75, [.Z 10 [.string ⟨#[]⟩, .string ⟨#[]⟩, .string ⟨#[]⟩, .string ⟨#[]⟩, .string ⟨#[]⟩, .slice none 0 0, .string ⟨#[]⟩, .slice none 0 0, .string ⟨#[]⟩, .slice none 0 0], .Pl [(0, 1), (1, 6), (7, 1), (8, 1), (9, 1)], .F 0 0, .A 10, .S 10, .F 1 1, .F 2 7, .F 3 8, .F 4 9]), (76, [.El 75 10 184, .C, .Sl 10, .Sn]), (77, [.C, .Sn, .Sl 3]), (79, [.Z 5 [.string ⟨#[]⟩, .string ⟨#[]⟩, .string ⟨#[]⟩, .slice none 0 0, .slice none 0 0], .Pl [(0, 1), (1, 1), (2, 1), (3, 1), (4, 1)], .S 5, .A 5, .F 3 3, .F 2 2, .F 4 4, .F 0 0, .F 1 1]), (83, [.Z 2 [.slice none 0 0, .slice none 0 0], .Pl [(0, 1), (1, 1)], .S 2, .A 2, .F 0 0, .F 1 1]), (107, [.C]), (116, [.C, .Sn, .Sl 1, .El 39 1 24]), (118, [.Z 8 [.string ⟨#[]⟩, .string ⟨#[]⟩, .string ⟨#[]⟩, .slice none 0 0, .slice none 0 0, .int .i64 0, .slice none 0 0, .slice none 0 0], .S 8, .A 8, .F 2 6, .F 1 5, .Pl [(0, 5), (5, 1), (6, 1), (7, 1)], .F 0 0, .F 3 7]), (125, [.Arr 7 1]), (127, [.Z 9 [.bool false, .bool false, .bool false, .bool false, .bool false, .bool false, .bool false, .int .i64 0, .slice none 0 0], .S 9, .A 9, .Pl [(0, 7), (7, 1), (8, 1)], .F 0 0, .F 2 8, .F 1 7]), (157, [.Z 2 [.bool false, .map none], .Pl [(0, 1), (1, 1)], .S 2, .A 2, .F 0 0, .F 1 1]), (160, [.A 3, .Z 3 [.string ⟨#[]⟩, .string ⟨#[]⟩, .int .i64 0], .S 3, .F 2 2, .F 0 0, .F 1 1]), (161, [.I .u64, .U]), (167, [.C, .U, .S 1]), (168, [.C, .Sn, .El 5 1 1, .S 1, .Sl 1]), (170, [.F 1 1, .F 0 0, .Z 2 [.pointer none, .slice none 0 0]]), (187, [.I .u32, .C, .U]), (195, [.C, .Sn, .Sl 5, .El 197 5 72, .S 1]), (197, [.Z 5 [.int .i64 0, .string ⟨#[]⟩, .bool false, .string ⟨#[]⟩, .slice none 0 0], .S 5, .A 5, .Pl [(0, 1), (1, 1), (2, 1), (3, 1), (4, 1)], .F 4 4, .F 0 0, .F 1 1, .F 3 3, .F 2 2]), (206, [.U]), (210, [.Z 5 [.string ⟨#[]⟩, .int .i64 0, .bool false, .bool false, .int .i64 0], .S 5, .F 1 1, .A 5, .Pl [(0, 1), (1, 1), (2, 1), (3, 1), (4, 1)], .F 0 0]), (219, [.A 2, .Z 2 [.string ⟨#[]⟩, .string ⟨#[]⟩], .S 2, .F 1 1, .F 0 0]), (221, [.A 2, .Z 2 [.string ⟨#[]⟩, .string ⟨#[]⟩], .S 2, .F 0 0, .F 1 1]), (223, [.Z 2 [.int .i64 0, .int .i64 0], .S 2, .F 1 1, .F 0 0, .A 2, .Pl [(0, 1), (1, 1)]]), (229, [.AA 5 5 210, .A 25, .Z 25 [.string ⟨#[]⟩, .int .i64 0, .bool false, .bool false, .int .i64 0, .string ⟨#[]⟩, .int .i64 0, .bool false, .bool false, .int .i64 0, .string ⟨#[]⟩, .int .i64 0, .bool false, .bool false, .int .i64 0, .string ⟨#[]⟩, .int .i64 0, .bool false, .bool false, .int .i64 0, .string ⟨#[]⟩, .int .i64 0, .bool false, .bool false, .int .i64 0], .Arr 5 5, .S 25]), (236, [.F 0 0, .F 2 2, .Z 4 [.int .i64 0, .string ⟨#[]⟩, .int .i64 0, .bool false], .Pl [(0, 1), (1, 1), (2, 1), (3, 1)], .S 4, .A 4, .F 1 1, .F 3 3]), (238, [.Z 7 [.string ⟨#[]⟩, .int .i64 0, .int .i64 0, .string ⟨#[]⟩, .int .i64 0, .bool false, .int .i64 0], .Pl [(0, 1), (1, 1), (2, 4), (6, 1)], .S 7, .F 2 2, .F 1 1, .F 0 0, .F 3 6]), (261, [.C, .Sn, .Sl 5]), (262, [.Arr 256 1]), (264, [.A 2, .Z 2 [.int .u8 0, .int .u8 0], .S 2, .F 0 0, .F 1 1]), (265, [.Arr 16 2]), (271, [.Arr 3 1]), (273, [.F 0 0, .F 1 1, .F 2 2])]
theorem evtt_ok : TTok Tryz.prog evtt := tt_all ⟨⟨(by kernel_rfl : tyC Tryz.prog 3 = true), ⟨(by kernel_rfl : zeroCells Tryz.prog 3 = some [.int .i64 0]), rfl⟩, (by kernel_rfl : tyS Tryz.prog 3 1 = true), (by kernel_rfl : tyU Tryz.prog 3 = true), (by kernel_rfl : tyI Tryz.prog 3 .i64 = true), trivial⟩, ⟨(by kernel_rfl : tyS Tryz.prog 4 1 = true), (by kernel_rfl : tyC Tryz.prog 4 = true), trivial⟩, ⟨(by kernel_rfl : tyU Tryz.prog 5 = true), ⟨(by kernel_rfl : zeroCells Tryz.prog 5 = some [.int .u8 0]), rfl⟩, (by kernel_rfl : tyI Tryz.prog 5 .u8 = true), (by kernel_rfl : tyC Tryz.prog 5 = true), trivial⟩, ⟨(by kernel_rfl : tyC Tryz.prog 9 = true), ⟨(by kernel_rfl : zeroCells Tryz.prog 9 = some [.string ⟨#[]⟩]), rfl⟩, (by kernel_rfl : tyStr Tryz.prog 9 = true), (by kernel_rfl : tyS Tryz.prog 9 1 = true), trivial⟩, ⟨(by kernel_rfl : tyU Tryz.prog 21 = true), (by kernel_rfl : tyI Tryz.prog 21 .i32 = true), (by kernel_rfl : tyC Tryz.prog 21 = true), trivial⟩, ⟨(by kernel_rfl : tyC Tryz.prog 27 = true), trivial⟩, ⟨(by kernel_rfl : tySlice Tryz.prog 39 = true), (by kernel_rfl : tySl Tryz.prog 39 1 = true), (by kernel_rfl : tyEl Tryz.prog 39 3 1 8 = true), (by kernel_rfl : tyC Tryz.prog 39 = true), (by kernel_rfl : tyS Tryz.prog 39 1 = true), ⟨(by kernel_rfl : zeroCells Tryz.prog 39 = some [.slice none 0 0]), rfl⟩, trivial⟩, ⟨(by kernel_rfl : tySlice Tryz.prog 50 = true), (by kernel_rfl : tyEl Tryz.prog 50 9 1 16 = true), (by kernel_rfl : tyC Tryz.prog 50 = true), (by kernel_rfl : tySl Tryz.prog 50 1 = true), trivial⟩, ⟨(by kernel_rfl : tyC Tryz.prog 70 = true), (by kernel_rfl : tySlice Tryz.prog 70 = true), (by kernel_rfl : tySl Tryz.prog 70 2 = true), trivial⟩, ⟨⟨(by kernel_rfl : zeroCells Tryz.prog 72 = some [.string ⟨#[]⟩, .string ⟨#[]⟩, .string ⟨#[]⟩, .string ⟨#[]⟩, .slice none 0 0, .string ⟨#[]⟩]), rfl⟩, (by kernel_rfl : tyPlaces Tryz.prog 72 = some [(0, 1), (1, 1), (2, 1), (3, 1), (4, 1), (5, 1)]), (by kernel_rfl : tyA Tryz.prog 72 6 = true), (by kernel_rfl : tyS Tryz.prog 72 6 = true), (by kernel_rfl : tyF Tryz.prog 72 0 0 = true), (by kernel_rfl : tyF Tryz.prog 72 1 1 = true), (by kernel_rfl : tyF Tryz.prog 72 2 2 = true), (by kernel_rfl : tyF Tryz.prog 72 4 4 = true), (by kernel_rfl : tyF Tryz.prog 72 5 5 = true), (by kernel_rfl : tyF Tryz.prog 72 3 3 = true), trivial⟩, ⟨(by kernel_rfl : tyC Tryz.prog 73 = true), (by kernel_rfl : tySlice Tryz.prog 73 = true), (by kernel_rfl : tySl Tryz.prog 73 2 = true), trivial⟩, ⟨⟨(by kernel_rfl : zeroCells Tryz.prog 75 = some [.string ⟨#[]⟩, .string ⟨#[]⟩, .string ⟨#[]⟩, .string ⟨#[]⟩, .string ⟨#[]⟩, .slice none 0 0, .string ⟨#[]⟩, .slice none 0 0, .string ⟨#[]⟩, .slice none 0 0]), rfl⟩, (by kernel_rfl : tyPlaces Tryz.prog 75 = some [(0, 1), (1, 6), (7, 1), (8, 1), (9, 1)]), (by kernel_rfl : tyF Tryz.prog 75 0 0 = true), (by kernel_rfl : tyA Tryz.prog 75 10 = true), (by kernel_rfl : tyS Tryz.prog 75 10 = true), (by kernel_rfl : tyF Tryz.prog 75 1 1 = true), (by kernel_rfl : tyF Tryz.prog 75 2 7 = true), (by kernel_rfl : tyF Tryz.prog 75 3 8 = true), (by kernel_rfl : tyF Tryz.prog 75 4 9 = true), trivial⟩, ⟨(by kernel_rfl : tyEl Tryz.prog 76 75 10 184 = true), (by kernel_rfl : tyC Tryz.prog 76 = true), (by kernel_rfl : tySl Tryz.prog 76 10 = true), (by kernel_rfl : tySlice Tryz.prog 76 = true), trivial⟩, ⟨(by kernel_rfl : tyC Tryz.prog 77 = true), (by kernel_rfl : tySlice Tryz.prog 77 = true), (by kernel_rfl : tySl Tryz.prog 77 3 = true), trivial⟩, ⟨⟨(by kernel_rfl : zeroCells Tryz.prog 79 = some [.string ⟨#[]⟩, .string ⟨#[]⟩, .string ⟨#[]⟩, .slice none 0 0, .slice none 0 0]), rfl⟩, (by kernel_rfl : tyPlaces Tryz.prog 79 = some [(0, 1), (1, 1), (2, 1), (3, 1), (4, 1)]), (by kernel_rfl : tyS Tryz.prog 79 5 = true), (by kernel_rfl : tyA Tryz.prog 79 5 = true), (by kernel_rfl : tyF Tryz.prog 79 3 3 = true), (by kernel_rfl : tyF Tryz.prog 79 2 2 = true), (by kernel_rfl : tyF Tryz.prog 79 4 4 = true), (by kernel_rfl : tyF Tryz.prog 79 0 0 = true), (by kernel_rfl : tyF Tryz.prog 79 1 1 = true), trivial⟩, ⟨⟨(by kernel_rfl : zeroCells Tryz.prog 83 = some [.slice none 0 0, .slice none 0 0]), rfl⟩, (by kernel_rfl : tyPlaces Tryz.prog 83 = some [(0, 1), (1, 1)]), (by kernel_rfl : tyS Tryz.prog 83 2 = true), (by kernel_rfl : tyA Tryz.prog 83 2 = true), (by kernel_rfl : tyF Tryz.prog 83 0 0 = true), (by kernel_rfl : tyF Tryz.prog 83 1 1 = true), trivial⟩, ⟨(by kernel_rfl : tyC Tryz.prog 107 = true), trivial⟩, ⟨(by kernel_rfl : tyC Tryz.prog 116 = true), (by kernel_rfl : tySlice Tryz.prog 116 = true), (by kernel_rfl : tySl Tryz.prog 116 1 = true), (by kernel_rfl : tyEl Tryz.prog 116 39 1 24 = true), trivial⟩, ⟨⟨(by kernel_rfl : zeroCells Tryz.prog 118 = some [.string ⟨#[]⟩, .string ⟨#[]⟩, .string ⟨#[]⟩, .slice none 0 0, .slice none 0 0, .int .i64 0, .slice none 0 0, .slice none 0 0]), rfl⟩, (by kernel_rfl : tyS Tryz.prog 118 8 = true), (by kernel_rfl : tyA Tryz.prog 118 8 = true), (by kernel_rfl : tyF Tryz.prog 118 2 6 = true), (by kernel_rfl : tyF Tryz.prog 118 1 5 = true), (by kernel_rfl : tyPlaces Tryz.prog 118 = some [(0, 5), (5, 1), (6, 1), (7, 1)]), (by kernel_rfl : tyF Tryz.prog 118 0 0 = true), (by kernel_rfl : tyF Tryz.prog 118 3 7 = true), trivial⟩, ⟨(by kernel_rfl : tyArr Tryz.prog 125 7 1 = true), trivial⟩, ⟨⟨(by kernel_rfl : zeroCells Tryz.prog 127 = some [.bool false, .bool false, .bool false, .bool false, .bool false, .bool false, .bool false, .int .i64 0, .slice none 0 0]), rfl⟩, (by kernel_rfl : tyS Tryz.prog 127 9 = true), (by kernel_rfl : tyA Tryz.prog 127 9 = true), (by kernel_rfl : tyPlaces Tryz.prog 127 = some [(0, 7), (7, 1), (8, 1)]), (by kernel_rfl : tyF Tryz.prog 127 0 0 = true), (by kernel_rfl : tyF Tryz.prog 127 2 8 = true), (by kernel_rfl : tyF Tryz.prog 127 1 7 = true), trivial⟩, ⟨⟨(by kernel_rfl : zeroCells Tryz.prog 157 = some [.bool false, .map none]), rfl⟩, (by kernel_rfl : tyPlaces Tryz.prog 157 = some [(0, 1), (1, 1)]), (by kernel_rfl : tyS Tryz.prog 157 2 = true), (by kernel_rfl : tyA Tryz.prog 157 2 = true), (by kernel_rfl : tyF Tryz.prog 157 0 0 = true), (by kernel_rfl : tyF Tryz.prog 157 1 1 = true), trivial⟩, ⟨(by kernel_rfl : tyA Tryz.prog 160 3 = true), ⟨(by kernel_rfl : zeroCells Tryz.prog 160 = some [.string ⟨#[]⟩, .string ⟨#[]⟩, .int .i64 0]), rfl⟩, (by kernel_rfl : tyS Tryz.prog 160 3 = true), (by kernel_rfl : tyF Tryz.prog 160 2 2 = true), (by kernel_rfl : tyF Tryz.prog 160 0 0 = true), (by kernel_rfl : tyF Tryz.prog 160 1 1 = true), trivial⟩, ⟨(by kernel_rfl : tyI Tryz.prog 161 .u64 = true), (by kernel_rfl : tyU Tryz.prog 161 = true), trivial⟩, ⟨(by kernel_rfl : tyC Tryz.prog 167 = true), (by kernel_rfl : tyU Tryz.prog 167 = true), (by kernel_rfl : tyS Tryz.prog 167 1 = true), trivial⟩, ⟨(by kernel_rfl : tyC Tryz.prog 168 = true), (by kernel_rfl : tySlice Tryz.prog 168 = true), (by kernel_rfl : tyEl Tryz.prog 168 5 1 1 = true), (by kernel_rfl : tyS Tryz.prog 168 1 = true), (by kernel_rfl : tySl Tryz.prog 168 1 = true), trivial⟩, ⟨(by kernel_rfl : tyF Tryz.prog 170 1 1 = true), (by kernel_rfl : tyF Tryz.prog 170 0 0 = true), ⟨(by kernel_rfl : zeroCells Tryz.prog 170 = some [.pointer none, .slice none 0 0]), rfl⟩, trivial⟩, ⟨(by kernel_rfl : tyI Tryz.prog 187 .u32 = true), (by kernel_rfl : tyC Tryz.prog 187 = true), (by kernel_rfl : tyU Tryz.prog 187 = true), trivial⟩, ⟨(by kernel_rfl : tyC Tryz.prog 195 = true), (by kernel_rfl : tySlice Tryz.prog 195 = true), (by kernel_rfl : tySl Tryz.prog 195 5 = true), (by kernel_rfl : tyEl Tryz.prog 195 197 5 72 = true), (by kernel_rfl : tyS Tryz.prog 195 1 = true), trivial⟩, ⟨⟨(by kernel_rfl : zeroCells Tryz.prog 197 = some [.int .i64 0, .string ⟨#[]⟩, .bool false, .string ⟨#[]⟩, .slice none 0 0]), rfl⟩, (by kernel_rfl : tyS Tryz.prog 197 5 = true), (by kernel_rfl : tyA Tryz.prog 197 5 = true), (by kernel_rfl : tyPlaces Tryz.prog 197 = some [(0, 1), (1, 1), (2, 1), (3, 1), (4, 1)]), (by kernel_rfl : tyF Tryz.prog 197 4 4 = true), (by kernel_rfl : tyF Tryz.prog 197 0 0 = true), (by kernel_rfl : tyF Tryz.prog 197 1 1 = true), (by kernel_rfl : tyF Tryz.prog 197 3 3 = true), (by kernel_rfl : tyF Tryz.prog 197 2 2 = true), trivial⟩, ⟨(by kernel_rfl : tyU Tryz.prog 206 = true), trivial⟩, ⟨⟨(by kernel_rfl : zeroCells Tryz.prog 210 = some [.string ⟨#[]⟩, .int .i64 0, .bool false, .bool false, .int .i64 0]), rfl⟩, (by kernel_rfl : tyS Tryz.prog 210 5 = true), (by kernel_rfl : tyF Tryz.prog 210 1 1 = true), (by kernel_rfl : tyA Tryz.prog 210 5 = true), (by kernel_rfl : tyPlaces Tryz.prog 210 = some [(0, 1), (1, 1), (2, 1), (3, 1), (4, 1)]), (by kernel_rfl : tyF Tryz.prog 210 0 0 = true), trivial⟩, ⟨(by kernel_rfl : tyA Tryz.prog 219 2 = true), ⟨(by kernel_rfl : zeroCells Tryz.prog 219 = some [.string ⟨#[]⟩, .string ⟨#[]⟩]), rfl⟩, (by kernel_rfl : tyS Tryz.prog 219 2 = true), (by kernel_rfl : tyF Tryz.prog 219 1 1 = true), (by kernel_rfl : tyF Tryz.prog 219 0 0 = true), trivial⟩, ⟨(by kernel_rfl : tyA Tryz.prog 221 2 = true), ⟨(by kernel_rfl : zeroCells Tryz.prog 221 = some [.string ⟨#[]⟩, .string ⟨#[]⟩]), rfl⟩, (by kernel_rfl : tyS Tryz.prog 221 2 = true), (by kernel_rfl : tyF Tryz.prog 221 0 0 = true), (by kernel_rfl : tyF Tryz.prog 221 1 1 = true), trivial⟩, ⟨⟨(by kernel_rfl : zeroCells Tryz.prog 223 = some [.int .i64 0, .int .i64 0]), rfl⟩, (by kernel_rfl : tyS Tryz.prog 223 2 = true), (by kernel_rfl : tyF Tryz.prog 223 1 1 = true), (by kernel_rfl : tyF Tryz.prog 223 0 0 = true), (by kernel_rfl : tyA Tryz.prog 223 2 = true), (by kernel_rfl : tyPlaces Tryz.prog 223 = some [(0, 1), (1, 1)]), trivial⟩, ⟨(by kernel_rfl : tyArrA Tryz.prog 229 5 5 210 = true), (by kernel_rfl : tyA Tryz.prog 229 25 = true), ⟨(by kernel_rfl : zeroCells Tryz.prog 229 = some [.string ⟨#[]⟩, .int .i64 0, .bool false, .bool false, .int .i64 0, .string ⟨#[]⟩, .int .i64 0, .bool false, .bool false, .int .i64 0, .string ⟨#[]⟩, .int .i64 0, .bool false, .bool false, .int .i64 0, .string ⟨#[]⟩, .int .i64 0, .bool false, .bool false, .int .i64 0, .string ⟨#[]⟩, .int .i64 0, .bool false, .bool false, .int .i64 0]), rfl⟩, (by kernel_rfl : tyArr Tryz.prog 229 5 5 = true), (by kernel_rfl : tyS Tryz.prog 229 25 = true), trivial⟩, ⟨(by kernel_rfl : tyF Tryz.prog 236 0 0 = true), (by kernel_rfl : tyF Tryz.prog 236 2 2 = true), ⟨(by kernel_rfl : zeroCells Tryz.prog 236 = some [.int .i64 0, .string ⟨#[]⟩, .int .i64 0, .bool false]), rfl⟩, (by kernel_rfl : tyPlaces Tryz.prog 236 = some [(0, 1), (1, 1), (2, 1), (3, 1)]), (by kernel_rfl : tyS Tryz.prog 236 4 = true), (by kernel_rfl : tyA Tryz.prog 236 4 = true), (by kernel_rfl : tyF Tryz.prog 236 1 1 = true), (by kernel_rfl : tyF Tryz.prog 236 3 3 = true), trivial⟩, ⟨⟨(by kernel_rfl : zeroCells Tryz.prog 238 = some [.string ⟨#[]⟩, .int .i64 0, .int .i64 0, .string ⟨#[]⟩, .int .i64 0, .bool false, .int .i64 0]), rfl⟩, (by kernel_rfl : tyPlaces Tryz.prog 238 = some [(0, 1), (1, 1), (2, 4), (6, 1)]), (by kernel_rfl : tyS Tryz.prog 238 7 = true), (by kernel_rfl : tyF Tryz.prog 238 2 2 = true), (by kernel_rfl : tyF Tryz.prog 238 1 1 = true), (by kernel_rfl : tyF Tryz.prog 238 0 0 = true), (by kernel_rfl : tyF Tryz.prog 238 3 6 = true), trivial⟩, ⟨(by kernel_rfl : tyC Tryz.prog 261 = true), (by kernel_rfl : tySlice Tryz.prog 261 = true), (by kernel_rfl : tySl Tryz.prog 261 5 = true), trivial⟩, ⟨(by kernel_rfl : tyArr Tryz.prog 262 256 1 = true), trivial⟩, ⟨(by kernel_rfl : tyA Tryz.prog 264 2 = true), ⟨(by kernel_rfl : zeroCells Tryz.prog 264 = some [.int .u8 0, .int .u8 0]), rfl⟩, (by kernel_rfl : tyS Tryz.prog 264 2 = true), (by kernel_rfl : tyF Tryz.prog 264 0 0 = true), (by kernel_rfl : tyF Tryz.prog 264 1 1 = true), trivial⟩, ⟨(by kernel_rfl : tyArr Tryz.prog 265 16 2 = true), trivial⟩, ⟨(by kernel_rfl : tyArr Tryz.prog 271 3 1 = true), trivial⟩, ⟨(by kernel_rfl : tyF Tryz.prog 273 0 0 = true), (by kernel_rfl : tyF Tryz.prog 273 1 1 = true), (by kernel_rfl : tyF Tryz.prog 273 2 2 = true), trivial⟩, trivial⟩
def evmt : List MT := [⟨107, 9, 4, true, .i64, .con (.bool false)⟩, ⟨158, 9, 3, true, .i64, .con (.int .i64 0)⟩]
theorem evmt_ok : MTok Tryz.prog evmt := by
  intro p hp
  simp only [evmt, List.mem_cons, List.not_mem_nil, or_false] at hp
  rcases hp with rfl | rfl
  · exact ⟨by kernel_rfl, keyT_str (by kernel_rfl), _, by kernel_rfl, fun _ => (.con _)⟩
  · exact ⟨by kernel_rfl, keyT_str (by kernel_rfl), _, by kernel_rfl, fun _ => (.con _)⟩
end Go.Proofs.YtiphmdpaajjdeaaGreatDoor
