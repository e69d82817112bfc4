/- Part of the proof: L9T, L9X, L9E. -/
import Derived.Test.YtkeeppclihjlhaaGreatDoorREW
import Derived.Test.YtkeeppclihjlhaaGreatDoorProg
import Derived.KernelRfl
import Derived.Test.YtkeeppclihjlhaaGreatDoorRC3Sh
import Derived.Lib.SmallJoins
namespace Go.Proofs.YtkeeppclihjlhaaGreatDoor
open Go Go.Pv
set_option maxRecDepth 100000
noncomputable def evft : FT := [(10, Tryz.f10), (12, Tryz.f12), (14, Tryz.f14), (16, Tryz.f16), (17, Tryz.f17), (31, Tryz.f31), (32, Tryz.f32), (34, Tryz.f34), (35, Tryz.f35), (36, Tryz.f36), (40, Tryz.f40), (41, Tryz.f41), (45, Tryz.f45), (48, Tryz.f48), (49, Tryz.f49), (50, Tryz.f50), (51, Tryz.f51), (52, Tryz.f52), (62, Tryz.f62), (65, Tryz.f65), (66, Tryz.f66), (67, Tryz.f67), (69, Tryz.f69), (70, Tryz.f70), (71, Tryz.f71), (73, Tryz.f73), (74, Tryz.f74), (75, Tryz.f75), (76, Tryz.f76), (77, Tryz.f77), (78, Tryz.f78), (79, Tryz.f79), (80, Tryz.f80), (81, Tryz.f81), (89, Tryz.f89), (90, Tryz.f90), (91, Tryz.f91), (92, Tryz.f92), (93, Tryz.f93), (94, Tryz.f94), (95, Tryz.f95), (96, Tryz.f96), (97, Tryz.f97), (98, Tryz.f98), (99, Tryz.f99), (100, Tryz.f100), (112, Tryz.f112), (114, Tryz.f114), (115, Tryz.f115), (116, Tryz.f116), (117, Tryz.f117), (118, Tryz.f118), (119, Tryz.f119), (120, Tryz.f120), (121, Tryz.f121), (122, Tryz.f122), (123, Tryz.f123), (130, Tryz.f130), (131, Tryz.f131), (132, Tryz.f132), (133, Tryz.f133), (134, Tryz.f134), (136, Tryz.f136), (137, Tryz.f137), (138, Tryz.f138), (139, Tryz.f139), (140, Tryz.f140), (141, Tryz.f141), (142, Tryz.f142), (143, Tryz.f143), (144, Tryz.f144), (145, Tryz.f145), (146, Tryz.f146), (147, Tryz.f147), (148, Tryz.f148), (149, Tryz.f149), (150, Tryz.f150), (151, Tryz.f151), (152, Tryz.f152), (153, Tryz.f153), (154, Tryz.f154), (155, Tryz.f155), (156, Tryz.f156), (157, Tryz.f157), (158, Tryz.f158), (159, Tryz.f159), (160, Tryz.f160), (176, Tryz.f176), (177, Tryz.f177), (178, Tryz.f178), (179, Tryz.f179), (180, Tryz.f180), (181, Tryz.f181), (182, Tryz.f182), (183, Tryz.f183), (184, Tryz.f184), (185, Tryz.f185), (186, Tryz.f186), (187, Tryz.f187), (188, Tryz.f188), (189, Tryz.f189), (190, Tryz.f190), (191, Tryz.f191)]
theorem evft_ok : FTok Tryz.prog evft := by
 intro p hp
 simp only [evft, List.mem_cons, List.not_mem_nil, or_false] at hp
 rcases hp with rfl | rfl | rfl | rfl | rfl | rfl | rfl | rfl | rfl | rfl | rfl | rfl | rfl | rfl | rfl | rfl | rfl | rfl | rfl | rfl | rfl | rfl | rfl | rfl | rfl | rfl | rfl | rfl | rfl | rfl | rfl | rfl | rfl | rfl | rfl | rfl | rfl | rfl | rfl | rfl | rfl | rfl | rfl | rfl | rfl | rfl | rfl | rfl | rfl | rfl | rfl | rfl | rfl | rfl | rfl | rfl | rfl | rfl | rfl | rfl | rfl | rfl | rfl | rfl | rfl | rfl | rfl | rfl | rfl | rfl | rfl | rfl | rfl | rfl | rfl | rfl | rfl | rfl | rfl | rfl | rfl | rfl | rfl | rfl | rfl | rfl | rfl | rfl | rfl | rfl | rfl | rfl | rfl | rfl | rfl | rfl | rfl | rfl | rfl | rfl | rfl | rfl | rfl
 ·exact ⟨Tryz.func10, by kernel_rfl⟩
 ·exact ⟨Tryz.func12, by kernel_rfl⟩
 ·exact ⟨Tryz.func14, by kernel_rfl⟩
 ·exact ⟨Tryz.func16, by kernel_rfl⟩
 ·exact ⟨Tryz.func17, by kernel_rfl⟩
 ·exact ⟨Tryz.func31, by kernel_rfl⟩
 ·exact ⟨Tryz.func32, by kernel_rfl⟩
 ·exact ⟨Tryz.func34, by kernel_rfl⟩
 ·exact ⟨Tryz.func35, by kernel_rfl⟩
 ·exact ⟨Tryz.func36, by kernel_rfl⟩
 ·exact ⟨Tryz.func40, by kernel_rfl⟩
 ·exact ⟨Tryz.func41, by kernel_rfl⟩
 ·exact ⟨Tryz.func45, by kernel_rfl⟩
 ·exact ⟨Tryz.func48, by kernel_rfl⟩
 ·exact ⟨Tryz.func49, by kernel_rfl⟩
 ·exact ⟨Tryz.func50, by kernel_rfl⟩
 ·exact ⟨Tryz.func51, by kernel_rfl⟩
 ·exact ⟨Tryz.func52, by kernel_rfl⟩
 ·exact ⟨Tryz.func62, by kernel_rfl⟩
 ·exact ⟨Tryz.func65, by kernel_rfl⟩
 ·exact ⟨Tryz.func66, by kernel_rfl⟩
 ·exact ⟨Tryz.func67, by kernel_rfl⟩
 ·exact ⟨Tryz.func69, by kernel_rfl⟩
 ·exact ⟨Tryz.func70, by kernel_rfl⟩
 ·exact ⟨Tryz.func71, by kernel_rfl⟩
 ·exact ⟨Tryz.func73, by kernel_rfl⟩
 ·exact ⟨Tryz.func74, by kernel_rfl⟩
 ·exact ⟨Tryz.func75, by kernel_rfl⟩
 ·exact ⟨Tryz.func76, by kernel_rfl⟩
 ·exact ⟨Tryz.func77, by kernel_rfl⟩
 ·exact ⟨Tryz.func78, by kernel_rfl⟩
 ·exact ⟨Tryz.func79, by kernel_rfl⟩
 ·exact ⟨Tryz.func80, by kernel_rfl⟩
 ·exact ⟨Tryz.func81, by kernel_rfl⟩
 ·exact ⟨Tryz.func89, by kernel_rfl⟩
 ·exact ⟨Tryz.func90, by kernel_rfl⟩
 ·exact ⟨Tryz.func91, by kernel_rfl⟩
 ·exact ⟨Tryz.func92, by kernel_rfl⟩
 ·exact ⟨Tryz.func93, by kernel_rfl⟩
 ·exact ⟨Tryz.func94, by kernel_rfl⟩
 ·exact ⟨Tryz.func95, by kernel_rfl⟩
 ·exact ⟨Tryz.func96, by kernel_rfl⟩
 ·exact ⟨Tryz.func97, by kernel_rfl⟩
 ·exact ⟨Tryz.func98, by kernel_rfl⟩
 ·exact ⟨Tryz.func99, by kernel_rfl⟩
 ·exact ⟨Tryz.func100, by kernel_rfl⟩
 ·exact ⟨Tryz.func112, by kernel_rfl⟩
 ·exact ⟨Tryz.func114, by kernel_rfl⟩
 ·exact ⟨Tryz.func115, by kernel_rfl⟩
 ·exact ⟨Tryz.func116, by kernel_rfl⟩
 ·exact ⟨Tryz.func117, by kernel_rfl⟩
 ·exact ⟨Tryz.func118, by kernel_rfl⟩
 ·exact ⟨Tryz.func119, by kernel_rfl⟩
 ·exact ⟨Tryz.func120, by kernel_rfl⟩
 ·exact ⟨Tryz.func121, by kernel_rfl⟩
 ·exact ⟨Tryz.func122, by kernel_rfl⟩
 ·exact ⟨Tryz.func123, by kernel_rfl⟩
 ·exact ⟨Tryz.func130, by kernel_rfl⟩
 ·exact ⟨Tryz.func131, by kernel_rfl⟩
 ·exact ⟨Tryz.func132, by kernel_rfl⟩
 ·exact ⟨Tryz.func133, by kernel_rfl⟩
 ·exact ⟨Tryz.func134, by kernel_rfl⟩
 ·exact ⟨Tryz.func136, by kernel_rfl⟩
 ·exact ⟨Tryz.func137, by kernel_rfl⟩
 ·exact ⟨Tryz.func138, by kernel_rfl⟩
 ·exact ⟨Tryz.func139, by kernel_rfl⟩
 ·exact ⟨Tryz.func140, by kernel_rfl⟩
 ·exact ⟨Tryz.func141, by kernel_rfl⟩
 ·exact ⟨Tryz.func142, by kernel_rfl⟩
 ·exact ⟨Tryz.func143, by kernel_rfl⟩
 ·exact ⟨Tryz.func144, by kernel_rfl⟩
 ·exact ⟨Tryz.func145, by kernel_rfl⟩
 ·exact ⟨Tryz.func146, by kernel_rfl⟩
 ·exact ⟨Tryz.func147, by kernel_rfl⟩
 ·exact ⟨Tryz.func148, by kernel_rfl⟩
 ·exact ⟨Tryz.func149, by kernel_rfl⟩
 ·exact ⟨Tryz.func150, by kernel_rfl⟩
 ·exact ⟨Tryz.func151, by kernel_rfl⟩
 ·exact ⟨Tryz.func152, by kernel_rfl⟩
 ·exact ⟨Tryz.func153, by kernel_rfl⟩
 ·exact ⟨Tryz.func154, by kernel_rfl⟩
 ·exact ⟨Tryz.func155, by kernel_rfl⟩
 ·exact ⟨Tryz.func156, by kernel_rfl⟩
 ·exact ⟨Tryz.func157, by kernel_rfl⟩
 ·exact ⟨Tryz.func158, by kernel_rfl⟩
 ·exact ⟨Tryz.func159, by kernel_rfl⟩
 ·exact ⟨Tryz.func160, by kernel_rfl⟩
 ·exact ⟨Tryz.func176, by kernel_rfl⟩
 ·exact ⟨Tryz.func177, by kernel_rfl⟩
 ·exact ⟨Tryz.func178, by kernel_rfl⟩
 ·exact ⟨Tryz.func179, by kernel_rfl⟩
 ·exact ⟨Tryz.func180, by kernel_rfl⟩
 ·exact ⟨Tryz.func181, by kernel_rfl⟩
 ·exact ⟨Tryz.func182, by kernel_rfl⟩
 ·exact ⟨Tryz.func183, by kernel_rfl⟩
 ·exact ⟨Tryz.func184, by kernel_rfl⟩
 ·exact ⟨Tryz.func185, by kernel_rfl⟩
 ·exact ⟨Tryz.func186, by kernel_rfl⟩
 ·exact ⟨Tryz.func187, by kernel_rfl⟩
 ·exact ⟨Tryz.func188, by kernel_rfl⟩
 ·exact ⟨Tryz.func189, by kernel_rfl⟩
 ·exact ⟨Tryz.func190, by kernel_rfl⟩
 ·exact ⟨Tryz.func191, by kernel_rfl⟩
def evtt : TT := [(2, [.I .i64, .U]), (3, [.C, .S 1, .Z 1 [.int .i64 0], .I .i64, .U]), (4, [.S 1, .C]), (5, [.Z 1 [.int .u8 0], .I .u8, .U, .C, .S 1]), (9, [.C, .S 1, .Str, .Z 1 [.string ⟨#[]⟩], .U, .Cn]), (22, [.C, .Sn, .Sl 2]), (23, [.C, .Sn, .Sl 2, .El 79 2 24]), (25, [.S 4, .F 0 0, .F 1 1, .F 2 2, .F 3 3, .Z 4 [.string ⟨#[]⟩, .string ⟨#[]⟩, .slice none 0 0, .slice none 0 0], .Pl [(0, 1), (1, 1), (2, 1), (3, 1)], .A 4]), (26, [.C, .Sn, .Sl 1, .El 9 1 16, .S 1]), (27, [.C, .Sn, .Sl 6, .El 29 6 88, .S 1]), (29, [.S 6, .A 6, .F 5 5, .Z 6 [.int .i64 0, .string ⟨#[]⟩, .slice none 0 0, .int .i64 0, .int .i64 0, .slice none 0 0], .F 0 0, .F 1 1, .F 2 2, .F 3 3, .F 4 4, .Pl [(0, 1), (1, 1), (2, 1), (3, 1), (4, 1), (5, 1)]]), (30, [.C, .Sn, .Sl 9, .El 87 9 128, .S 1]), (31, [.C, .Sn, .Sl 6, .El 44 6 72, .S 1]), (33, [.S 2, .F 0 0, .F 1 1, .A 2, .Z 2 [.slice none 0 0, .slice none 0 0], .Pl [(0, 1), (1, 1)]]), (34, [.C, .S 1]), (42, [.El 25 4 80, .Sn, .Sl 4]), (44, [.A 6, .Z 6 [.string ⟨#[]⟩, .string ⟨#[]⟩, .int .i64 0, .int .i64 0, .string ⟨#[]⟩, .int .i64 0], .S 6, .F 1 1, .F 2 2, .F 3 3, .F 4 4, .F 5 5, .F 0 0, .Pl [(0, 1), (1, 1), (2, 1), (3, 1), (4, 1), (5, 1)]]), (45, [.Sn, .Sl 4, .El 50 4 32]), (50, [.F 3 3, .Z 4 [.int .i64 0, .int .i64 0, .int .i64 0, .int .i64 0], .Pl [(0, 1), (1, 1), (2, 1), (3, 1)], .S 4, .F 2 2, .A 4]), (57, [.C, .Sn, .Sl 1, .El 3 1 8, .S 1]), (66, [.Z 1 [.nilIface], .C]), (69, [.C]), (70, [.C, .Mn]), (72, [.A 2, .Z 2 [.map none, .map none], .Pl [(0, 1), (1, 1)], .S 2, .F 0 0, .F 1 1]), (77, [.A 2, .Z 2 [.string ⟨#[]⟩, .string ⟨#[]⟩], .S 2, .F 0 0, .F 1 1]), (79, [.A 2, .Z 2 [.string ⟨#[]⟩, .int .i64 0], .S 2, .F 0 0, .F 1 1, .Pl [(0, 1), (1, 1)]]), (87, [.A 9, .Z 9 [.string ⟨#[]⟩, .string ⟨#[]⟩, .int .i64 0, .string ⟨#[]⟩, .slice none 0 0, .int .i64 0, .int .i64 0, .slice none 0 0, .int .i64 0], .S 9, .F 0 0, .F 1 1, .F 2 2, .F 3 8, .Pl [(0, 1), (1, 1), (2, 6), (8, 1)]]), (94, [.Sn, .Sl 3, .El 146 3 40]), (103, [.El 66 1 16, .Sn, .Sl 1, .C]), (105, [.Z 2 [.string ⟨#[]⟩, .slice none 0 0], .Pl [(0, 1), (1, 1)], .Cn, .S 2, .F 0 0, .F 1 1, .M "provender/policy.holds" 178]), (106, [.Z 2 [.string ⟨#[]⟩, .slice none 0 0], .Pl [(0, 1), (1, 1)], .Cn, .S 2, .F 0 0, .F 1 1, .M "provender/policy.holds" 181]), (108, [.Z 1 [.string ⟨#[]⟩], .Pl [(0, 1)], .Cn, .S 1, .F 0 0, .M "provender/policy.holds" 185]), (110, [.Z 3 [.string ⟨#[]⟩, .int .i64 0, .int .i64 0], .Pl [(0, 1), (1, 1), (2, 1)], .Cn, .S 3, .F 0 0, .F 1 1, .F 2 2, .M "provender/policy.holds" 186]), (112, [.Z 1 [.nilIface], .Pl [(0, 1)], .Cn, .S 1, .F 0 0, .M "provender/policy.holds" 188]), (114, [.Z 1 [.slice none 0 0], .Pl [(0, 1)], .Cn, .S 1, .F 0 0, .M "provender/policy.holds" 189]), (115, [.Z 1 [.slice none 0 0], .Pl [(0, 1)], .Cn, .S 1, .F 0 0, .M "provender/policy.holds" 190]), (117, [.Z 0 [], .Pl [], .Cn, .S 0, .M "provender/policy.holds" 191]), (119, [.Z 4 [.bool false, .bool false, .string ⟨#[]⟩, .int .i64 0], .S 4, .F 0 0, .F 2 2, .A 4, .F 1 1, .F 3 3]), (126, [.Z 4 [.bool false, .bool false, .bool false, .int .i64 0], .S 4, .F 0 0, .F 1 1, .F 2 2, .Pl [(0, 1), (1, 1), (2, 1), (3, 1)], .F 3 3]), (127, [.AA 9 4 126, .A 36, .Z 36 [.bool false, .bool false, .bool false, .int .i64 0, .bool false, .bool false, .bool false, .int .i64 0, .bool false, .bool false, .bool false, .int .i64 0, .bool false, .bool false, .bool false, .int .i64 0, .bool false, .bool false, .bool false, .int .i64 0, .bool false, .bool false, .bool false, .int .i64 0, .bool false, .bool false, .bool false, .int .i64 0, .bool false, .bool false, .bool false, .int .i64 0, .bool false, .bool false, .bool false, .int .i64 0], .Arr 9 4, .S 36]), (135, [.S 1, .C]), (137, [.F 0 0, .F 2 2, .Z 3 [.int .i64 0, .string ⟨#[]⟩, .int .i64 0], .Pl [(0, 1), (1, 1), (2, 1)], .S 3, .F 1 1, .A 3]), (139, [.Z 7 [.string ⟨#[]⟩, .int .i64 0, .int .i64 0, .string ⟨#[]⟩, .int .i64 0, .int .i64 0, .int .i64 0], .Pl [(0, 1), (1, 1), (2, 3), (5, 1), (6, 1)], .S 7, .F 2 2, .F 4 6, .F 3 5, .F 1 1, .F 0 0]), (146, [.A 3, .Z 3 [.int .i64 0, .int .i64 0, .slice none 0 0], .S 3, .F 0 0, .F 1 1, .F 2 2, .Pl [(0, 1), (1, 1), (2, 1)]]), (152, [.I .u64, .U]), (173, [.I .u32, .U]), (175, [.U, .I .u64, .C]), (176, [.U, .El 5 1 1, .Sn, .Sl 1]), (182, [.C]), (194, [.AC 6 9, .A 6, .Z 6 [.string ⟨#[]⟩, .string ⟨#[]⟩, .string ⟨#[]⟩, .string ⟨#[]⟩, .string ⟨#[]⟩, .string ⟨#[]⟩], .Arr 6 1, .S 6]), (196, [.Cn]), (199, [.Cn]), (206, [.Z 3 [.string ⟨#[]⟩, .string ⟨#[]⟩, .nilIface], .Pl [(0, 1), (1, 1), (2, 1)], .S 3]), (211, [.Cn]), (213, [.Z 1 [.string ⟨#[]⟩], .Pl [(0, 1)], .S 1]), (215, [.Z 24 [.int .u8 0, .int .u8 0, .int .u8 0, .int .u8 0, .int .u8 0, .int .u8 0, .int .u8 0, .int .u8 0, .int .u8 0, .int .u8 0, .int .u8 0, .int .u8 0, .int .u8 0, .int .u8 0, .int .u8 0, .int .u8 0, .int .u8 0, .int .u8 0, .int .u8 0, .int .u8 0, .int .u8 0, .int .u8 0, .int .u8 0, .int .u8 0], .Arr 24 1]), (220, [.Arr 20 1]), (221, [.Z 65 [.int .u8 0, .int .u8 0, .int .u8 0, .int .u8 0, .int .u8 0, .int .u8 0, .int .u8 0, .int .u8 0, .int .u8 0, .int .u8 0, .int .u8 0, .int .u8 0, .int .u8 0, .int .u8 0, .int .u8 0, .int .u8 0, .int .u8 0, .int .u8 0, .int .u8 0, .int .u8 0, .int .u8 0, .int .u8 0, .int .u8 0, .int .u8 0, .int .u8 0, .int .u8 0, .int .u8 0, .int .u8 0, .int .u8 0, .int .u8 0, .int .u8 0, .int .u8 0, .int .u8 0, .int .u8 0, .int .u8 0, .int .u8 0, .int .u8 0, .int .u8 0, .int .u8 0, .int .u8 0, .int .u8 0, .int .u8 0, .int .u8 0, .int .u8 0, .int .u8 0, .int .u8 0, .int .u8 0, .int .u8 0, .int .u8 0, .int .u8 0, .int .u8 0, .int .u8 0, .int .u8 0, .int .u8 0, .int .u8 0, .int .u8 0, .int .u8 0, .int .u8 0, .int .u8 0, .int .u8 0, .int .u8 0, .int .u8 0, .int .u8 0, .int .u8 0, .int .u8 0], .Arr 65 1]), (222, [.Arr 32 1]), (223, [.Arr 64 1])]
theorem evtt_ok : TTok Tryz.prog evtt := tt_all ⟨⟨(by kernel_rfl : tyI Tryz.prog 2 .i64 = true), (by kernel_rfl : tyU Tryz.prog 2 = true), trivial⟩, ⟨(by kernel_rfl : tyC Tryz.prog 3 = true), (by kernel_rfl : tyS Tryz.prog 3 1 = true), ⟨(by kernel_rfl : zeroCells Tryz.prog 3 = some [.int .i64 0]), rfl⟩, (by kernel_rfl : tyI Tryz.prog 3 .i64 = true), (by kernel_rfl : tyU Tryz.prog 3 = true), trivial⟩, ⟨(by kernel_rfl : tyS Tryz.prog 4 1 = true), (by kernel_rfl : tyC Tryz.prog 4 = true), trivial⟩, ⟨⟨(by kernel_rfl : zeroCells Tryz.prog 5 = some [.int .u8 0]), rfl⟩, (by kernel_rfl : tyI Tryz.prog 5 .u8 = true), (by kernel_rfl : tyU Tryz.prog 5 = true), (by kernel_rfl : tyC Tryz.prog 5 = true), (by kernel_rfl : tyS Tryz.prog 5 1 = true), trivial⟩, ⟨(by kernel_rfl : tyC Tryz.prog 9 = true), (by kernel_rfl : tyS Tryz.prog 9 1 = true), (by kernel_rfl : tyStr Tryz.prog 9 = true), ⟨(by kernel_rfl : zeroCells Tryz.prog 9 = some [.string ⟨#[]⟩]), rfl⟩, (by kernel_rfl : tyU Tryz.prog 9 = true), (by kernel_rfl : Program.concrete Tryz.prog 9 = true), trivial⟩, ⟨(by kernel_rfl : tyC Tryz.prog 22 = true), (by kernel_rfl : tySlice Tryz.prog 22 = true), (by kernel_rfl : tySl Tryz.prog 22 2 = true), trivial⟩, ⟨(by kernel_rfl : tyC Tryz.prog 23 = true), (by kernel_rfl : tySlice Tryz.prog 23 = true), (by kernel_rfl : tySl Tryz.prog 23 2 = true), (by kernel_rfl : tyEl Tryz.prog 23 79 2 24 = true), trivial⟩, ⟨(by kernel_rfl : tyS Tryz.prog 25 4 = true), (by kernel_rfl : tyF Tryz.prog 25 0 0 = true), (by kernel_rfl : tyF Tryz.prog 25 1 1 = true), (by kernel_rfl : tyF Tryz.prog 25 2 2 = true), (by kernel_rfl : tyF Tryz.prog 25 3 3 = true), ⟨(by kernel_rfl : zeroCells Tryz.prog 25 = some [.string ⟨#[]⟩, .string ⟨#[]⟩, .slice none 0 0, .slice none 0 0]), rfl⟩, (by kernel_rfl : tyPlaces Tryz.prog 25 = some [(0, 1), (1, 1), (2, 1), (3, 1)]), (by kernel_rfl : tyA Tryz.prog 25 4 = true), trivial⟩, ⟨(by kernel_rfl : tyC Tryz.prog 26 = true), (by kernel_rfl : tySlice Tryz.prog 26 = true), (by kernel_rfl : tySl Tryz.prog 26 1 = true), (by kernel_rfl : tyEl Tryz.prog 26 9 1 16 = true), (by kernel_rfl : tyS Tryz.prog 26 1 = true), trivial⟩, ⟨(by kernel_rfl : tyC Tryz.prog 27 = true), (by kernel_rfl : tySlice Tryz.prog 27 = true), (by kernel_rfl : tySl Tryz.prog 27 6 = true), (by kernel_rfl : tyEl Tryz.prog 27 29 6 88 = true), (by kernel_rfl : tyS Tryz.prog 27 1 = true), trivial⟩, ⟨(by kernel_rfl : tyS Tryz.prog 29 6 = true), (by kernel_rfl : tyA Tryz.prog 29 6 = true), (by kernel_rfl : tyF Tryz.prog 29 5 5 = true), ⟨(by kernel_rfl : zeroCells Tryz.prog 29 = some [.int .i64 0, .string ⟨#[]⟩, .slice none 0 0, .int .i64 0, .int .i64 0, .slice none 0 0]), rfl⟩, (by kernel_rfl : tyF Tryz.prog 29 0 0 = true), (by kernel_rfl : tyF Tryz.prog 29 1 1 = true), (by kernel_rfl : tyF Tryz.prog 29 2 2 = true), (by kernel_rfl : tyF Tryz.prog 29 3 3 = true), (by kernel_rfl : tyF Tryz.prog 29 4 4 = true), (by kernel_rfl : tyPlaces Tryz.prog 29 = some [(0, 1), (1, 1), (2, 1), (3, 1), (4, 1), (5, 1)]), trivial⟩, ⟨(by kernel_rfl : tyC Tryz.prog 30 = true), (by kernel_rfl : tySlice Tryz.prog 30 = true), (by kernel_rfl : tySl Tryz.prog 30 9 = true), (by kernel_rfl : tyEl Tryz.prog 30 87 9 128 = true), (by kernel_rfl : tyS Tryz.prog 30 1 = true), trivial⟩, ⟨(by kernel_rfl : tyC Tryz.prog 31 = true), (by kernel_rfl : tySlice Tryz.prog 31 = true), (by kernel_rfl : tySl Tryz.prog 31 6 = true), (by kernel_rfl : tyEl Tryz.prog 31 44 6 72 = true), (by kernel_rfl : tyS Tryz.prog 31 1 = true), trivial⟩, ⟨(by kernel_rfl : tyS Tryz.prog 33 2 = true), (by kernel_rfl : tyF Tryz.prog 33 0 0 = true), (by kernel_rfl : tyF Tryz.prog 33 1 1 = true), (by kernel_rfl : tyA Tryz.prog 33 2 = true), ⟨(by kernel_rfl : zeroCells Tryz.prog 33 = some [.slice none 0 0, .slice none 0 0]), rfl⟩, (by kernel_rfl : tyPlaces Tryz.prog 33 = some [(0, 1), (1, 1)]), trivial⟩, ⟨(by kernel_rfl : tyC Tryz.prog 34 = true), (by kernel_rfl : tyS Tryz.prog 34 1 = true), trivial⟩, ⟨(by kernel_rfl : tyEl Tryz.prog 42 25 4 80 = true), (by kernel_rfl : tySlice Tryz.prog 42 = true), (by kernel_rfl : tySl Tryz.prog 42 4 = true), trivial⟩, ⟨(by kernel_rfl : tyA Tryz.prog 44 6 = true), ⟨(by kernel_rfl : zeroCells Tryz.prog 44 = some [.string ⟨#[]⟩, .string ⟨#[]⟩, .int .i64 0, .int .i64 0, .string ⟨#[]⟩, .int .i64 0]), rfl⟩, (by kernel_rfl : tyS Tryz.prog 44 6 = true), (by kernel_rfl : tyF Tryz.prog 44 1 1 = true), (by kernel_rfl : tyF Tryz.prog 44 2 2 = true), (by kernel_rfl : tyF Tryz.prog 44 3 3 = true), (by kernel_rfl : tyF Tryz.prog 44 4 4 = true), (by kernel_rfl : tyF Tryz.prog 44 5 5 = true), (by kernel_rfl : tyF Tryz.prog 44 0 0 = true), (by kernel_rfl : tyPlaces Tryz.prog 44 = some [(0, 1), (1, 1), (2, 1), (3, 1), (4, 1), (5, 1)]), trivial⟩, ⟨(by kernel_rfl : tySlice Tryz.prog 45 = true), (by kernel_rfl : tySl Tryz.prog 45 4 = true), (by kernel_rfl : tyEl Tryz.prog 45 50 4 32 = true), trivial⟩, ⟨(by kernel_rfl : tyF Tryz.prog 50 3 3 = true), ⟨(by kernel_rfl : zeroCells Tryz.prog 50 = some [.int .i64 0, .int .i64 0, .int .i64 0, .int .i64 0]), rfl⟩, (by kernel_rfl : tyPlaces Tryz.prog 50 = some [(0, 1), (1, 1), (2, 1), (3, 1)]), (by kernel_rfl : tyS Tryz.prog 50 4 = true), (by kernel_rfl : tyF Tryz.prog 50 2 2 = true), (by kernel_rfl : tyA Tryz.prog 50 4 = true), trivial⟩, ⟨(by kernel_rfl : tyC Tryz.prog 57 = true), (by kernel_rfl : tySlice Tryz.prog 57 = true), (by kernel_rfl : tySl Tryz.prog 57 1 = true), (by kernel_rfl : tyEl Tryz.prog 57 3 1 8 = true), (by kernel_rfl : tyS Tryz.prog 57 1 = true), trivial⟩, ⟨⟨(by kernel_rfl : zeroCells Tryz.prog 66 = some [.nilIface]), rfl⟩, (by kernel_rfl : tyC Tryz.prog 66 = true), trivial⟩, ⟨(by kernel_rfl : tyC Tryz.prog 69 = true), trivial⟩, ⟨(by kernel_rfl : tyC Tryz.prog 70 = true), (by kernel_rfl : tyMp Tryz.prog 70 = true), trivial⟩, ⟨(by kernel_rfl : tyA Tryz.prog 72 2 = true), ⟨(by kernel_rfl : zeroCells Tryz.prog 72 = some [.map none, .map none]), rfl⟩, (by kernel_rfl : tyPlaces Tryz.prog 72 = some [(0, 1), (1, 1)]), (by kernel_rfl : tyS Tryz.prog 72 2 = true), (by kernel_rfl : tyF Tryz.prog 72 0 0 = true), (by kernel_rfl : tyF Tryz.prog 72 1 1 = true), trivial⟩, ⟨(by kernel_rfl : tyA Tryz.prog 77 2 = true), ⟨(by kernel_rfl : zeroCells Tryz.prog 77 = some [.string ⟨#[]⟩, .string ⟨#[]⟩]), rfl⟩, (by kernel_rfl : tyS Tryz.prog 77 2 = true), (by kernel_rfl : tyF Tryz.prog 77 0 0 = true), (by kernel_rfl : tyF Tryz.prog 77 1 1 = true), trivial⟩, ⟨(by kernel_rfl : tyA Tryz.prog 79 2 = true), ⟨(by kernel_rfl : zeroCells Tryz.prog 79 = some [.string ⟨#[]⟩, .int .i64 0]), rfl⟩, (by kernel_rfl : tyS Tryz.prog 79 2 = true), (by kernel_rfl : tyF Tryz.prog 79 0 0 = true), (by kernel_rfl : tyF Tryz.prog 79 1 1 = true), (by kernel_rfl : tyPlaces Tryz.prog 79 = some [(0, 1), (1, 1)]), trivial⟩, ⟨(by kernel_rfl : tyA Tryz.prog 87 9 = true), ⟨(by kernel_rfl : zeroCells Tryz.prog 87 = some [.string ⟨#[]⟩, .string ⟨#[]⟩, .int .i64 0, .string ⟨#[]⟩, .slice none 0 0, .int .i64 0, .int .i64 0, .slice none 0 0, .int .i64 0]), rfl⟩, (by kernel_rfl : tyS Tryz.prog 87 9 = true), (by kernel_rfl : tyF Tryz.prog 87 0 0 = true), (by kernel_rfl : tyF Tryz.prog 87 1 1 = true), (by kernel_rfl : tyF Tryz.prog 87 2 2 = true), (by kernel_rfl : tyF Tryz.prog 87 3 8 = true), (by kernel_rfl : tyPlaces Tryz.prog 87 = some [(0, 1), (1, 1), (2, 6), (8, 1)]), trivial⟩, ⟨(by kernel_rfl : tySlice Tryz.prog 94 = true), (by kernel_rfl : tySl Tryz.prog 94 3 = true), (by kernel_rfl : tyEl Tryz.prog 94 146 3 40 = true), trivial⟩, ⟨(by kernel_rfl : tyEl Tryz.prog 103 66 1 16 = true), (by kernel_rfl : tySlice Tryz.prog 103 = true), (by kernel_rfl : tySl Tryz.prog 103 1 = true), (by kernel_rfl : tyC Tryz.prog 103 = true), trivial⟩, ⟨⟨(by kernel_rfl : zeroCells Tryz.prog 105 = some [.string ⟨#[]⟩, .slice none 0 0]), rfl⟩, (by kernel_rfl : tyPlaces Tryz.prog 105 = some [(0, 1), (1, 1)]), (by kernel_rfl : Program.concrete Tryz.prog 105 = true), (by kernel_rfl : tyS Tryz.prog 105 2 = true), (by kernel_rfl : tyF Tryz.prog 105 0 0 = true), (by kernel_rfl : tyF Tryz.prog 105 1 1 = true), ⟨fun v args w => by kernel_rfl, fun v w => by kernel_rfl⟩, trivial⟩, ⟨⟨(by kernel_rfl : zeroCells Tryz.prog 106 = some [.string ⟨#[]⟩, .slice none 0 0]), rfl⟩, (by kernel_rfl : tyPlaces Tryz.prog 106 = some [(0, 1), (1, 1)]), (by kernel_rfl : Program.concrete Tryz.prog 106 = true), (by kernel_rfl : tyS Tryz.prog 106 2 = true), (by kernel_rfl : tyF Tryz.prog 106 0 0 = true), (by kernel_rfl : tyF Tryz.prog 106 1 1 = true), ⟨fun v args w => by kernel_rfl, fun v w => by kernel_rfl⟩, trivial⟩, ⟨⟨(by kernel_rfl : zeroCells Tryz.prog 108 = some [.string ⟨#[]⟩]), rfl⟩, (by kernel_rfl : tyPlaces Tryz.prog 108 = some [(0, 1)]), (by kernel_rfl : Program.concrete Tryz.prog 108 = true), (by kernel_rfl : tyS Tryz.prog 108 1 = true), (by kernel_rfl : tyF Tryz.prog 108 0 0 = true), ⟨fun v args w => by kernel_rfl, fun v w => by kernel_rfl⟩, trivial⟩, ⟨⟨(by kernel_rfl : zeroCells Tryz.prog 110 = some [.string ⟨#[]⟩, .int .i64 0, .int .i64 0]), rfl⟩, (by kernel_rfl : tyPlaces Tryz.prog 110 = some [(0, 1), (1, 1), (2, 1)]), (by kernel_rfl : Program.concrete Tryz.prog 110 = true), (by kernel_rfl : tyS Tryz.prog 110 3 = true), (by kernel_rfl : tyF Tryz.prog 110 0 0 = true), (by kernel_rfl : tyF Tryz.prog 110 1 1 = true), (by kernel_rfl : tyF Tryz.prog 110 2 2 = true), ⟨fun v args w => by kernel_rfl, fun v w => by kernel_rfl⟩, trivial⟩, ⟨⟨(by kernel_rfl : zeroCells Tryz.prog 112 = some [.nilIface]), rfl⟩, (by kernel_rfl : tyPlaces Tryz.prog 112 = some [(0, 1)]), (by kernel_rfl : Program.concrete Tryz.prog 112 = true), (by kernel_rfl : tyS Tryz.prog 112 1 = true), (by kernel_rfl : tyF Tryz.prog 112 0 0 = true), ⟨fun v args w => by kernel_rfl, fun v w => by kernel_rfl⟩, trivial⟩, ⟨⟨(by kernel_rfl : zeroCells Tryz.prog 114 = some [.slice none 0 0]), rfl⟩, (by kernel_rfl : tyPlaces Tryz.prog 114 = some [(0, 1)]), (by kernel_rfl : Program.concrete Tryz.prog 114 = true), (by kernel_rfl : tyS Tryz.prog 114 1 = true), (by kernel_rfl : tyF Tryz.prog 114 0 0 = true), ⟨fun v args w => by kernel_rfl, fun v w => by kernel_rfl⟩, trivial⟩, ⟨⟨(by kernel_rfl : zeroCells Tryz.prog 115 = some [.slice none 0 0]), rfl⟩, (by kernel_rfl : tyPlaces Tryz.prog 115 = some [(0, 1)]), (by kernel_rfl : Program.concrete Tryz.prog 115 = true), (by kernel_rfl : tyS Tryz.prog 115 1 = true), (by kernel_rfl : tyF Tryz.prog 115 0 0 = true), ⟨fun v args w => by kernel_rfl, fun v w => by kernel_rfl⟩, trivial⟩, ⟨⟨(by kernel_rfl : zeroCells Tryz.prog 117 = some []), rfl⟩, (by kernel_rfl : tyPlaces Tryz.prog 117 = some []), (by kernel_rfl : Program.concrete Tryz.prog 117 = true), (by kernel_rfl : tyS Tryz.prog 117 0 = true), ⟨fun v args w => by kernel_rfl, fun v w => by kernel_rfl⟩, trivial⟩, ⟨⟨(by kernel_rfl : zeroCells Tryz.prog 119 = some [.bool false, .bool false, .string ⟨#[]⟩, .int .i64 0]), rfl⟩, (by kernel_rfl : tyS Tryz.prog 119 4 = true), (by kernel_rfl : tyF Tryz.prog 119 0 0 = true), (by kernel_rfl : tyF Tryz.prog 119 2 2 = true), (by kernel_rfl : tyA Tryz.prog 119 4 = true), (by kernel_rfl : tyF Tryz.prog 119 1 1 = true), (by kernel_rfl : tyF Tryz.prog 119 3 3 = true), trivial⟩, ⟨⟨(by kernel_rfl : zeroCells Tryz.prog 126 = some [.bool false, .bool false, .bool false, .int .i64 0]), rfl⟩, (by kernel_rfl : tyS Tryz.prog 126 4 = true), (by kernel_rfl : tyF Tryz.prog 126 0 0 = true), (by kernel_rfl : tyF Tryz.prog 126 1 1 = true), (by kernel_rfl : tyF Tryz.prog 126 2 2 = true), (by kernel_rfl : tyPlaces Tryz.prog 126 = some [(0, 1), (1, 1), (2, 1), (3, 1)]), (by kernel_rfl : tyF Tryz.prog 126 3 3 = true), trivial⟩, ⟨(by kernel_rfl : tyArrA Tryz.prog 127 9 4 126 = true), (by kernel_rfl : tyA Tryz.prog 127 36 = true), ⟨(by kernel_rfl : zeroCells Tryz.prog 127 = some [.bool false, .bool false, .bool false, .int .i64 0, .bool false, .bool false, .bool false, .int .i64 0, .bool false, .bool false, .bool false, .int .i64 0, .bool false, .bool false, .bool false, .int .i64 0, .bool false, .bool false, .bool false, .int .i64 0, .bool false, .bool false, .bool false, .int .i64 0, .bool false, .bool false, .bool false, .int .i64 0, .bool false, .bool false, .bool false, .int .i64 0, .bool false, .bool false, .bool false, .int .i64 0]), rfl⟩, (by kernel_rfl : tyArr Tryz.prog 127 9 4 = true), (by kernel_rfl : tyS Tryz.prog 127 36 = true), trivial⟩, ⟨(by kernel_rfl : tyS Tryz.prog 135 1 = true), (by kernel_rfl : tyC Tryz.prog 135 = true), trivial⟩, ⟨(by kernel_rfl : tyF Tryz.prog 137 0 0 = true), (by kernel_rfl : tyF Tryz.prog 137 2 2 = true), ⟨(by kernel_rfl : zeroCells Tryz.prog 137 = some [.int .i64 0, .string ⟨#[]⟩, .int .i64 0]), rfl⟩, (by kernel_rfl : tyPlaces Tryz.prog 137 = some [(0, 1), (1, 1), (2, 1)]), (by kernel_rfl : tyS Tryz.prog 137 3 = true), (by kernel_rfl : tyF Tryz.prog 137 1 1 = true), (by kernel_rfl : tyA Tryz.prog 137 3 = true), trivial⟩, ⟨⟨(by kernel_rfl : zeroCells Tryz.prog 139 = some [.string ⟨#[]⟩, .int .i64 0, .int .i64 0, .string ⟨#[]⟩, .int .i64 0, .int .i64 0, .int .i64 0]), rfl⟩, (by kernel_rfl : tyPlaces Tryz.prog 139 = some [(0, 1), (1, 1), (2, 3), (5, 1), (6, 1)]), (by kernel_rfl : tyS Tryz.prog 139 7 = true), (by kernel_rfl : tyF Tryz.prog 139 2 2 = true), (by kernel_rfl : tyF Tryz.prog 139 4 6 = true), (by kernel_rfl : tyF Tryz.prog 139 3 5 = true), (by kernel_rfl : tyF Tryz.prog 139 1 1 = true), (by kernel_rfl : tyF Tryz.prog 139 0 0 = true), trivial⟩, ⟨(by kernel_rfl : tyA Tryz.prog 146 3 = true), ⟨(by kernel_rfl : zeroCells Tryz.prog 146 = some [.int .i64 0, .int .i64 0, .slice none 0 0]), rfl⟩, (by kernel_rfl : tyS Tryz.prog 146 3 = true), (by kernel_rfl : tyF Tryz.prog 146 0 0 = true), (by kernel_rfl : tyF Tryz.prog 146 1 1 = true), (by kernel_rfl : tyF Tryz.prog 146 2 2 = true), (by kernel_rfl : tyPlaces Tryz.prog 146 = some [(0, 1), (1, 1), (2, 1)]), trivial⟩, ⟨(by kernel_rfl : tyI Tryz.prog 152 .u64 = true), (by kernel_rfl : tyU Tryz.prog 152 = true), trivial⟩, ⟨(by kernel_rfl : tyI Tryz.prog 173 .u32 = true), (by kernel_rfl : tyU Tryz.prog 173 = true), trivial⟩, ⟨(by kernel_rfl : tyU Tryz.prog 175 = true), (by kernel_rfl : tyI Tryz.prog 175 .u64 = true), (by kernel_rfl : tyC Tryz.prog 175 = true), trivial⟩, ⟨(by kernel_rfl : tyU Tryz.prog 176 = true), (by kernel_rfl : tyEl Tryz.prog 176 5 1 1 = true), (by kernel_rfl : tySlice Tryz.prog 176 = true), (by kernel_rfl : tySl Tryz.prog 176 1 = true), trivial⟩, ⟨(by kernel_rfl : tyC Tryz.prog 182 = true), trivial⟩, ⟨(by kernel_rfl : tyArrC Tryz.prog 194 6 9 = true), (by kernel_rfl : tyA Tryz.prog 194 6 = true), ⟨(by kernel_rfl : zeroCells Tryz.prog 194 = some [.string ⟨#[]⟩, .string ⟨#[]⟩, .string ⟨#[]⟩, .string ⟨#[]⟩, .string ⟨#[]⟩, .string ⟨#[]⟩]), rfl⟩, (by kernel_rfl : tyArr Tryz.prog 194 6 1 = true), (by kernel_rfl : tyS Tryz.prog 194 6 = true), trivial⟩, ⟨(by kernel_rfl : Program.concrete Tryz.prog 196 = true), trivial⟩, ⟨(by kernel_rfl : Program.concrete Tryz.prog 199 = true), trivial⟩, ⟨⟨(by kernel_rfl : zeroCells Tryz.prog 206 = some [.string ⟨#[]⟩, .string ⟨#[]⟩, .nilIface]), rfl⟩, (by kernel_rfl : tyPlaces Tryz.prog 206 = some [(0, 1), (1, 1), (2, 1)]), (by kernel_rfl : tyS Tryz.prog 206 3 = true), trivial⟩, ⟨(by kernel_rfl : Program.concrete Tryz.prog 211 = true), trivial⟩, ⟨⟨(by kernel_rfl : zeroCells Tryz.prog 213 = some [.string ⟨#[]⟩]), rfl⟩, (by kernel_rfl : tyPlaces Tryz.prog 213 = some [(0, 1)]), (by kernel_rfl : tyS Tryz.prog 213 1 = true), trivial⟩, ⟨⟨(by kernel_rfl : zeroCells Tryz.prog 215 = some [.int .u8 0, .int .u8 0, .int .u8 0, .int .u8 0, .int .u8 0, .int .u8 0, .int .u8 0, .int .u8 0, .int .u8 0, .int .u8 0, .int .u8 0, .int .u8 0, .int .u8 0, .int .u8 0, .int .u8 0, .int .u8 0, .int .u8 0, .int .u8 0, .int .u8 0, .int .u8 0, .int .u8 0, .int .u8 0, .int .u8 0, .int .u8 0]), rfl⟩, (by kernel_rfl : tyArr Tryz.prog 215 24 1 = true), trivial⟩, ⟨(by kernel_rfl : tyArr Tryz.prog 220 20 1 = true), trivial⟩, ⟨⟨(by kernel_rfl : zeroCells Tryz.prog 221 = some [.int .u8 0, .int .u8 0, .int .u8 0, .int .u8 0, .int .u8 0, .int .u8 0, .int .u8 0, .int .u8 0, .int .u8 0, .int .u8 0, .int .u8 0, .int .u8 0, .int .u8 0, .int .u8 0, .int .u8 0, .int .u8 0, .int .u8 0, .int .u8 0, .int .u8 0, .int .u8 0, .int .u8 0, .int .u8 0, .int .u8 0, .int .u8 0, .int .u8 0, .int .u8 0, .int .u8 0, .int .u8 0, .int .u8 0, .int .u8 0, .int .u8 0, .int .u8 0, .int .u8 0, .int .u8 0, .int .u8 0, .int .u8 0, .int .u8 0, .int .u8 0, .int .u8 0, .int .u8 0, .int .u8 0, .int .u8 0, .int .u8 0, .int .u8 0, .int .u8 0, .int .u8 0, .int .u8 0, .int .u8 0, .int .u8 0, .int .u8 0, .int .u8 0, .int .u8 0, .int .u8 0, .int .u8 0, .int .u8 0, .int .u8 0, .int .u8 0, .int .u8 0, .int .u8 0, .int .u8 0, .int .u8 0, .int .u8 0, .int .u8 0, .int .u8 0, .int .u8 0]), rfl⟩, (by kernel_rfl : tyArr Tryz.prog 221 65 1 = true), trivial⟩, ⟨(by kernel_rfl : tyArr Tryz.prog 222 32 1 = true), trivial⟩, ⟨(by kernel_rfl : tyArr Tryz.prog 223 64 1 = true), trivial⟩, trivial⟩
def evmt : List MT := [⟨69, 9, 119, true, .i64, .agg [.con (.bool false), .con (.bool false), .con (.string ⟨#[]⟩), .con (.int .i64 0)]⟩, ⟨70, 9, 4, true, .i64, .con (.bool false)⟩]
theorem evmt_ok : MTok Tryz.prog evmt := by
 intro p hp
 simp only [evmt, List.mem_cons, List.not_mem_nil, or_false] at hp
 rcases hp with rfl | rfl
 ·exact ⟨by kernel_rfl, keyT_str (by kernel_rfl), _, by kernel_rfl, fun _ => (irel_agg [Value.bool false, Value.bool false, Value.string ⟨#[]⟩, Value.int .i64 0])⟩
 ·exact ⟨by kernel_rfl, keyT_str (by kernel_rfl), _, by kernel_rfl, fun _ => (.con _)⟩
def xAtoi : List V → Option V
 | [.con (.string s)] => (match Lib.atoi s.data.toList with
  | some n => (match Nat.ble s.size 18 with | true => some (.tup [.con (.int .i64 n), .con .nilIface]) | false => none)
  | none => none)
 | _ => none
theorem xAtoi_ok {gl : Gl} {avs : List V} {v : V} (h : xAtoi avs = some v) : PureG gl Tryz.prog 122 avs v := by
 unfold xAtoi at h
 split at h
 ·rename_i s
  split at h
  ·rename_i n hn
   split at h
   ·rename_i hl
    simp only [Option.some.injEq] at h; subst h
    refine pure_below (l := [.string s]) (v := .tuple #[.int .i64 n, .nilIface]) (fun w => (Go.Proofs.Tryz.strconv_Atoi s n (Nat.le_of_ble_eq_true hl) hn w).mono ?_) (fun m => .tup rfl fun i c v a b => ?_)
    ·rintro e w' ⟨rfl, t, rfl⟩
     exact ⟨rfl, Go.Joins.below_bytesWorld _ w 5 t (Nat.le_refl _), (show w.drawn ≤ w.drawn + 1 from Nat.le_succ _)⟩
    ·match i with
     | 0 => simp at a b; subst a b; exact .con _
     | 1 => simp at a b; subst a b; exact .con _
     | i + 2 => simp at a
   ·simp at h
  ·simp at h
 ·simp at h
def evxt : XT := [(122, xAtoi)]
theorem evxt_ok {gl : Gl} : XTok gl Tryz.prog evxt := by
 intro p hp
 simp only [evxt, List.mem_cons, List.not_mem_nil, or_false] at hp
 subst hp
 exact ⟨by kernel_rfl, fun avs v h => xAtoi_ok h⟩
theorem kmixed : Tryz.prog.follows .mixedOrders = true := by kernel_rfl
theorem told_run : evF evft evxt evtt evmt 6000 16 [] = some (.con (.bool true)) := by kernel_rfl
theorem told_pure {gl : Gl} : PureG gl Tryz.prog 16 [] (bV true) := evF_ok evft_ok evxt_ok evtt_ok evmt_ok kmixed told_run
end Go.Proofs.YtkeeppclihjlhaaGreatDoor
