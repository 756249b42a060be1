import Derived.Test.YtapigfcnpjchbaaGreatDoorProg
import Derived.Test.YtapigfcnpjchbaaGreatDoorEvD
set_option linter.unusedVariables false
/-! The seat's types. -/
namespace Go.Proofs.EV.PL
open Go Go.Proofs Go.Proofs.EV
def tyl : List (TypeId × TI) := [
  (1, ⟨.func, 1, [.nl .nilf], false⟩),
  (2, ⟨.int .i64, 1, [.int .i64], false⟩),
  (3, ⟨.int .i64, 1, [.int .i64], false⟩),
  (4, ⟨.bool, 1, [.bool], false⟩),
  (5, ⟨.int .u8, 1, [.int .u8], false⟩),
  (6, ⟨.int .u8, 1, [.int .u8], false⟩),
  (7, ⟨.struct [(0, 2), (1, 3), (2, 4), (3, 6)], 4, [.int .i64, .int .i64, .bool, .int .u8], true⟩),
  (8, ⟨.struct [(0, 2), (1, 3), (2, 4), (3, 6)], 4, [.int .i64, .int .i64, .bool, .int .u8], true⟩),
  (9, ⟨.string, 1, [.str], false⟩),
  (10, ⟨.string, 1, [.str], false⟩),
  (11, ⟨.string, 1, [.str], false⟩),
  (12, ⟨.int .u64, 1, [.int .u64], false⟩),
  (13, ⟨.struct [(0, 9), (1, 12)], 2, [.str, .int .u64], false⟩),
  (14, ⟨.struct [(0, 9), (1, 12)], 2, [.str, .int .u64], false⟩),
  (15, ⟨.pointer 271, 1, [.nl .nilp], false⟩),
  (16, ⟨.pointer 274, 1, [.nl .nilp], false⟩),
  (17, ⟨.pointer 282, 1, [.nl .nilp], false⟩),
  (18, ⟨.struct [(0, 17)], 1, [.nl .nilp], false⟩),
  (19, ⟨.struct [(0, 17)], 1, [.nl .nilp], false⟩),
  (20, ⟨.iface, 1, [.nl .nili], false⟩),
  (21, ⟨.int .i32, 1, [.int .i32], false⟩),
  (23, ⟨.func, 1, [.nl .nilf], false⟩),
  (24, ⟨.func, 1, [.nl .nilf], false⟩),
  (26, ⟨.func, 1, [.nl .nilf], false⟩),
  (27, ⟨.struct [(0, 3), (1, 3), (2, 3), (3, 3), (4, 3), (5, 3)], 6, [.int .i64, .int .i64, .int .i64, .int .i64, .int .i64, .int .i64], true⟩),
  (28, ⟨.struct [(0, 3), (1, 3), (2, 3), (3, 3), (4, 3), (5, 3)], 6, [.int .i64, .int .i64, .int .i64, .int .i64, .int .i64, .int .i64], true⟩),
  (29, ⟨.func, 1, [.nl .nilf], false⟩),
  (30, ⟨.struct [(0, 3), (1, 3), (2, 3), (3, 3), (4, 3), (5, 3)], 6, [.int .i64, .int .i64, .int .i64, .int .i64, .int .i64, .int .i64], true⟩),
  (31, ⟨.func, 1, [.nl .nilf], false⟩),
  (32, ⟨.func, 1, [.nl .nilf], false⟩),
  (33, ⟨.slice 9, 1, [.sl 1], false⟩),
  (35, ⟨.func, 1, [.nl .nilf], false⟩),
  (36, ⟨.func, 1, [.nl .nilf], false⟩),
  (37, ⟨.func, 1, [.nl .nilf], false⟩),
  (38, ⟨.func, 1, [.nl .nilf], false⟩),
  (39, ⟨.slice 5, 1, [.sl 1], false⟩),
  (40, ⟨.struct [(0, 3), (1, 3), (2, 39)], 3, [.int .i64, .int .i64, .sl 1], false⟩),
  (41, ⟨.struct [(0, 3), (1, 3), (2, 39)], 3, [.int .i64, .int .i64, .sl 1], false⟩),
  (42, ⟨.slice 3, 1, [.sl 1], false⟩),
  (44, ⟨.func, 1, [.nl .nilf], false⟩),
  (45, ⟨.func, 1, [.nl .nilf], false⟩),
  (46, ⟨.func, 1, [.nl .nilf], false⟩),
  (47, ⟨.func, 1, [.nl .nilf], false⟩),
  (48, ⟨.func, 1, [.nl .nilf], false⟩),
  (49, ⟨.func, 1, [.nl .nilf], false⟩),
  (50, ⟨.func, 1, [.nl .nilf], false⟩),
  (51, ⟨.func, 1, [.nl .nilf], false⟩),
  (52, ⟨.func, 1, [.nl .nilf], false⟩),
  (54, ⟨.func, 1, [.nl .nilf], false⟩),
  (55, ⟨.func, 1, [.nl .nilf], false⟩),
  (56, ⟨.func, 1, [.nl .nilf], false⟩),
  (57, ⟨.func, 1, [.nl .nilf], false⟩),
  (58, ⟨.func, 1, [.nl .nilf], false⟩),
  (59, ⟨.func, 1, [.nl .nilf], false⟩),
  (60, ⟨.func, 1, [.nl .nilf], false⟩),
  (61, ⟨.func, 1, [.nl .nilf], false⟩),
  (62, ⟨.func, 1, [.nl .nilf], false⟩),
  (63, ⟨.func, 1, [.nl .nilf], false⟩),
  (64, ⟨.func, 1, [.nl .nilf], false⟩),
  (66, ⟨.func, 1, [.nl .nilf], false⟩),
  (67, ⟨.func, 1, [.nl .nilf], false⟩),
  (68, ⟨.struct [(0, 3), (1, 3), (2, 39)], 3, [.int .i64, .int .i64, .sl 1], false⟩),
  (69, ⟨.func, 1, [.nl .nilf], false⟩),
  (70, ⟨.slice 93, 1, [.sl 2], false⟩),
  (71, ⟨.slice 93, 1, [.sl 2], false⟩),
  (73, ⟨.func, 1, [.nl .nilf], false⟩),
  (74, ⟨.slice 9, 1, [.sl 1], false⟩),
  (75, ⟨.func, 1, [.nl .nilf], false⟩),
  (76, ⟨.func, 1, [.nl .nilf], false⟩),
  (77, ⟨.func, 1, [.nl .nilf], false⟩),
  (79, ⟨.func, 1, [.nl .nilf], false⟩),
  (80, ⟨.func, 1, [.nl .nilf], false⟩),
  (81, ⟨.slice 83, 1, [.sl 2], false⟩),
  (82, ⟨.struct [(0, 3), (1, 3)], 2, [.int .i64, .int .i64], true⟩),
  (83, ⟨.struct [(0, 3), (1, 3)], 2, [.int .i64, .int .i64], true⟩),
  (84, ⟨.func, 1, [.nl .nilf], false⟩),
  (85, ⟨.func, 1, [.nl .nilf], false⟩),
  (86, ⟨.func, 1, [.nl .nilf], false⟩),
  (87, ⟨.func, 1, [.nl .nilf], false⟩),
  (88, ⟨.func, 1, [.nl .nilf], false⟩),
  (89, ⟨.func, 1, [.nl .nilf], false⟩),
  (91, ⟨.func, 1, [.nl .nilf], false⟩),
  (92, ⟨.slice 39, 1, [.sl 1], false⟩),
  (93, ⟨.array 2 3, 2, [.int .i64, .int .i64], true⟩),
  (94, ⟨.func, 1, [.nl .nilf], false⟩),
  (95, ⟨.pointer 139, 1, [.nl .nilp], false⟩),
  (96, ⟨.func, 1, [.nl .nilf], false⟩),
  (97, ⟨.slice 30, 1, [.sl 6], false⟩),
  (98, ⟨.func, 1, [.nl .nilf], false⟩),
  (99, ⟨.func, 1, [.nl .nilf], false⟩),
  (100, ⟨.func, 1, [.nl .nilf], false⟩),
  (101, ⟨.func, 1, [.nl .nilf], false⟩),
  (102, ⟨.func, 1, [.nl .nilf], false⟩),
  (103, ⟨.func, 1, [.nl .nilf], false⟩),
  (104, ⟨.func, 1, [.nl .nilf], false⟩),
  (105, ⟨.func, 1, [.nl .nilf], false⟩),
  (106, ⟨.func, 1, [.nl .nilf], false⟩),
  (107, ⟨.func, 1, [.nl .nilf], false⟩),
  (108, ⟨.func, 1, [.nl .nilf], false⟩),
  (109, ⟨.func, 1, [.nl .nilf], false⟩),
  (110, ⟨.map 3 4, 1, [.nl .nilm], false⟩),
  (111, ⟨.func, 1, [.nl .nilf], false⟩),
  (112, ⟨.func, 1, [.nl .nilf], false⟩),
  (113, ⟨.func, 1, [.nl .nilf], false⟩),
  (114, ⟨.func, 1, [.nl .nilf], false⟩),
  (115, ⟨.pointer 117, 1, [.nl .nilp], false⟩),
  (116, ⟨.struct [(0, 115), (1, 39)], 2, [.nl .nilp, .sl 1], false⟩),
  (117, ⟨.struct [(0, 115), (1, 39)], 2, [.nl .nilp, .sl 1], false⟩),
  (118, ⟨.func, 1, [.nl .nilf], false⟩),
  (119, ⟨.iface, 1, [.nl .nili], false⟩),
  (120, ⟨.iface, 1, [.nl .nili], false⟩),
  (122, ⟨.func, 1, [.nl .nilf], false⟩),
  (123, ⟨.func, 1, [.nl .nilf], false⟩),
  (127, ⟨.int .u32, 1, [.int .u32], false⟩),
  (130, ⟨.struct [(0, 21), (1, 127)], 2, [.int .i32, .int .u32], true⟩),
  (131, ⟨.struct [(0, 21), (1, 127)], 2, [.int .i32, .int .u32], true⟩),
  (136, ⟨.iface, 1, [.nl .nili], false⟩),
  (137, ⟨.iface, 1, [.nl .nili], false⟩),
  (138, ⟨.struct [(0, 135), (3, 137), (4, 33)], 5, [.int .u32, .int .i32, .int .u32, .nl .nili, .sl 1], false⟩),
  (139, ⟨.struct [(0, 135), (3, 137), (4, 33)], 5, [.int .u32, .int .i32, .int .u32, .nl .nili, .sl 1], false⟩),
  (140, ⟨.func, 1, [.nl .nilf], false⟩),
  (142, ⟨.func, 1, [.nl .nilf], false⟩),
  (143, ⟨.func, 1, [.nl .nilf], false⟩),
  (144, ⟨.func, 1, [.nl .nilf], false⟩),
  (145, ⟨.func, 1, [.nl .nilf], false⟩),
  (146, ⟨.func, 1, [.nl .nilf], false⟩),
  (147, ⟨.func, 1, [.nl .nilf], false⟩),
  (148, ⟨.func, 1, [.nl .nilf], false⟩),
  (149, ⟨.int .u64, 1, [.int .u64], false⟩),
  (150, ⟨.func, 1, [.nl .nilf], false⟩),
  (151, ⟨.func, 1, [.nl .nilf], false⟩),
  (152, ⟨.func, 1, [.nl .nilf], false⟩),
  (153, ⟨.func, 1, [.nl .nilf], false⟩),
  (154, ⟨.func, 1, [.nl .nilf], false⟩),
  (155, ⟨.func, 1, [.nl .nilf], false⟩),
  (156, ⟨.func, 1, [.nl .nilf], false⟩),
  (157, ⟨.func, 1, [.nl .nilf], false⟩),
  (158, ⟨.func, 1, [.nl .nilf], false⟩),
  (159, ⟨.array 256 4, 256, [.bool, .bool, .bool, .bool, .bool, .bool, .bool, .bool, .bool, .bool, .bool, .bool, .bool, .bool, .bool, .bool, .bool, .bool, .bool, .bool, .bool, .bool, .bool, .bool, .bool, .bool, .bool, .bool, .bool, .bool, .bool, .bool, .bool, .bool, .bool, .bool, .bool, .bool, .bool, .bool, .bool, .bool, .bool, .bool, .bool, .bool, .bool, .bool, .bool, .bool, .bool, .bool, .bool, .bool, .bool, .bool, .bool, .bool, .bool, .bool, .bool, .bool, .bool, .bool, .bool, .bool, .bool, .bool, .bool, .bool, .bool, .bool, .bool, .bool, .bool, .bool, .bool, .bool, .bool, .bool, .bool, .bool, .bool, .bool, .bool, .bool, .bool, .bool, .bool, .bool, .bool, .bool, .bool, .bool, .bool, .bool, .bool, .bool, .bool, .bool, .bool, .bool, .bool, .bool, .bool, .bool, .bool, .bool, .bool, .bool, .bool, .bool, .bool, .bool, .bool, .bool, .bool, .bool, .bool, .bool, .bool, .bool, .bool, .bool, .bool, .bool, .bool, .bool, .bool, .bool, .bool, .bool, .bool, .bool, .bool, .bool, .bool, .bool, .bool, .bool, .bool, .bool, .bool, .bool, .bool, .bool, .bool, .bool, .bool, .bool, .bool, .bool, .bool, .bool, .bool, .bool, .bool, .bool, .bool, .bool, .bool, .bool, .bool, .bool, .bool, .bool, .bool, .bool, .bool, .bool, .bool, .bool, .bool, .bool, .bool, .bool, .bool, .bool, .bool, .bool, .bool, .bool, .bool, .bool, .bool, .bool, .bool, .bool, .bool, .bool, .bool, .bool, .bool, .bool, .bool, .bool, .bool, .bool, .bool, .bool, .bool, .bool, .bool, .bool, .bool, .bool, .bool, .bool, .bool, .bool, .bool, .bool, .bool, .bool, .bool, .bool, .bool, .bool, .bool, .bool, .bool, .bool, .bool, .bool, .bool, .bool, .bool, .bool, .bool, .bool, .bool, .bool, .bool, .bool, .bool, .bool, .bool, .bool, .bool, .bool, .bool, .bool, .bool, .bool, .bool, .bool, .bool, .bool, .bool, .bool, .bool, .bool, .bool, .bool, .bool, .bool], false⟩),
  (160, ⟨.array 256 4, 256, [.bool, .bool, .bool, .bool, .bool, .bool, .bool, .bool, .bool, .bool, .bool, .bool, .bool, .bool, .bool, .bool, .bool, .bool, .bool, .bool, .bool, .bool, .bool, .bool, .bool, .bool, .bool, .bool, .bool, .bool, .bool, .bool, .bool, .bool, .bool, .bool, .bool, .bool, .bool, .bool, .bool, .bool, .bool, .bool, .bool, .bool, .bool, .bool, .bool, .bool, .bool, .bool, .bool, .bool, .bool, .bool, .bool, .bool, .bool, .bool, .bool, .bool, .bool, .bool, .bool, .bool, .bool, .bool, .bool, .bool, .bool, .bool, .bool, .bool, .bool, .bool, .bool, .bool, .bool, .bool, .bool, .bool, .bool, .bool, .bool, .bool, .bool, .bool, .bool, .bool, .bool, .bool, .bool, .bool, .bool, .bool, .bool, .bool, .bool, .bool, .bool, .bool, .bool, .bool, .bool, .bool, .bool, .bool, .bool, .bool, .bool, .bool, .bool, .bool, .bool, .bool, .bool, .bool, .bool, .bool, .bool, .bool, .bool, .bool, .bool, .bool, .bool, .bool, .bool, .bool, .bool, .bool, .bool, .bool, .bool, .bool, .bool, .bool, .bool, .bool, .bool, .bool, .bool, .bool, .bool, .bool, .bool, .bool, .bool, .bool, .bool, .bool, .bool, .bool, .bool, .bool, .bool, .bool, .bool, .bool, .bool, .bool, .bool, .bool, .bool, .bool, .bool, .bool, .bool, .bool, .bool, .bool, .bool, .bool, .bool, .bool, .bool, .bool, .bool, .bool, .bool, .bool, .bool, .bool, .bool, .bool, .bool, .bool, .bool, .bool, .bool, .bool, .bool, .bool, .bool, .bool, .bool, .bool, .bool, .bool, .bool, .bool, .bool, .bool, .bool, .bool, .bool, .bool, .bool, .bool, .bool, .bool, .bool, .bool, .bool, .bool, .bool, .bool, .bool, .bool, .bool, .bool, .bool, .bool, .bool, .bool, .bool, .bool, .bool, .bool, .bool, .bool, .bool, .bool, .bool, .bool, .bool, .bool, .bool, .bool, .bool, .bool, .bool, .bool, .bool, .bool, .bool, .bool, .bool, .bool, .bool, .bool, .bool, .bool, .bool, .bool], false⟩),
  (162, ⟨.func, 1, [.nl .nilf], false⟩),
  (163, ⟨.func, 1, [.nl .nilf], false⟩),
  (164, ⟨.func, 1, [.nl .nilf], false⟩),
  (165, ⟨.func, 1, [.nl .nilf], false⟩),
  (166, ⟨.pointer 160, 1, [.nl .nilp], false⟩),
  (167, ⟨.func, 1, [.nl .nilf], false⟩),
  (168, ⟨.pointer 5, 1, [.nl .nilp], false⟩),
  (169, ⟨.pointer 135, 1, [.nl .nilp], false⟩),
  (170, ⟨.func, 1, [.nl .nilf], false⟩),
  (171, ⟨.map 30 4, 1, [.nl .nilm], false⟩),
  (172, ⟨.func, 1, [.nl .nilf], false⟩),
  (173, ⟨.func, 1, [.nl .nilf], false⟩),
  (174, ⟨.func, 1, [.nl .nilf], false⟩),
  (175, ⟨.func, 1, [.nl .nilf], false⟩),
  (176, ⟨.int .i64, 1, [.int .i64], false⟩),
  (178, ⟨.func, 1, [.nl .nilf], false⟩),
  (179, ⟨.func, 1, [.nl .nilf], false⟩),
  (180, ⟨.func, 1, [.nl .nilf], false⟩),
  (181, ⟨.func, 1, [.nl .nilf], false⟩),
  (182, ⟨.func, 1, [.nl .nilf], false⟩),
  (183, ⟨.func, 1, [.nl .nilf], false⟩),
  (184, ⟨.int .u64, 1, [.int .u64], false⟩),
  (185, ⟨.func, 1, [.nl .nilf], false⟩),
  (186, ⟨.func, 1, [.nl .nilf], false⟩),
  (187, ⟨.func, 1, [.nl .nilf], false⟩),
  (189, ⟨.func, 1, [.nl .nilf], false⟩),
  (190, ⟨.func, 1, [.nl .nilf], false⟩),
  (191, ⟨.func, 1, [.nl .nilf], false⟩),
  (192, ⟨.func, 1, [.nl .nilf], false⟩),
  (194, ⟨.func, 1, [.nl .nilf], false⟩),
  (195, ⟨.func, 1, [.nl .nilf], false⟩),
  (196, ⟨.pointer 129, 1, [.nl .nilp], false⟩),
  (197, ⟨.func, 1, [.nl .nilf], false⟩),
  (198, ⟨.pointer 127, 1, [.nl .nilp], false⟩),
  (199, ⟨.func, 1, [.nl .nilf], false⟩),
  (200, ⟨.pointer 227, 1, [.nl .nilp], false⟩),
  (201, ⟨.func, 1, [.nl .nilf], false⟩),
  (202, ⟨.pointer 233, 1, [.nl .nilp], false⟩),
  (203, ⟨.func, 1, [.nl .nilf], false⟩),
  (204, ⟨.array 256 5, 256, [.int .u8, .int .u8, .int .u8, .int .u8, .int .u8, .int .u8, .int .u8, .int .u8, .int .u8, .int .u8, .int .u8, .int .u8, .int .u8, .int .u8, .int .u8, .int .u8, .int .u8, .int .u8, .int .u8, .int .u8, .int .u8, .int .u8, .int .u8, .int .u8, .int .u8, .int .u8, .int .u8, .int .u8, .int .u8, .int .u8, .int .u8, .int .u8, .int .u8, .int .u8, .int .u8, .int .u8, .int .u8, .int .u8, .int .u8, .int .u8, .int .u8, .int .u8, .int .u8, .int .u8, .int .u8, .int .u8, .int .u8, .int .u8, .int .u8, .int .u8, .int .u8, .int .u8, .int .u8, .int .u8, .int .u8, .int .u8, .int .u8, .int .u8, .int .u8, .int .u8, .int .u8, .int .u8, .int .u8, .int .u8, .int .u8, .int .u8, .int .u8, .int .u8, .int .u8, .int .u8, .int .u8, .int .u8, .int .u8, .int .u8, .int .u8, .int .u8, .int .u8, .int .u8, .int .u8, .int .u8, .int .u8, .int .u8, .int .u8, .int .u8, .int .u8, .int .u8, .int .u8, .int .u8, .int .u8, .int .u8, .int .u8, .int .u8, .int .u8, .int .u8, .int .u8, .int .u8, .int .u8, .int .u8, .int .u8, .int .u8, .int .u8, .int .u8, .int .u8, .int .u8, .int .u8, .int .u8, .int .u8, .int .u8, .int .u8, .int .u8, .int .u8, .int .u8, .int .u8, .int .u8, .int .u8, .int .u8, .int .u8, .int .u8, .int .u8, .int .u8, .int .u8, .int .u8, .int .u8, .int .u8, .int .u8, .int .u8, .int .u8, .int .u8, .int .u8, .int .u8, .int .u8, .int .u8, .int .u8, .int .u8, .int .u8, .int .u8, .int .u8, .int .u8, .int .u8, .int .u8, .int .u8, .int .u8, .int .u8, .int .u8, .int .u8, .int .u8, .int .u8, .int .u8, .int .u8, .int .u8, .int .u8, .int .u8, .int .u8, .int .u8, .int .u8, .int .u8, .int .u8, .int .u8, .int .u8, .int .u8, .int .u8, .int .u8, .int .u8, .int .u8, .int .u8, .int .u8, .int .u8, .int .u8, .int .u8, .int .u8, .int .u8, .int .u8, .int .u8, .int .u8, .int .u8, .int .u8, .int .u8, .int .u8, .int .u8, .int .u8, .int .u8, .int .u8, .int .u8, .int .u8, .int .u8, .int .u8, .int .u8, .int .u8, .int .u8, .int .u8, .int .u8, .int .u8, .int .u8, .int .u8, .int .u8, .int .u8, .int .u8, .int .u8, .int .u8, .int .u8, .int .u8, .int .u8, .int .u8, .int .u8, .int .u8, .int .u8, .int .u8, .int .u8, .int .u8, .int .u8, .int .u8, .int .u8, .int .u8, .int .u8, .int .u8, .int .u8, .int .u8, .int .u8, .int .u8, .int .u8, .int .u8, .int .u8, .int .u8, .int .u8, .int .u8, .int .u8, .int .u8, .int .u8, .int .u8, .int .u8, .int .u8, .int .u8, .int .u8, .int .u8, .int .u8, .int .u8, .int .u8, .int .u8, .int .u8, .int .u8, .int .u8, .int .u8, .int .u8, .int .u8, .int .u8, .int .u8, .int .u8, .int .u8, .int .u8, .int .u8, .int .u8, .int .u8, .int .u8, .int .u8, .int .u8, .int .u8], false⟩),
  (205, ⟨.array 256 5, 256, [.int .u8, .int .u8, .int .u8, .int .u8, .int .u8, .int .u8, .int .u8, .int .u8, .int .u8, .int .u8, .int .u8, .int .u8, .int .u8, .int .u8, .int .u8, .int .u8, .int .u8, .int .u8, .int .u8, .int .u8, .int .u8, .int .u8, .int .u8, .int .u8, .int .u8, .int .u8, .int .u8, .int .u8, .int .u8, .int .u8, .int .u8, .int .u8, .int .u8, .int .u8, .int .u8, .int .u8, .int .u8, .int .u8, .int .u8, .int .u8, .int .u8, .int .u8, .int .u8, .int .u8, .int .u8, .int .u8, .int .u8, .int .u8, .int .u8, .int .u8, .int .u8, .int .u8, .int .u8, .int .u8, .int .u8, .int .u8, .int .u8, .int .u8, .int .u8, .int .u8, .int .u8, .int .u8, .int .u8, .int .u8, .int .u8, .int .u8, .int .u8, .int .u8, .int .u8, .int .u8, .int .u8, .int .u8, .int .u8, .int .u8, .int .u8, .int .u8, .int .u8, .int .u8, .int .u8, .int .u8, .int .u8, .int .u8, .int .u8, .int .u8, .int .u8, .int .u8, .int .u8, .int .u8, .int .u8, .int .u8, .int .u8, .int .u8, .int .u8, .int .u8, .int .u8, .int .u8, .int .u8, .int .u8, .int .u8, .int .u8, .int .u8, .int .u8, .int .u8, .int .u8, .int .u8, .int .u8, .int .u8, .int .u8, .int .u8, .int .u8, .int .u8, .int .u8, .int .u8, .int .u8, .int .u8, .int .u8, .int .u8, .int .u8, .int .u8, .int .u8, .int .u8, .int .u8, .int .u8, .int .u8, .int .u8, .int .u8, .int .u8, .int .u8, .int .u8, .int .u8, .int .u8, .int .u8, .int .u8, .int .u8, .int .u8, .int .u8, .int .u8, .int .u8, .int .u8, .int .u8, .int .u8, .int .u8, .int .u8, .int .u8, .int .u8, .int .u8, .int .u8, .int .u8, .int .u8, .int .u8, .int .u8, .int .u8, .int .u8, .int .u8, .int .u8, .int .u8, .int .u8, .int .u8, .int .u8, .int .u8, .int .u8, .int .u8, .int .u8, .int .u8, .int .u8, .int .u8, .int .u8, .int .u8, .int .u8, .int .u8, .int .u8, .int .u8, .int .u8, .int .u8, .int .u8, .int .u8, .int .u8, .int .u8, .int .u8, .int .u8, .int .u8, .int .u8, .int .u8, .int .u8, .int .u8, .int .u8, .int .u8, .int .u8, .int .u8, .int .u8, .int .u8, .int .u8, .int .u8, .int .u8, .int .u8, .int .u8, .int .u8, .int .u8, .int .u8, .int .u8, .int .u8, .int .u8, .int .u8, .int .u8, .int .u8, .int .u8, .int .u8, .int .u8, .int .u8, .int .u8, .int .u8, .int .u8, .int .u8, .int .u8, .int .u8, .int .u8, .int .u8, .int .u8, .int .u8, .int .u8, .int .u8, .int .u8, .int .u8, .int .u8, .int .u8, .int .u8, .int .u8, .int .u8, .int .u8, .int .u8, .int .u8, .int .u8, .int .u8, .int .u8, .int .u8, .int .u8, .int .u8, .int .u8, .int .u8, .int .u8, .int .u8, .int .u8, .int .u8, .int .u8, .int .u8, .int .u8, .int .u8, .int .u8, .int .u8, .int .u8, .int .u8, .int .u8, .int .u8, .int .u8, .int .u8, .int .u8], false⟩),
  (206, ⟨.pointer 205, 1, [.nl .nilp], false⟩),
  (207, ⟨.array 256 39, 256, [.sl 1, .sl 1, .sl 1, .sl 1, .sl 1, .sl 1, .sl 1, .sl 1, .sl 1, .sl 1, .sl 1, .sl 1, .sl 1, .sl 1, .sl 1, .sl 1, .sl 1, .sl 1, .sl 1, .sl 1, .sl 1, .sl 1, .sl 1, .sl 1, .sl 1, .sl 1, .sl 1, .sl 1, .sl 1, .sl 1, .sl 1, .sl 1, .sl 1, .sl 1, .sl 1, .sl 1, .sl 1, .sl 1, .sl 1, .sl 1, .sl 1, .sl 1, .sl 1, .sl 1, .sl 1, .sl 1, .sl 1, .sl 1, .sl 1, .sl 1, .sl 1, .sl 1, .sl 1, .sl 1, .sl 1, .sl 1, .sl 1, .sl 1, .sl 1, .sl 1, .sl 1, .sl 1, .sl 1, .sl 1, .sl 1, .sl 1, .sl 1, .sl 1, .sl 1, .sl 1, .sl 1, .sl 1, .sl 1, .sl 1, .sl 1, .sl 1, .sl 1, .sl 1, .sl 1, .sl 1, .sl 1, .sl 1, .sl 1, .sl 1, .sl 1, .sl 1, .sl 1, .sl 1, .sl 1, .sl 1, .sl 1, .sl 1, .sl 1, .sl 1, .sl 1, .sl 1, .sl 1, .sl 1, .sl 1, .sl 1, .sl 1, .sl 1, .sl 1, .sl 1, .sl 1, .sl 1, .sl 1, .sl 1, .sl 1, .sl 1, .sl 1, .sl 1, .sl 1, .sl 1, .sl 1, .sl 1, .sl 1, .sl 1, .sl 1, .sl 1, .sl 1, .sl 1, .sl 1, .sl 1, .sl 1, .sl 1, .sl 1, .sl 1, .sl 1, .sl 1, .sl 1, .sl 1, .sl 1, .sl 1, .sl 1, .sl 1, .sl 1, .sl 1, .sl 1, .sl 1, .sl 1, .sl 1, .sl 1, .sl 1, .sl 1, .sl 1, .sl 1, .sl 1, .sl 1, .sl 1, .sl 1, .sl 1, .sl 1, .sl 1, .sl 1, .sl 1, .sl 1, .sl 1, .sl 1, .sl 1, .sl 1, .sl 1, .sl 1, .sl 1, .sl 1, .sl 1, .sl 1, .sl 1, .sl 1, .sl 1, .sl 1, .sl 1, .sl 1, .sl 1, .sl 1, .sl 1, .sl 1, .sl 1, .sl 1, .sl 1, .sl 1, .sl 1, .sl 1, .sl 1, .sl 1, .sl 1, .sl 1, .sl 1, .sl 1, .sl 1, .sl 1, .sl 1, .sl 1, .sl 1, .sl 1, .sl 1, .sl 1, .sl 1, .sl 1, .sl 1, .sl 1, .sl 1, .sl 1, .sl 1, .sl 1, .sl 1, .sl 1, .sl 1, .sl 1, .sl 1, .sl 1, .sl 1, .sl 1, .sl 1, .sl 1, .sl 1, .sl 1, .sl 1, .sl 1, .sl 1, .sl 1, .sl 1, .sl 1, .sl 1, .sl 1, .sl 1, .sl 1, .sl 1, .sl 1, .sl 1, .sl 1, .sl 1, .sl 1, .sl 1, .sl 1, .sl 1, .sl 1, .sl 1, .sl 1, .sl 1, .sl 1, .sl 1, .sl 1, .sl 1, .sl 1, .sl 1, .sl 1, .sl 1, .sl 1, .sl 1, .sl 1, .sl 1, .sl 1, .sl 1, .sl 1, .sl 1], false⟩),
  (208, ⟨.struct [(0, 207), (256, 33)], 257, [.sl 1, .sl 1, .sl 1, .sl 1, .sl 1, .sl 1, .sl 1, .sl 1, .sl 1, .sl 1, .sl 1, .sl 1, .sl 1, .sl 1, .sl 1, .sl 1, .sl 1, .sl 1, .sl 1, .sl 1, .sl 1, .sl 1, .sl 1, .sl 1, .sl 1, .sl 1, .sl 1, .sl 1, .sl 1, .sl 1, .sl 1, .sl 1, .sl 1, .sl 1, .sl 1, .sl 1, .sl 1, .sl 1, .sl 1, .sl 1, .sl 1, .sl 1, .sl 1, .sl 1, .sl 1, .sl 1, .sl 1, .sl 1, .sl 1, .sl 1, .sl 1, .sl 1, .sl 1, .sl 1, .sl 1, .sl 1, .sl 1, .sl 1, .sl 1, .sl 1, .sl 1, .sl 1, .sl 1, .sl 1, .sl 1, .sl 1, .sl 1, .sl 1, .sl 1, .sl 1, .sl 1, .sl 1, .sl 1, .sl 1, .sl 1, .sl 1, .sl 1, .sl 1, .sl 1, .sl 1, .sl 1, .sl 1, .sl 1, .sl 1, .sl 1, .sl 1, .sl 1, .sl 1, .sl 1, .sl 1, .sl 1, .sl 1, .sl 1, .sl 1, .sl 1, .sl 1, .sl 1, .sl 1, .sl 1, .sl 1, .sl 1, .sl 1, .sl 1, .sl 1, .sl 1, .sl 1, .sl 1, .sl 1, .sl 1, .sl 1, .sl 1, .sl 1, .sl 1, .sl 1, .sl 1, .sl 1, .sl 1, .sl 1, .sl 1, .sl 1, .sl 1, .sl 1, .sl 1, .sl 1, .sl 1, .sl 1, .sl 1, .sl 1, .sl 1, .sl 1, .sl 1, .sl 1, .sl 1, .sl 1, .sl 1, .sl 1, .sl 1, .sl 1, .sl 1, .sl 1, .sl 1, .sl 1, .sl 1, .sl 1, .sl 1, .sl 1, .sl 1, .sl 1, .sl 1, .sl 1, .sl 1, .sl 1, .sl 1, .sl 1, .sl 1, .sl 1, .sl 1, .sl 1, .sl 1, .sl 1, .sl 1, .sl 1, .sl 1, .sl 1, .sl 1, .sl 1, .sl 1, .sl 1, .sl 1, .sl 1, .sl 1, .sl 1, .sl 1, .sl 1, .sl 1, .sl 1, .sl 1, .sl 1, .sl 1, .sl 1, .sl 1, .sl 1, .sl 1, .sl 1, .sl 1, .sl 1, .sl 1, .sl 1, .sl 1, .sl 1, .sl 1, .sl 1, .sl 1, .sl 1, .sl 1, .sl 1, .sl 1, .sl 1, .sl 1, .sl 1, .sl 1, .sl 1, .sl 1, .sl 1, .sl 1, .sl 1, .sl 1, .sl 1, .sl 1, .sl 1, .sl 1, .sl 1, .sl 1, .sl 1, .sl 1, .sl 1, .sl 1, .sl 1, .sl 1, .sl 1, .sl 1, .sl 1, .sl 1, .sl 1, .sl 1, .sl 1, .sl 1, .sl 1, .sl 1, .sl 1, .sl 1, .sl 1, .sl 1, .sl 1, .sl 1, .sl 1, .sl 1, .sl 1, .sl 1, .sl 1, .sl 1, .sl 1, .sl 1, .sl 1, .sl 1, .sl 1, .sl 1, .sl 1, .sl 1, .sl 1, .sl 1, .sl 1, .sl 1, .sl 1, .sl 1, .sl 1, .sl 1], false⟩),
  (209, ⟨.struct [(0, 207), (256, 33)], 257, [.sl 1, .sl 1, .sl 1, .sl 1, .sl 1, .sl 1, .sl 1, .sl 1, .sl 1, .sl 1, .sl 1, .sl 1, .sl 1, .sl 1, .sl 1, .sl 1, .sl 1, .sl 1, .sl 1, .sl 1, .sl 1, .sl 1, .sl 1, .sl 1, .sl 1, .sl 1, .sl 1, .sl 1, .sl 1, .sl 1, .sl 1, .sl 1, .sl 1, .sl 1, .sl 1, .sl 1, .sl 1, .sl 1, .sl 1, .sl 1, .sl 1, .sl 1, .sl 1, .sl 1, .sl 1, .sl 1, .sl 1, .sl 1, .sl 1, .sl 1, .sl 1, .sl 1, .sl 1, .sl 1, .sl 1, .sl 1, .sl 1, .sl 1, .sl 1, .sl 1, .sl 1, .sl 1, .sl 1, .sl 1, .sl 1, .sl 1, .sl 1, .sl 1, .sl 1, .sl 1, .sl 1, .sl 1, .sl 1, .sl 1, .sl 1, .sl 1, .sl 1, .sl 1, .sl 1, .sl 1, .sl 1, .sl 1, .sl 1, .sl 1, .sl 1, .sl 1, .sl 1, .sl 1, .sl 1, .sl 1, .sl 1, .sl 1, .sl 1, .sl 1, .sl 1, .sl 1, .sl 1, .sl 1, .sl 1, .sl 1, .sl 1, .sl 1, .sl 1, .sl 1, .sl 1, .sl 1, .sl 1, .sl 1, .sl 1, .sl 1, .sl 1, .sl 1, .sl 1, .sl 1, .sl 1, .sl 1, .sl 1, .sl 1, .sl 1, .sl 1, .sl 1, .sl 1, .sl 1, .sl 1, .sl 1, .sl 1, .sl 1, .sl 1, .sl 1, .sl 1, .sl 1, .sl 1, .sl 1, .sl 1, .sl 1, .sl 1, .sl 1, .sl 1, .sl 1, .sl 1, .sl 1, .sl 1, .sl 1, .sl 1, .sl 1, .sl 1, .sl 1, .sl 1, .sl 1, .sl 1, .sl 1, .sl 1, .sl 1, .sl 1, .sl 1, .sl 1, .sl 1, .sl 1, .sl 1, .sl 1, .sl 1, .sl 1, .sl 1, .sl 1, .sl 1, .sl 1, .sl 1, .sl 1, .sl 1, .sl 1, .sl 1, .sl 1, .sl 1, .sl 1, .sl 1, .sl 1, .sl 1, .sl 1, .sl 1, .sl 1, .sl 1, .sl 1, .sl 1, .sl 1, .sl 1, .sl 1, .sl 1, .sl 1, .sl 1, .sl 1, .sl 1, .sl 1, .sl 1, .sl 1, .sl 1, .sl 1, .sl 1, .sl 1, .sl 1, .sl 1, .sl 1, .sl 1, .sl 1, .sl 1, .sl 1, .sl 1, .sl 1, .sl 1, .sl 1, .sl 1, .sl 1, .sl 1, .sl 1, .sl 1, .sl 1, .sl 1, .sl 1, .sl 1, .sl 1, .sl 1, .sl 1, .sl 1, .sl 1, .sl 1, .sl 1, .sl 1, .sl 1, .sl 1, .sl 1, .sl 1, .sl 1, .sl 1, .sl 1, .sl 1, .sl 1, .sl 1, .sl 1, .sl 1, .sl 1, .sl 1, .sl 1, .sl 1, .sl 1, .sl 1, .sl 1, .sl 1, .sl 1, .sl 1, .sl 1, .sl 1, .sl 1, .sl 1, .sl 1, .sl 1, .sl 1, .sl 1, .sl 1], false⟩),
  (210, ⟨.pointer 209, 1, [.nl .nilp], false⟩),
  (211, ⟨.func, 1, [.nl .nilf], false⟩),
  (212, ⟨.func, 1, [.nl .nilf], false⟩),
  (213, ⟨.int .u64, 1, [.int .u64], false⟩),
  (214, ⟨.func, 1, [.nl .nilf], false⟩),
  (215, ⟨.func, 1, [.nl .nilf], false⟩),
  (216, ⟨.func, 1, [.nl .nilf], false⟩),
  (217, ⟨.pointer 3, 1, [.nl .nilp], false⟩),
  (218, ⟨.func, 1, [.nl .nilf], false⟩),
  (219, ⟨.func, 1, [.nl .nilf], false⟩),
  (220, ⟨.func, 1, [.nl .nilf], false⟩),
  (221, ⟨.pointer 133, 1, [.nl .nilp], false⟩),
  (222, ⟨.func, 1, [.nl .nilf], false⟩),
  (223, ⟨.func, 1, [.nl .nilf], false⟩),
  (224, ⟨.pointer 260, 1, [.nl .nilp], false⟩),
  (225, ⟨.func, 1, [.nl .nilf], false⟩),
  (226, ⟨.struct [(0, 224), (1, 9)], 2, [.nl .nilp, .str], false⟩),
  (227, ⟨.struct [(0, 224), (1, 9)], 2, [.nl .nilp, .str], false⟩),
  (228, ⟨.pointer 231, 1, [.nl .nilp], false⟩),
  (229, ⟨.slice 228, 1, [.sl 1], false⟩),
  (230, ⟨.struct [(0, 9), (1, 3), (2, 9), (3, 228), (4, 229)], 5, [.str, .int .i64, .str, .nl .nilp, .sl 1], false⟩),
  (231, ⟨.struct [(0, 9), (1, 3), (2, 9), (3, 228), (4, 229)], 5, [.str, .int .i64, .str, .nl .nilp, .sl 1], false⟩),
  (232, ⟨.struct [(0, 231), (5, 3), (6, 204)], 262, [.str, .int .i64, .str, .nl .nilp, .sl 1, .int .i64, .int .u8, .int .u8, .int .u8, .int .u8, .int .u8, .int .u8, .int .u8, .int .u8, .int .u8, .int .u8, .int .u8, .int .u8, .int .u8, .int .u8, .int .u8, .int .u8, .int .u8, .int .u8, .int .u8, .int .u8, .int .u8, .int .u8, .int .u8, .int .u8, .int .u8, .int .u8, .int .u8, .int .u8, .int .u8, .int .u8, .int .u8, .int .u8, .int .u8, .int .u8, .int .u8, .int .u8, .int .u8, .int .u8, .int .u8, .int .u8, .int .u8, .int .u8, .int .u8, .int .u8, .int .u8, .int .u8, .int .u8, .int .u8, .int .u8, .int .u8, .int .u8, .int .u8, .int .u8, .int .u8, .int .u8, .int .u8, .int .u8, .int .u8, .int .u8, .int .u8, .int .u8, .int .u8, .int .u8, .int .u8, .int .u8, .int .u8, .int .u8, .int .u8, .int .u8, .int .u8, .int .u8, .int .u8, .int .u8, .int .u8, .int .u8, .int .u8, .int .u8, .int .u8, .int .u8, .int .u8, .int .u8, .int .u8, .int .u8, .int .u8, .int .u8, .int .u8, .int .u8, .int .u8, .int .u8, .int .u8, .int .u8, .int .u8, .int .u8, .int .u8, .int .u8, .int .u8, .int .u8, .int .u8, .int .u8, .int .u8, .int .u8, .int .u8, .int .u8, .int .u8, .int .u8, .int .u8, .int .u8, .int .u8, .int .u8, .int .u8, .int .u8, .int .u8, .int .u8, .int .u8, .int .u8, .int .u8, .int .u8, .int .u8, .int .u8, .int .u8, .int .u8, .int .u8, .int .u8, .int .u8, .int .u8, .int .u8, .int .u8, .int .u8, .int .u8, .int .u8, .int .u8, .int .u8, .int .u8, .int .u8, .int .u8, .int .u8, .int .u8, .int .u8, .int .u8, .int .u8, .int .u8, .int .u8, .int .u8, .int .u8, .int .u8, .int .u8, .int .u8, .int .u8, .int .u8, .int .u8, .int .u8, .int .u8, .int .u8, .int .u8, .int .u8, .int .u8, .int .u8, .int .u8, .int .u8, .int .u8, .int .u8, .int .u8, .int .u8, .int .u8, .int .u8, .int .u8, .int .u8, .int .u8, .int .u8, .int .u8, .int .u8, .int .u8, .int .u8, .int .u8, .int .u8, .int .u8, .int .u8, .int .u8, .int .u8, .int .u8, .int .u8, .int .u8, .int .u8, .int .u8, .int .u8, .int .u8, .int .u8, .int .u8, .int .u8, .int .u8, .int .u8, .int .u8, .int .u8, .int .u8, .int .u8, .int .u8, .int .u8, .int .u8, .int .u8, .int .u8, .int .u8, .int .u8, .int .u8, .int .u8, .int .u8, .int .u8, .int .u8, .int .u8, .int .u8, .int .u8, .int .u8, .int .u8, .int .u8, .int .u8, .int .u8, .int .u8, .int .u8, .int .u8, .int .u8, .int .u8, .int .u8, .int .u8, .int .u8, .int .u8, .int .u8, .int .u8, .int .u8, .int .u8, .int .u8, .int .u8, .int .u8, .int .u8, .int .u8, .int .u8, .int .u8, .int .u8, .int .u8, .int .u8, .int .u8, .int .u8, .int .u8, .int .u8, .int .u8, .int .u8, .int .u8, .int .u8, .int .u8, .int .u8, .int .u8, .int .u8, .int .u8, .int .u8, .int .u8, .int .u8, .int .u8, .int .u8], false⟩),
  (233, ⟨.struct [(0, 231), (5, 3), (6, 204)], 262, [.str, .int .i64, .str, .nl .nilp, .sl 1, .int .i64, .int .u8, .int .u8, .int .u8, .int .u8, .int .u8, .int .u8, .int .u8, .int .u8, .int .u8, .int .u8, .int .u8, .int .u8, .int .u8, .int .u8, .int .u8, .int .u8, .int .u8, .int .u8, .int .u8, .int .u8, .int .u8, .int .u8, .int .u8, .int .u8, .int .u8, .int .u8, .int .u8, .int .u8, .int .u8, .int .u8, .int .u8, .int .u8, .int .u8, .int .u8, .int .u8, .int .u8, .int .u8, .int .u8, .int .u8, .int .u8, .int .u8, .int .u8, .int .u8, .int .u8, .int .u8, .int .u8, .int .u8, .int .u8, .int .u8, .int .u8, .int .u8, .int .u8, .int .u8, .int .u8, .int .u8, .int .u8, .int .u8, .int .u8, .int .u8, .int .u8, .int .u8, .int .u8, .int .u8, .int .u8, .int .u8, .int .u8, .int .u8, .int .u8, .int .u8, .int .u8, .int .u8, .int .u8, .int .u8, .int .u8, .int .u8, .int .u8, .int .u8, .int .u8, .int .u8, .int .u8, .int .u8, .int .u8, .int .u8, .int .u8, .int .u8, .int .u8, .int .u8, .int .u8, .int .u8, .int .u8, .int .u8, .int .u8, .int .u8, .int .u8, .int .u8, .int .u8, .int .u8, .int .u8, .int .u8, .int .u8, .int .u8, .int .u8, .int .u8, .int .u8, .int .u8, .int .u8, .int .u8, .int .u8, .int .u8, .int .u8, .int .u8, .int .u8, .int .u8, .int .u8, .int .u8, .int .u8, .int .u8, .int .u8, .int .u8, .int .u8, .int .u8, .int .u8, .int .u8, .int .u8, .int .u8, .int .u8, .int .u8, .int .u8, .int .u8, .int .u8, .int .u8, .int .u8, .int .u8, .int .u8, .int .u8, .int .u8, .int .u8, .int .u8, .int .u8, .int .u8, .int .u8, .int .u8, .int .u8, .int .u8, .int .u8, .int .u8, .int .u8, .int .u8, .int .u8, .int .u8, .int .u8, .int .u8, .int .u8, .int .u8, .int .u8, .int .u8, .int .u8, .int .u8, .int .u8, .int .u8, .int .u8, .int .u8, .int .u8, .int .u8, .int .u8, .int .u8, .int .u8, .int .u8, .int .u8, .int .u8, .int .u8, .int .u8, .int .u8, .int .u8, .int .u8, .int .u8, .int .u8, .int .u8, .int .u8, .int .u8, .int .u8, .int .u8, .int .u8, .int .u8, .int .u8, .int .u8, .int .u8, .int .u8, .int .u8, .int .u8, .int .u8, .int .u8, .int .u8, .int .u8, .int .u8, .int .u8, .int .u8, .int .u8, .int .u8, .int .u8, .int .u8, .int .u8, .int .u8, .int .u8, .int .u8, .int .u8, .int .u8, .int .u8, .int .u8, .int .u8, .int .u8, .int .u8, .int .u8, .int .u8, .int .u8, .int .u8, .int .u8, .int .u8, .int .u8, .int .u8, .int .u8, .int .u8, .int .u8, .int .u8, .int .u8, .int .u8, .int .u8, .int .u8, .int .u8, .int .u8, .int .u8, .int .u8, .int .u8, .int .u8, .int .u8, .int .u8, .int .u8, .int .u8, .int .u8, .int .u8, .int .u8, .int .u8, .int .u8, .int .u8, .int .u8, .int .u8, .int .u8, .int .u8, .int .u8, .int .u8, .int .u8, .int .u8, .int .u8, .int .u8, .int .u8, .int .u8], false⟩),
  (234, ⟨.func, 1, [.nl .nilf], false⟩),
  (235, ⟨.func, 1, [.nl .nilf], false⟩),
  (236, ⟨.func, 1, [.nl .nilf], false⟩),
  (237, ⟨.func, 1, [.nl .nilf], false⟩),
  (238, ⟨.func, 1, [.nl .nilf], false⟩),
  (239, ⟨.func, 1, [.nl .nilf], false⟩),
  (240, ⟨.pointer 213, 1, [.nl .nilp], false⟩),
  (241, ⟨.func, 1, [.nl .nilf], false⟩),
  (242, ⟨.func, 1, [.nl .nilf], false⟩),
  (243, ⟨.func, 1, [.nl .nilf], false⟩),
  (244, ⟨.func, 1, [.nl .nilf], false⟩),
  (245, ⟨.func, 1, [.nl .nilf], false⟩),
  (246, ⟨.func, 1, [.nl .nilf], false⟩),
  (247, ⟨.struct [(0, 5), (1, 5)], 2, [.int .u8, .int .u8], true⟩),
  (248, ⟨.struct [(0, 5), (1, 5)], 2, [.int .u8, .int .u8], true⟩),
  (249, ⟨.array 16 248, 32, [.int .u8, .int .u8, .int .u8, .int .u8, .int .u8, .int .u8, .int .u8, .int .u8, .int .u8, .int .u8, .int .u8, .int .u8, .int .u8, .int .u8, .int .u8, .int .u8, .int .u8, .int .u8, .int .u8, .int .u8, .int .u8, .int .u8, .int .u8, .int .u8, .int .u8, .int .u8, .int .u8, .int .u8, .int .u8, .int .u8, .int .u8, .int .u8], true⟩),
  (251, ⟨.func, 1, [.nl .nilf], false⟩),
  (252, ⟨.pointer 131, 1, [.nl .nilp], false⟩),
  (253, ⟨.func, 1, [.nl .nilf], false⟩),
  (254, ⟨.pointer 21, 1, [.nl .nilp], false⟩),
  (255, ⟨.func, 1, [.nl .nilf], false⟩),
  (256, ⟨.func, 1, [.nl .nilf], false⟩),
  (257, ⟨.func, 1, [.nl .nilf], false⟩),
  (258, ⟨.array 256 3, 256, [.int .i64, .int .i64, .int .i64, .int .i64, .int .i64, .int .i64, .int .i64, .int .i64, .int .i64, .int .i64, .int .i64, .int .i64, .int .i64, .int .i64, .int .i64, .int .i64, .int .i64, .int .i64, .int .i64, .int .i64, .int .i64, .int .i64, .int .i64, .int .i64, .int .i64, .int .i64, .int .i64, .int .i64, .int .i64, .int .i64, .int .i64, .int .i64, .int .i64, .int .i64, .int .i64, .int .i64, .int .i64, .int .i64, .int .i64, .int .i64, .int .i64, .int .i64, .int .i64, .int .i64, .int .i64, .int .i64, .int .i64, .int .i64, .int .i64, .int .i64, .int .i64, .int .i64, .int .i64, .int .i64, .int .i64, .int .i64, .int .i64, .int .i64, .int .i64, .int .i64, .int .i64, .int .i64, .int .i64, .int .i64, .int .i64, .int .i64, .int .i64, .int .i64, .int .i64, .int .i64, .int .i64, .int .i64, .int .i64, .int .i64, .int .i64, .int .i64, .int .i64, .int .i64, .int .i64, .int .i64, .int .i64, .int .i64, .int .i64, .int .i64, .int .i64, .int .i64, .int .i64, .int .i64, .int .i64, .int .i64, .int .i64, .int .i64, .int .i64, .int .i64, .int .i64, .int .i64, .int .i64, .int .i64, .int .i64, .int .i64, .int .i64, .int .i64, .int .i64, .int .i64, .int .i64, .int .i64, .int .i64, .int .i64, .int .i64, .int .i64, .int .i64, .int .i64, .int .i64, .int .i64, .int .i64, .int .i64, .int .i64, .int .i64, .int .i64, .int .i64, .int .i64, .int .i64, .int .i64, .int .i64, .int .i64, .int .i64, .int .i64, .int .i64, .int .i64, .int .i64, .int .i64, .int .i64, .int .i64, .int .i64, .int .i64, .int .i64, .int .i64, .int .i64, .int .i64, .int .i64, .int .i64, .int .i64, .int .i64, .int .i64, .int .i64, .int .i64, .int .i64, .int .i64, .int .i64, .int .i64, .int .i64, .int .i64, .int .i64, .int .i64, .int .i64, .int .i64, .int .i64, .int .i64, .int .i64, .int .i64, .int .i64, .int .i64, .int .i64, .int .i64, .int .i64, .int .i64, .int .i64, .int .i64, .int .i64, .int .i64, .int .i64, .int .i64, .int .i64, .int .i64, .int .i64, .int .i64, .int .i64, .int .i64, .int .i64, .int .i64, .int .i64, .int .i64, .int .i64, .int .i64, .int .i64, .int .i64, .int .i64, .int .i64, .int .i64, .int .i64, .int .i64, .int .i64, .int .i64, .int .i64, .int .i64, .int .i64, .int .i64, .int .i64, .int .i64, .int .i64, .int .i64, .int .i64, .int .i64, .int .i64, .int .i64, .int .i64, .int .i64, .int .i64, .int .i64, .int .i64, .int .i64, .int .i64, .int .i64, .int .i64, .int .i64, .int .i64, .int .i64, .int .i64, .int .i64, .int .i64, .int .i64, .int .i64, .int .i64, .int .i64, .int .i64, .int .i64, .int .i64, .int .i64, .int .i64, .int .i64, .int .i64, .int .i64, .int .i64, .int .i64, .int .i64, .int .i64, .int .i64, .int .i64, .int .i64, .int .i64, .int .i64, .int .i64, .int .i64, .int .i64, .int .i64, .int .i64, .int .i64, .int .i64, .int .i64, .int .i64, .int .i64, .int .i64, .int .i64, .int .i64, .int .i64, .int .i64], false⟩),
  (259, ⟨.struct [(0, 9), (1, 258), (257, 42)], 258, [.str, .int .i64, .int .i64, .int .i64, .int .i64, .int .i64, .int .i64, .int .i64, .int .i64, .int .i64, .int .i64, .int .i64, .int .i64, .int .i64, .int .i64, .int .i64, .int .i64, .int .i64, .int .i64, .int .i64, .int .i64, .int .i64, .int .i64, .int .i64, .int .i64, .int .i64, .int .i64, .int .i64, .int .i64, .int .i64, .int .i64, .int .i64, .int .i64, .int .i64, .int .i64, .int .i64, .int .i64, .int .i64, .int .i64, .int .i64, .int .i64, .int .i64, .int .i64, .int .i64, .int .i64, .int .i64, .int .i64, .int .i64, .int .i64, .int .i64, .int .i64, .int .i64, .int .i64, .int .i64, .int .i64, .int .i64, .int .i64, .int .i64, .int .i64, .int .i64, .int .i64, .int .i64, .int .i64, .int .i64, .int .i64, .int .i64, .int .i64, .int .i64, .int .i64, .int .i64, .int .i64, .int .i64, .int .i64, .int .i64, .int .i64, .int .i64, .int .i64, .int .i64, .int .i64, .int .i64, .int .i64, .int .i64, .int .i64, .int .i64, .int .i64, .int .i64, .int .i64, .int .i64, .int .i64, .int .i64, .int .i64, .int .i64, .int .i64, .int .i64, .int .i64, .int .i64, .int .i64, .int .i64, .int .i64, .int .i64, .int .i64, .int .i64, .int .i64, .int .i64, .int .i64, .int .i64, .int .i64, .int .i64, .int .i64, .int .i64, .int .i64, .int .i64, .int .i64, .int .i64, .int .i64, .int .i64, .int .i64, .int .i64, .int .i64, .int .i64, .int .i64, .int .i64, .int .i64, .int .i64, .int .i64, .int .i64, .int .i64, .int .i64, .int .i64, .int .i64, .int .i64, .int .i64, .int .i64, .int .i64, .int .i64, .int .i64, .int .i64, .int .i64, .int .i64, .int .i64, .int .i64, .int .i64, .int .i64, .int .i64, .int .i64, .int .i64, .int .i64, .int .i64, .int .i64, .int .i64, .int .i64, .int .i64, .int .i64, .int .i64, .int .i64, .int .i64, .int .i64, .int .i64, .int .i64, .int .i64, .int .i64, .int .i64, .int .i64, .int .i64, .int .i64, .int .i64, .int .i64, .int .i64, .int .i64, .int .i64, .int .i64, .int .i64, .int .i64, .int .i64, .int .i64, .int .i64, .int .i64, .int .i64, .int .i64, .int .i64, .int .i64, .int .i64, .int .i64, .int .i64, .int .i64, .int .i64, .int .i64, .int .i64, .int .i64, .int .i64, .int .i64, .int .i64, .int .i64, .int .i64, .int .i64, .int .i64, .int .i64, .int .i64, .int .i64, .int .i64, .int .i64, .int .i64, .int .i64, .int .i64, .int .i64, .int .i64, .int .i64, .int .i64, .int .i64, .int .i64, .int .i64, .int .i64, .int .i64, .int .i64, .int .i64, .int .i64, .int .i64, .int .i64, .int .i64, .int .i64, .int .i64, .int .i64, .int .i64, .int .i64, .int .i64, .int .i64, .int .i64, .int .i64, .int .i64, .int .i64, .int .i64, .int .i64, .int .i64, .int .i64, .int .i64, .int .i64, .int .i64, .int .i64, .int .i64, .int .i64, .int .i64, .int .i64, .int .i64, .int .i64, .int .i64, .int .i64, .int .i64, .int .i64, .int .i64, .int .i64, .int .i64, .int .i64, .int .i64, .int .i64, .int .i64, .int .i64, .int .i64, .sl 1], false⟩),
  (260, ⟨.struct [(0, 9), (1, 258), (257, 42)], 258, [.str, .int .i64, .int .i64, .int .i64, .int .i64, .int .i64, .int .i64, .int .i64, .int .i64, .int .i64, .int .i64, .int .i64, .int .i64, .int .i64, .int .i64, .int .i64, .int .i64, .int .i64, .int .i64, .int .i64, .int .i64, .int .i64, .int .i64, .int .i64, .int .i64, .int .i64, .int .i64, .int .i64, .int .i64, .int .i64, .int .i64, .int .i64, .int .i64, .int .i64, .int .i64, .int .i64, .int .i64, .int .i64, .int .i64, .int .i64, .int .i64, .int .i64, .int .i64, .int .i64, .int .i64, .int .i64, .int .i64, .int .i64, .int .i64, .int .i64, .int .i64, .int .i64, .int .i64, .int .i64, .int .i64, .int .i64, .int .i64, .int .i64, .int .i64, .int .i64, .int .i64, .int .i64, .int .i64, .int .i64, .int .i64, .int .i64, .int .i64, .int .i64, .int .i64, .int .i64, .int .i64, .int .i64, .int .i64, .int .i64, .int .i64, .int .i64, .int .i64, .int .i64, .int .i64, .int .i64, .int .i64, .int .i64, .int .i64, .int .i64, .int .i64, .int .i64, .int .i64, .int .i64, .int .i64, .int .i64, .int .i64, .int .i64, .int .i64, .int .i64, .int .i64, .int .i64, .int .i64, .int .i64, .int .i64, .int .i64, .int .i64, .int .i64, .int .i64, .int .i64, .int .i64, .int .i64, .int .i64, .int .i64, .int .i64, .int .i64, .int .i64, .int .i64, .int .i64, .int .i64, .int .i64, .int .i64, .int .i64, .int .i64, .int .i64, .int .i64, .int .i64, .int .i64, .int .i64, .int .i64, .int .i64, .int .i64, .int .i64, .int .i64, .int .i64, .int .i64, .int .i64, .int .i64, .int .i64, .int .i64, .int .i64, .int .i64, .int .i64, .int .i64, .int .i64, .int .i64, .int .i64, .int .i64, .int .i64, .int .i64, .int .i64, .int .i64, .int .i64, .int .i64, .int .i64, .int .i64, .int .i64, .int .i64, .int .i64, .int .i64, .int .i64, .int .i64, .int .i64, .int .i64, .int .i64, .int .i64, .int .i64, .int .i64, .int .i64, .int .i64, .int .i64, .int .i64, .int .i64, .int .i64, .int .i64, .int .i64, .int .i64, .int .i64, .int .i64, .int .i64, .int .i64, .int .i64, .int .i64, .int .i64, .int .i64, .int .i64, .int .i64, .int .i64, .int .i64, .int .i64, .int .i64, .int .i64, .int .i64, .int .i64, .int .i64, .int .i64, .int .i64, .int .i64, .int .i64, .int .i64, .int .i64, .int .i64, .int .i64, .int .i64, .int .i64, .int .i64, .int .i64, .int .i64, .int .i64, .int .i64, .int .i64, .int .i64, .int .i64, .int .i64, .int .i64, .int .i64, .int .i64, .int .i64, .int .i64, .int .i64, .int .i64, .int .i64, .int .i64, .int .i64, .int .i64, .int .i64, .int .i64, .int .i64, .int .i64, .int .i64, .int .i64, .int .i64, .int .i64, .int .i64, .int .i64, .int .i64, .int .i64, .int .i64, .int .i64, .int .i64, .int .i64, .int .i64, .int .i64, .int .i64, .int .i64, .int .i64, .int .i64, .int .i64, .int .i64, .int .i64, .int .i64, .int .i64, .int .i64, .int .i64, .int .i64, .int .i64, .int .i64, .int .i64, .int .i64, .int .i64, .int .i64, .int .i64, .int .i64, .sl 1], false⟩),
  (261, ⟨.func, 1, [.nl .nilf], false⟩),
  (262, ⟨.func, 1, [.nl .nilf], false⟩),
  (263, ⟨.func, 1, [.nl .nilf], false⟩),
  (264, ⟨.func, 1, [.nl .nilf], false⟩),
  (265, ⟨.func, 1, [.nl .nilf], false⟩),
  (266, ⟨.func, 1, [.nl .nilf], false⟩),
  (267, ⟨.func, 1, [.nl .nilf], false⟩),
  (268, ⟨.func, 1, [.nl .nilf], false⟩),
  (269, ⟨.func, 1, [.nl .nilf], false⟩),
  (270, ⟨.struct [(0, 17), (1, 17), (2, 17), (3, 9)], 4, [.nl .nilp, .nl .nilp, .nl .nilp, .str], false⟩),
  (271, ⟨.struct [(0, 17), (1, 17), (2, 17), (3, 9)], 4, [.nl .nilp, .nl .nilp, .nl .nilp, .str], false⟩),
  (275, ⟨.func, 1, [.nl .nilf], false⟩),
  (276, ⟨.int .u8, 1, [.int .u8], false⟩),
  (277, ⟨.int .u8, 1, [.int .u8], false⟩),
  (278, ⟨.func, 1, [.nl .nilf], false⟩),
  (279, ⟨.int .i32, 1, [.int .i32], false⟩),
  (280, ⟨.int .i32, 1, [.int .i32], false⟩),
  (281, ⟨.struct [(0, 12), (1, 12), (2, 127), (3, 276), (4, 5), (5, 5), (6, 277), (7, 278), (8, 168), (9, 279), (10, 280)], 11, [.int .u64, .int .u64, .int .u32, .int .u8, .int .u8, .int .u8, .int .u8, .nl .nilf, .nl .nilp, .int .i32, .int .i32], false⟩),
  (282, ⟨.struct [(0, 12), (1, 12), (2, 127), (3, 276), (4, 5), (5, 5), (6, 277), (7, 278), (8, 168), (9, 279), (10, 280)], 11, [.int .u64, .int .u64, .int .u32, .int .u8, .int .u8, .int .u8, .int .u8, .nl .nilf, .nl .nilp, .int .i32, .int .i32], false⟩),
  (283, ⟨.func, 1, [.nl .nilf], false⟩),
  (284, ⟨.slice 5, 1, [.sl 1], false⟩),
  (285, ⟨.pointer 284, 1, [.nl .nilp], false⟩),
  (286, ⟨.iface, 1, [.nl .nili], false⟩),
  (287, ⟨.iface, 1, [.nl .nili], false⟩),
  (288, ⟨.iface, 1, [.nl .nili], false⟩),
  (289, ⟨.iface, 1, [.nl .nili], false⟩),
  (290, ⟨.func, 1, [.nl .nilf], false⟩),
  (292, ⟨.func, 1, [.nl .nilf], false⟩),
  (294, ⟨.struct [(0, 287)], 1, [.nl .nili], false⟩),
  (295, ⟨.struct [(0, 287)], 1, [.nl .nili], false⟩),
  (296, ⟨.func, 1, [.nl .nilf], false⟩)]
def sigF : Nat → List RK
  | 0 => []
  | 1 => []
  | 2 => []
  | 3 => [.one (.bool)]
  | 4 => [.one (.bool)]
  | 5 => [.one (.bool)]
  | 6 => [.one (.bool)]
  | 7 => [.one (.bool)]
  | 8 => [.one (.bool)]
  | 9 => [.one (.str), .one (.bool)]
  | 10 => [.one (.str), .one (.bool)]
  | 11 => [.one (.int .i64), .one (.bool)]
  | 12 => [.one (.int .i64), .one (.bool)]
  | 13 => [.one (.bool)]
  | 14 => [.one (.bool)]
  | 15 => [.one (.str), .one (.bool)]
  | 16 => [.agg [.int .i64, .int .i64, .int .i64, .int .i64, .int .i64, .int .i64]]
  | 17 => [.one (.str), .one (.bool)]
  | 18 => [.one (.str), .one (.bool)]
  | 19 => [.one (.str), .one (.bool)]
  | 20 => [.own 1, .one (.bool)]
  | 21 => [.own 1, .one (.bool)]
  | 22 => [.one (.bool)]
  | 23 => [.one (.int .i64)]
  | 24 => [.one (.int .i64)]
  | 25 => [.agg [.int .i64, .int .i64, .sl 1], .own 1, .one (.bool)]
  | 26 => [.one (.str)]
  | 27 => [.agg [.int .i64, .int .i64, .sl 1]]
  | 28 => [.one (.bool)]
  | 29 => [.one (.str)]
  | 30 => [.own 1]
  | 31 => [.one (.int .i64)]
  | 32 => [.one (.int .i64)]
  | 33 => [.own 1]
  | 34 => [.one (.bool)]
  | 35 => [.agg [.int .i64, .int .i64, .sl 1], .one (.bool)]
  | 36 => [.one (.bool)]
  | 37 => [.one (.bool)]
  | 38 => [.agg [.int .i64, .int .i64, .sl 1]]
  | 39 => [.one (.bool)]
  | 40 => [.one (.str)]
  | 41 => [.one (.str)]
  | 42 => [.one (.str)]
  | 43 => [.own 1]
  | 44 => [.one (.str)]
  | 45 => [.own 1]
  | 46 => [.own 1]
  | 47 => [.one (.str)]
  | 48 => [.agg [.int .i64, .int .i64, .sl 1], .one (.bool)]
  | 49 => [.one (.bool)]
  | 50 => [.own 1, .one (.bool)]
  | 51 => [.one (.str)]
  | 52 => [.agg [.int .i64, .int .i64, .sl 1]]
  | 53 => [.own 2, .own 1, .one (.bool)]
  | 54 => [.own 1]
  | 55 => [.own 1]
  | 56 => [.one (.str)]
  | 57 => [.one (.int .i64), .one (.int .i64)]
  | 58 => [.one (.bool)]
  | 59 => [.one (.bool)]
  | 60 => [.one (.str)]
  | 61 => [.one (.bool)]
  | 62 => [.own 1]
  | 63 => [.one (.bool)]
  | 64 => [.own 1]
  | 65 => [.one (.bool)]
  | 66 => [.one (.bool)]
  | 67 => [.own 2, .own 1, .one (.bool)]
  | 68 => [.own 1, .own 1]
  | 69 => [.one (.str)]
  | 70 => [.agg [.int .i64, .int .i64, .sl 1]]
  | 71 => [.one (.str)]
  | 72 => [.one (.nl .nilp)]
  | 73 => [.one (.str)]
  | 74 => [.own 6]
  | 75 => [.own 1]
  | 76 => [.own 6]
  | 77 => []
  | 78 => [.own 1]
  | 79 => [.own 1]
  | 80 => [.agg [.int .i64, .int .i64, .int .i64, .int .i64, .int .i64, .int .i64]]
  | 81 => [.agg [.int .i64, .int .i64, .int .i64, .int .i64, .int .i64, .int .i64]]
  | 82 => [.one (.bool)]
  | 83 => [.own 1]
  | 84 => [.one (.int .i64)]
  | 85 => [.one (.str)]
  | 86 => [.one (.int .i64)]
  | 87 => [.one (.str)]
  | 88 => [.one (.bool)]
  | 89 => [.one (.bool)]
  | 90 => [.agg [.int .i64, .int .i64, .int .i64, .int .i64, .int .i64, .int .i64]]
  | 91 => [.one (.int .i64)]
  | 92 => [.one (.int .i64), .one (.int .i64)]
  | 93 => [.agg [.int .i64, .int .i64, .int .i64, .int .i64, .int .i64, .int .i64]]
  | 94 => []
  | 95 => [.one (.int .i64), .one (.nl .nili)]
  | 96 => [.one (.str)]
  | 97 => []
  | 98 => []
  | 99 => []
  | 100 => []
  | 101 => [.own 6, .own 1]
  | 102 => [.one (.bool)]
  | 103 => [.own 1]
  | 104 => [.agg [.int .i64, .int .i64, .int .i64, .int .i64, .int .i64, .int .i64]]
  | 105 => [.own 6]
  | 106 => []
  | 107 => [.one (.int .i64)]
  | 108 => [.agg [.int .i64, .int .i64, .int .i64, .int .i64, .int .i64, .int .i64]]
  | 109 => [.one (.bool)]
  | 110 => [.own 1]
  | 111 => [.own 1]
  | 112 => [.one (.nl .nilf)]
  | 113 => [.own 1]
  | 114 => [.one (.int .i64)]
  | 115 => [.one (.int .i64)]
  | 116 => [.one (.int .i64)]
  | 117 => [.one (.bool)]
  | 118 => [.agg [.bool, .bool, .bool, .bool, .bool, .bool, .bool, .bool, .bool, .bool, .bool, .bool, .bool, .bool, .bool, .bool, .bool, .bool, .bool, .bool, .bool, .bool, .bool, .bool, .bool, .bool, .bool, .bool, .bool, .bool, .bool, .bool, .bool, .bool, .bool, .bool, .bool, .bool, .bool, .bool, .bool, .bool, .bool, .bool, .bool, .bool, .bool, .bool, .bool, .bool, .bool, .bool, .bool, .bool, .bool, .bool, .bool, .bool, .bool, .bool, .bool, .bool, .bool, .bool, .bool, .bool, .bool, .bool, .bool, .bool, .bool, .bool, .bool, .bool, .bool, .bool, .bool, .bool, .bool, .bool, .bool, .bool, .bool, .bool, .bool, .bool, .bool, .bool, .bool, .bool, .bool, .bool, .bool, .bool, .bool, .bool, .bool, .bool, .bool, .bool, .bool, .bool, .bool, .bool, .bool, .bool, .bool, .bool, .bool, .bool, .bool, .bool, .bool, .bool, .bool, .bool, .bool, .bool, .bool, .bool, .bool, .bool, .bool, .bool, .bool, .bool, .bool, .bool, .bool, .bool, .bool, .bool, .bool, .bool, .bool, .bool, .bool, .bool, .bool, .bool, .bool, .bool, .bool, .bool, .bool, .bool, .bool, .bool, .bool, .bool, .bool, .bool, .bool, .bool, .bool, .bool, .bool, .bool, .bool, .bool, .bool, .bool, .bool, .bool, .bool, .bool, .bool, .bool, .bool, .bool, .bool, .bool, .bool, .bool, .bool, .bool, .bool, .bool, .bool, .bool, .bool, .bool, .bool, .bool, .bool, .bool, .bool, .bool, .bool, .bool, .bool, .bool, .bool, .bool, .bool, .bool, .bool, .bool, .bool, .bool, .bool, .bool, .bool, .bool, .bool, .bool, .bool, .bool, .bool, .bool, .bool, .bool, .bool, .bool, .bool, .bool, .bool, .bool, .bool, .bool, .bool, .bool, .bool, .bool, .bool, .bool, .bool, .bool, .bool, .bool, .bool, .bool, .bool, .bool, .bool, .bool, .bool, .bool, .bool, .bool, .bool, .bool, .bool, .bool, .bool, .bool, .bool, .bool, .bool, .bool, .bool, .bool, .bool, .bool, .bool, .bool], .one (.bool)]
  | 119 => [.one (.bool)]
  | 120 => [.one (.str)]
  | 121 => [.one (.str)]
  | 122 => [.one (.str)]
  | 123 => [.one (.str)]
  | 124 => [.one (.str)]
  | 125 => [.one (.str)]
  | 126 => [.one (.str)]
  | 127 => [.one (.int .i64)]
  | 128 => []
  | 129 => []
  | 130 => [.one (.bool)]
  | 131 => []
  | 132 => [.one (.nl .nili)]
  | 133 => [.one (.str)]
  | 134 => []
  | 135 => [.one (.int .i64)]
  | 136 => [.own 6]
  | 137 => []
  | 138 => []
  | 139 => []
  | 140 => [.one (.int .i64), .one (.int .i64)]
  | 141 => []
  | 142 => [.one (.bool)]
  | 143 => [.one (.bool)]
  | 144 => [.one (.int .i64)]
  | 145 => [.one (.int .i64), .one (.bool)]
  | 146 => [.one (.int .i64)]
  | 147 => [.one (.int .i64)]
  | 148 => [.one (.int .i64)]
  | 149 => [.own 1]
  | 150 => []
  | 151 => []
  | 152 => [.one (.int .i64)]
  | 153 => [.one (.int .i32), .one (.int .i64)]
  | 154 => [.one (.int .i64)]
  | 155 => [.one (.int .i64)]
  | 156 => [.one (.int .i64)]
  | 157 => [.one (.bool)]
  | 158 => [.one (.int .i64)]
  | 159 => [.one (.int .i64)]
  | 160 => [.one (.bool)]
  | 161 => [.one (.int .i32), .one (.int .i64)]
  | 162 => [.one (.nl .nilp)]
  | 163 => [.own 1]
  | 164 => [.one (.int .u32)]
  | 165 => []
  | 166 => []
  | 167 => []
  | 168 => [.one (.nl .nilp)]
  | 169 => [.one (.nl .nilp)]
  | 170 => []
  | 171 => [.one (.int .i64)]
  | 172 => []
  | 173 => [.one (.int .u64)]
  | 174 => [.one (.int .u64)]
  | 175 => [.one (.int .i64)]
  | 176 => [.one (.int .i64)]
  | 177 => [.one (.bool)]
  | 178 => [.own 1]
  | 179 => []
  | 180 => [.one (.int .i32), .one (.int .i64)]
  | 181 => [.one (.int .i64)]
  | 182 => [.one (.int .i64)]
  | 183 => [.one (.bool)]
  | 184 => []
  | 185 => []
  | 186 => []
  | 187 => [.one (.int .u32)]
  | 188 => [.one (.nl .nilp)]
  | 189 => []
  | 190 => []
  | 191 => []
  | 192 => []
  | 193 => [.one (.int .i64), .one (.int .i64)]
  | 194 => []
  | 195 => [.one (.bool)]
  | 196 => [.one (.int .i64)]
  | 197 => [.one (.int .i64), .one (.bool)]
  | 198 => [.one (.int .i64)]
  | 199 => [.one (.int .i64), .one (.int .i64)]
  | 200 => []
  | 201 => []
  | 202 => []
  | 203 => [.one (.int .i64), .one (.int .i64)]
  | 204 => []
  | 205 => [.one (.bool)]
  | 206 => [.one (.bool)]
  | 207 => [.one (.int .i64)]
  | 208 => [.one (.int .i64), .one (.bool)]
  | 209 => [.one (.int .i64)]
  | 210 => [.one (.int .u32), .one (.int .u32)]
  | 211 => []
  | 212 => [.one (.bool)]
  | 213 => []
  | 214 => []
  | 215 => []
  | 216 => []
  | 217 => [.one (.int .i32)]
  | 218 => []
  | 219 => [.one (.bool)]
  | 220 => [.one (.int .i64)]
  | 221 => []
  | 222 => [.one (.int .i64)]
  | 223 => [.one (.int .i64)]
  | 224 => [.one (.bool)]
  | 225 => []
  | 226 => [.one (.int .i64)]
  | 227 => [.one (.int .i64)]
  | 228 => [.one (.bool)]
  | 229 => []
  | 230 => []
  | 231 => [.one (.int .i64)]
  | 232 => []
  | 233 => []
  | 234 => []
  | 235 => [.one (.bool)]
  | 236 => [.one (.int .i64), .one (.int .i64)]
  | 237 => [.one (.int .i64), .one (.int .i64)]
  | 238 => [.one (.str)]
  | 239 => []
  | 240 => [.one (.str)]
  | 241 => []
  | 242 => [.one (.str)]
  | 243 => []
  | 244 => [.one (.str)]
  | 245 => []
  | 246 => [.one (.str)]
  | 247 => []
  | 248 => [.one (.str)]
  | 249 => []
  | 250 => [.one (.int .i64)]
  | 251 => [.one (.str)]
  | 252 => []
  | 253 => [.one (.bool)]
  | 254 => []
  | 255 => [.one (.str)]
  | 256 => [.one (.int .i64), .one (.nl .nili)]
  | 257 => [.one (.int .i64)]
  | 258 => [.one (.str)]
  | 259 => [.one (.int .i64), .one (.nl .nili)]
  | 260 => [.one (.nl .nili)]
  | 261 => [.one (.str), .one (.int .i64), .one (.bool)]
  | 262 => [.one (.str)]
  | 263 => [.one (.int .i64), .one (.nl .nili)]
  | 264 => [.one (.str)]
  | 265 => [.one (.int .i64), .one (.nl .nili)]
  | 266 => [.one (.str)]
  | 267 => [.one (.int .i64), .one (.nl .nili)]
  | 268 => [.one (.int .i64), .one (.nl .nili)]
  | 269 => [.one (.int .i64), .one (.nl .nili)]
  | 270 => [.one (.int .i64), .one (.nl .nili)]
  | 271 => [.one (.int .i64), .one (.nl .nili)]
  | 272 => []
  | 273 => []
  | 274 => []
  | 275 => []
  | 276 => []
  | _ => []
def borF : Nat → Bool
  | 23 => true
  | 112 => true
  | 111 => true
  | 149 => true
  | 178 => true
  | 77 => true
  | 78 => true
  | 105 => true
  | 106 => true
  | 110 => true
  | 134 => true
  | 136 => true
  | 137 => true
  | 138 => true
  | 139 => true
  | 140 => true
  | 141 => true
  | 142 => true
  | 144 => true
  | 145 => true
  | 150 => true
  | 170 => true
  | 172 => true
  | 174 => true
  | 175 => true
  | 176 => true
  | 179 => true
  | 190 => true
  | 191 => true
  | 192 => true
  | 193 => true
  | 194 => true
  | 195 => true
  | 196 => true
  | 197 => true
  | 199 => true
  | 200 => true
  | 201 => true
  | 202 => true
  | 203 => true
  | 204 => true
  | 205 => true
  | 207 => true
  | 208 => true
  | 221 => true
  | 222 => true
  | 223 => true
  | 225 => true
  | 226 => true
  | 227 => true
  | 236 => true
  | 237 => true
  | _ => false
def newsF : Nat → Nat
  | 112 => 1
  | 111 => 1
  | 149 => 1
  | 178 => 1
  | _ => 0
instance : Dr := ⟨⟨False⟩⟩
def C0 : Cfg := { ty := tysOf tyl, M := fun _ _ => .fail, sig := sigF, glob := fun _ => .undef, keep := fun _ => none, nb := 0, bor := borF, news := newsF, MM := fun _ _ _ => .fail }
theorem cfg0 : CfgOk Tryz.prog C0 := cfgOk_tys rfl (by kernel_rfl)
theorem mix : Tryz.prog.follows .mixedOrders = true := by kernel_rfl
end Go.Proofs.EV.PL
set_option linter.unusedVariables false
set_option linter.unusedSimpArgs false
/-! Dice: what they are, in both packages. -/
namespace Go.Proofs.EV.PL
open Go Go.Proofs Go.Proofs.EV Sp
/-! spec_l1In -/
noncomputable def spec_l1In.cfg : Cfg := { C0 with keep := fun _ => none, nb := 0, M := tabM [], MM := tabB [] }
noncomputable def spec_l1In.res (n : Nat) (a0 : Int) (a1 : Int) (a2 : Int) : Option (List Q) :=
  bif decide (a0 ≥ a1) then some [Q.one (D.bool (decide (a0 ≤ a2)))] else some [Q.one (D.bool false)]
theorem spec_l1In.run (n : Nat) (a0 : Int) (a1 : Int) (a2 : Int) :
    run1 spec_l1In.cfg [RK.one LK.bool] n Tryz.f58 [Q.one (D.int IntKind.i64 a0), Q.one (D.int IntKind.i64 a1), Q.one (D.int IntKind.i64 a2)] = spec_l1In.res n a0 a1 a2 := by kernel_rfl
theorem spec_l1In.ev {n : Nat} {a0 : Int} {a1 : Int} {a2 : Int} {r : List Q} (h : spec_l1In.res n a0 a1 a2 = some r) : Snd Tryz.prog C0 58 [.one (.int .i64 a0), .one (.int .i64 a1), .one (.int .i64 a2)] r :=
  snd_ev (C := spec_l1In.cfg) cfg0 mix rfl rfl rfl rfl rfl .nil .nil rfl Tryz.func58 (by kernel_rfl) (by kernel_rfl) rfl ((spec_l1In.run n a0 a1 a2).trans h)

def spec_l1In.stub : Stub
  | [.one (.int .i64 a), .one (.int .i64 b), .one (.int .i64 c)] => .ret [.one (.bool (Sp.inR a b c))]
  | _ => .fail
theorem spec_l1In.ok : StubOk Tryz.prog C0 58 spec_l1In.stub := by
  intro args res h
  unfold spec_l1In.stub at h
  split at h
  · rename_i a b c
    cases h
    refine spec_l1In.ev (n := 0) ?_
    unfold spec_l1In.res Sp.inR
    by_cases h1 : b ≤ a <;> simp [h1]
  · cases h
/-! impl_in -/
noncomputable def impl_in.cfg : Cfg := { C0 with keep := fun _ => none, nb := 0, M := tabM [], MM := tabB [] }
noncomputable def impl_in.res (n : Nat) (a0 : Int) (a1 : Int) (a2 : Int) : Option (List Q) :=
  bif decide (a1 ≤ a0) then some [Q.one (D.bool (decide (a0 ≤ a2)))] else some [Q.one (D.bool false)]
theorem impl_in.run (n : Nat) (a0 : Int) (a1 : Int) (a2 : Int) :
    run1 impl_in.cfg [RK.one LK.bool] n Tryz.f66 [Q.one (D.int IntKind.i64 a0), Q.one (D.int IntKind.i64 a1), Q.one (D.int IntKind.i64 a2)] = impl_in.res n a0 a1 a2 := by kernel_rfl
theorem impl_in.ev {n : Nat} {a0 : Int} {a1 : Int} {a2 : Int} {r : List Q} (h : impl_in.res n a0 a1 a2 = some r) : Snd Tryz.prog C0 66 [.one (.int .i64 a0), .one (.int .i64 a1), .one (.int .i64 a2)] r :=
  snd_ev (C := impl_in.cfg) cfg0 mix rfl rfl rfl rfl rfl .nil .nil rfl Tryz.func66 (by kernel_rfl) (by kernel_rfl) rfl ((impl_in.run n a0 a1 a2).trans h)

def impl_in.stub : Stub
  | [.one (.int .i64 a), .one (.int .i64 b), .one (.int .i64 c)] => .ret [.one (.bool (Sp.inR a b c))]
  | _ => .fail
theorem impl_in.ok : StubOk Tryz.prog C0 66 impl_in.stub := by
  intro args res h
  unfold impl_in.stub at h
  split at h
  · rename_i a b c
    cases h
    refine impl_in.ev (n := 0) ?_
    unfold impl_in.res Sp.inR
    by_cases h1 : b ≤ a <;> simp [h1]
  · cases h
/-! spec_diFaces -/
/-! impl_Die_faces -/
/-! spec_l1All -/
/-! spec_diGood -/
/-! impl_IsDie_1 -/
noncomputable def impl_IsDie_1.cfg : Cfg := { C0 with keep := fun _ => none, nb := 0, M := tabM [(66, impl_in.stub)], MM := tabB [] }
noncomputable def impl_IsDie_1.res (n : Nat) (a0 : Int) : Option (List Q) :=
  some [Q.one (D.bool !inR a0 (0 : Int) (9 : Int))]
theorem impl_IsDie_1.run (n : Nat) (a0 : Int) :
    run1 impl_IsDie_1.cfg [RK.one LK.bool] n Tryz.f65 [Q.one (D.int IntKind.i64 a0)] = impl_IsDie_1.res n a0 := by kernel_rfl
theorem impl_IsDie_1.ev {n : Nat} {a0 : Int} {r : List Q} (h : impl_IsDie_1.res n a0 = some r) : Snd Tryz.prog C0 65 [.one (.int .i64 a0)] r :=
  snd_ev (C := impl_IsDie_1.cfg) cfg0 mix rfl rfl rfl rfl rfl (.cons impl_in.ok .nil) .nil rfl Tryz.func65 (by kernel_rfl) (by kernel_rfl) rfl ((impl_IsDie_1.run n a0).trans h)

def impl_IsDie_1.stub : Stub
  | [.one (.int .i64 a)] => .ret [.one (.bool (!Sp.inR a 0 9))]
  | _ => .fail
theorem impl_IsDie_1.ok : StubOk Tryz.prog C0 65 impl_IsDie_1.stub := by
  intro args res h
  unfold impl_IsDie_1.stub at h
  split at h
  · cases h; exact impl_IsDie_1.ev (n := 0) rfl
  · cases h
/-! idx_isDie -/
noncomputable def idx_isDie.cfg : Cfg := { C0 with keep := fun | 2 => some [0, 1, 7, 8] | _ => none, nb := 0, M := tabM [(65, impl_IsDie_1.stub)], MM := tabB [] }
noncomputable def idx_isDie.l2 (n : Nat) (m2 : Nat) (l0 : List (List D)) (i1 : Int) (i2 : Int) : Option (List Q) :=
  loopAt idx_isDie.cfg [RK.one (LK.int IntKind.i64)] n Tryz.f86 [1, 0, 1, 0] [] m2 (St.mk [V.one false (D.sl (1 : Nat) l0), V.one false (D.fn (65 : Nat) [] []), V.undef, V.undef, V.undef, V.undef, V.undef, V.one true (D.int IntKind.i64 i1), V.one true (D.int IntKind.i64 i2), V.undef, V.undef, V.undef, V.undef, V.undef, V.undef, V.undef, V.undef, V.undef, V.undef] [])
theorem idx_isDie.l2_eq (n : Nat) (m2 : Nat) (l0 : List (List D)) (i1 : Int) (i2 : Int) :
    idx_isDie.l2 n (m2 + 1) l0 i1 i2 = bif decide (i2 < i1) then bif decide ((0 : Int) ≤ i2) then bif decide (i2 < (↑(List.length l0) : Int)) then Option.bind (Option.bind (some (cellD l0 (Int.toNat i2) (0 : Nat))) (D.int? IntKind.i64)) fun (i1_1 : Int) => bif !inR i1_1 (0 : Int) (9 : Int) then some [Q.one (D.int IntKind.i64 i2)] else idx_isDie.l2 n m2 l0 i1 (IntKind.wrap IntKind.i64 (i2 + (1 : Int))) else none else none else some [Q.one (D.int IntKind.i64 (-1 : Int))] := by kernel_rfl
noncomputable def idx_isDie.res (n : Nat) (a0 : List (List D)) : Option (List Q) :=
  idx_isDie.l2 n n a0 (↑(List.length a0) : Int) (0 : Int)
theorem idx_isDie.run (n : Nat) (a0 : List (List D)) :
    run1 idx_isDie.cfg [RK.one (LK.int IntKind.i64)] n Tryz.f86 [Q.one (D.sl (1 : Nat) a0), Q.one (D.fn (65 : FuncId) [] [])] = idx_isDie.res n a0 := by kernel_rfl
theorem idx_isDie.ev {n : Nat} {a0 : List (List D)} {r : List Q} (h : idx_isDie.res n a0 = some r) : Snd Tryz.prog C0 86 [.one (.sl 1 a0), .one (.fn 65 [] [])] r :=
  snd_ev (C := idx_isDie.cfg) cfg0 mix rfl rfl rfl rfl rfl (.cons impl_IsDie_1.ok .nil) .nil rfl Tryz.func86 (by kernel_rfl) (by kernel_rfl) rfl ((idx_isDie.run n a0).trans h)

theorem idx_isDie.loop {n : Nat} {l : List Int} (hl : l.length ≤ LIM) : ∀ (d k m : Nat), k + d = l.length → d < m → idx_isDie.l2 n m (intC.encs l) l.length k = some [Q.one (.int .i64 (Sp.idxFrom (fun x => !Sp.inR x 0 9) (l.drop k) k))] := by
  intro d
  induction d with
  | zero =>
    intro k m hk hm
    obtain ⟨m, rfl⟩ : ∃ m', m = m' + 1 := ⟨m - 1, by omega⟩
    obtain rfl : k = l.length := by omega
    simp [idx_isDie.l2_eq, Sp.idxFrom]
  | succ d ih =>
    intro k m hk hm
    obtain ⟨m, rfl⟩ : ∃ m', m = m' + 1 := ⟨m - 1, by omega⟩
    have hlt : k < l.length := by omega
    rw [idx_isDie.l2_eq, List.drop_eq_getElem_cons hlt]
    simp only [Cod.encs_len, Int.ofNat_lt, hlt, decide_true, cond_true, Int.natCast_nonneg, Int.toNat_natCast, intC_int hlt, Option.bind_some, wrap_succ (show k ≤ LIM by omega), ih (k + 1) m (by omega) (by omega), Sp.idxFrom]
    rcases Bool.eq_false_or_eq_true ((fun x => !Sp.inR x 0 9) l[k]) with h | h <;> (try dsimp only at h) <;> simp only [h, cond_true, cond_false, Die.eta]
def idx_isDie.stub : Stub
  | [.one (.sl 1 es), .one (.fn 65 [] [])] => .any (intC.decs es) fun l => .ret [.one (.int .i64 (Sp.idxFrom (fun x => !Sp.inR x 0 9) l 0))]
  | _ => .fail
theorem idx_isDie.ok : StubOk Tryz.prog C0 86 idx_isDie.stub := by
  intro args res h
  unfold idx_isDie.stub at h
  split at h
  · obtain ⟨l, h1, h2⟩ := any_out h
    obtain ⟨rfl, hl⟩ := Cod.decs_inv h1
    cases h2
    refine idx_isDie.ev (n := l.length + 1) ?_
    unfold idx_isDie.res
    simpa using idx_isDie.loop (n := l.length + 1) hl l.length 0 (l.length + 1) (by omega) (by omega)
  · cases h
/-! con_isDie -/
noncomputable def con_isDie.cfg : Cfg := { C0 with keep := fun _ => none, nb := 0, M := tabM [(86, idx_isDie.stub)], MM := tabB [] }
noncomputable def con_isDie.res (n : Nat) (a0 : List (List D)) : Option (List Q) :=
  Option.bind (Cod.decs intC a0) fun (l1 : List Int) => some [Q.one (D.bool (decide (idxFrom (fun (x : Int) => !inR x (0 : Int) (9 : Int)) l1 (0 : Nat) ≥ (0 : Int))))]
theorem con_isDie.run (n : Nat) (a0 : List (List D)) :
    run1 con_isDie.cfg [RK.one LK.bool] n Tryz.f63 [Q.one (D.sl (1 : Nat) a0), Q.one (D.fn (65 : FuncId) [] [])] = con_isDie.res n a0 := by kernel_rfl
theorem con_isDie.ev {n : Nat} {a0 : List (List D)} {r : List Q} (h : con_isDie.res n a0 = some r) : Snd Tryz.prog C0 63 [.one (.sl 1 a0), .one (.fn 65 [] [])] r :=
  snd_ev (C := con_isDie.cfg) cfg0 mix rfl rfl rfl rfl rfl (.cons idx_isDie.ok .nil) .nil rfl Tryz.func63 (by kernel_rfl) (by kernel_rfl) rfl ((con_isDie.run n a0).trans h)

def con_isDie.stub : Stub
  | [.one (.sl 1 es), .one (.fn 65 [] [])] => .any (intC.decs es) fun l => .ret [.one (.bool (Sp.anyB (fun x => !Sp.inR x 0 9) l))]
  | _ => .fail
theorem con_isDie.ok : StubOk Tryz.prog C0 63 con_isDie.stub := by
  intro args res h
  unfold con_isDie.stub at h
  split at h
  · obtain ⟨l, h1, h2⟩ := any_out h
    obtain ⟨rfl, hl⟩ := Cod.decs_inv h1
    cases h2
    refine con_isDie.ev (n := 0) ?_
    unfold con_isDie.res
    simp only [Cod.decs_encs hl, Option.bind_some]
    rw [Sp.anyB, ← Sp.idxFrom_any l (fun x => !Sp.inR x 0 9) 0]
  · cases h
/-! impl_IsDie -/
end Go.Proofs.EV.PL
set_option linter.unusedVariables false
set_option linter.unusedSimpArgs false
/-! Texts: trimmed, searched, split. -/
namespace Go.Proofs.EV.PL
open Go Go.Proofs Go.Proofs.EV Sp
/-! strings_asciiSet_contains -/
/-! strings_trimLeftASCII -/
theorem byteAt_in (s : ByteArray) (i : Nat) : 0 ≤ byteAt s i ∧ byteAt s i < 256 := by
  unfold byteAt
  have := (s.data.toList.getD i 0).toNat_lt
  omega
/-! strings_trimRightASCII -/
noncomputable def mkc : Cfg := { C0 with nb := 0, M := tabM [], MM := tabB [] }
def mkR (s : ByteArray) : List Q := [.agg ((List.range 256).map fun i => D.bool (Sp.inSet s (i : Nat))), .one (.bool true)]
theorem mkr0 : run1 mkc (C0.sig 118) 20 Tryz.f118 [.one (.str lit0)] = some (mkR lit0) := by kernel_rfl
theorem mkr1 : run1 mkc (C0.sig 118) 20 Tryz.f118 [.one (.str lit1)] = some (mkR lit1) := by kernel_rfl
theorem mkr2 : run1 mkc (C0.sig 118) 20 Tryz.f118 [.one (.str lit2)] = some (mkR lit2) := by kernel_rfl
theorem mkr3 : run1 mkc (C0.sig 118) 20 Tryz.f118 [.one (.str lit3)] = some (mkR lit3) := by kernel_rfl
/-! strings_Trim0 -/
/-! strings_Trim1 -/
/-! strings_Trim2 -/
/-! strings_Trim3 -/
end Go.Proofs.EV.PL
set_option linter.unusedVariables false
set_option linter.unusedSimpArgs false
/-! Texts split; words of rolls. -/
namespace Go.Proofs.EV.PL
open Go Go.Proofs Go.Proofs.EV Sp
def i_bytealg_CountString.stub : Stub
  | [.one (.str s), .one (.int .u8 c)] => .ret [.one (.int .i64 (Sp.ctB s (Sp.toU8 c) : Nat))]
  | _ => .fail
theorem i_bytealg_CountString.ok : StubOk Tryz.prog C0 154 i_bytealg_CountString.stub := by
  intro args res h
  unfold i_bytealg_CountString.stub at h
  split at h
  · rename_i s c
    cases h
    exact countByte_ok Tryz.func154 (by kernel_rfl) rfl rfl rfl rfl s c
  · cases h
def i_bytealg_IndexByteString.stub : Stub
  | [.one (.str s), .one (.int .u8 c)] => .ret [.one (.int .i64 (Sp.ixB s (Sp.toU8 c)))]
  | _ => .fail
theorem i_bytealg_IndexByteString.ok : StubOk Tryz.prog C0 209 i_bytealg_IndexByteString.stub := by
  intro args res h
  unfold i_bytealg_IndexByteString.stub at h
  split at h
  · rename_i s c
    cases h
    exact indexByte_ok Tryz.func209 (by kernel_rfl) rfl rfl rfl rfl s c
  · cases h
/-! i_stringslite_IndexByte -/
noncomputable def i_stringslite_IndexByte.cfg : Cfg := { C0 with keep := fun _ => none, nb := 0, M := tabM [(209, i_bytealg_IndexByteString.stub)], MM := tabB [] }
noncomputable def i_stringslite_IndexByte.res (n : Nat) (a0 : ByteArray) (a1 : Int) : Option (List Q) :=
  some [Q.one (D.int IntKind.i64 (ixB a0 (toU8 a1)))]
theorem i_stringslite_IndexByte.run (n : Nat) (a0 : ByteArray) (a1 : Int) :
    run1 i_stringslite_IndexByte.cfg [RK.one (LK.int IntKind.i64)] n Tryz.f181 [Q.one (D.str a0), Q.one (D.int IntKind.u8 a1)] = i_stringslite_IndexByte.res n a0 a1 := by kernel_rfl
theorem i_stringslite_IndexByte.ev {n : Nat} {a0 : ByteArray} {a1 : Int} {r : List Q} (h : i_stringslite_IndexByte.res n a0 a1 = some r) : Snd Tryz.prog C0 181 [.one (.str a0), .one (.int .u8 a1)] r :=
  snd_ev (C := i_stringslite_IndexByte.cfg) cfg0 mix rfl rfl rfl rfl rfl (.cons i_bytealg_IndexByteString.ok .nil) .nil rfl Tryz.func181 (by kernel_rfl) (by kernel_rfl) rfl ((i_stringslite_IndexByte.run n a0 a1).trans h)

def i_stringslite_IndexByte.stub : Stub
  | [.one (.str s), .one (.int .u8 c)] => .ret [.one (.int .i64 (Sp.ixB s (Sp.toU8 c)))]
  | _ => .fail
theorem i_stringslite_IndexByte.ok : StubOk Tryz.prog C0 181 i_stringslite_IndexByte.stub := by
  intro args res h
  unfold i_stringslite_IndexByte.stub at h
  split at h
  · cases h
    exact i_stringslite_IndexByte.ev (n := 0) rfl
  · cases h
theorem one_byte {t : ByteArray} (h : t.size = 1) : t = ⟨#[hd8 t]⟩ := by
  obtain ⟨⟨l⟩⟩ := t
  match l, h with
  | [c], _ => rfl
theorem byte_one (c : UInt8) : toU8 (byteAt ⟨#[c]⟩ 0) = c := by
  show UInt8.ofNat (Int.toNat (c.toNat : Int)) = c
  rw [Int.toNat_natCast, UInt8.ofNat_toNat]
/-! strings_Count -/
noncomputable def strings_Count.cfg : Cfg := { C0 with keep := fun | 6 => some [0, 1, 5] | _ => none, nb := 0, M := tabM [(154, i_bytealg_CountString.stub)], MM := tabB [] }
noncomputable def strings_Count.res (n : Nat) (a0 : ByteArray) (c : UInt8) : Option (List Q) :=
  some [Q.one (D.int IntKind.i64 (↑(ctB a0 (toU8 (byteAt (ByteArray.mk #[c]) (Int.toNat (0 : Int))))) : Int))]
theorem strings_Count.run (n : Nat) (a0 : ByteArray) (c : UInt8) :
    run1 strings_Count.cfg [RK.one (LK.int IntKind.i64)] n Tryz.f114 [Q.one (D.str a0), Q.one (D.str (ByteArray.mk #[c]))] = strings_Count.res n a0 c := by kernel_rfl
theorem strings_Count.ev {n : Nat} {a0 : ByteArray} {c : UInt8} {r : List Q} (h : strings_Count.res n a0 c = some r) : Snd Tryz.prog C0 114 [.one (.str a0), .one (.str ⟨#[c]⟩)] r :=
  snd_ev (C := strings_Count.cfg) cfg0 mix rfl rfl rfl rfl rfl (.cons i_bytealg_CountString.ok .nil) .nil rfl Tryz.func114 (by kernel_rfl) (by kernel_rfl) rfl ((strings_Count.run n a0 c).trans h)

def strings_Count.stub : Stub
  | [.one (.str s), .one (.str t)] => .gd (decide (t.size = 1)) (.ret [.one (.int .i64 (Sp.ctB s (Sp.hd8 t) : Nat))])
  | _ => .fail
theorem strings_Count.ok : StubOk Tryz.prog C0 114 strings_Count.stub := by
  intro args res h
  unfold strings_Count.stub at h
  split at h
  · rename_i s t
    obtain ⟨h1, h2⟩ := gd_out h
    cases h2
    have h1 := one_byte (of_decide_eq_true h1)
    generalize hd8 t = c at h1 ⊢
    subst h1
    refine strings_Count.ev (n := 0) ?_
    unfold strings_Count.res
    rw [show Int.toNat (0 : Int) = 0 from rfl, byte_one]
  · cases h
/-! i_stringslite_Index -/
noncomputable def i_stringslite_Index.cfg : Cfg := { C0 with keep := fun | 15 => some [0, 1, 5, 6, 7, 8, 9, 10] | _ => none, nb := 0, M := tabM [(181, i_stringslite_IndexByte.stub)], MM := tabB [] }
noncomputable def i_stringslite_Index.res (n : Nat) (a0 : ByteArray) (c : UInt8) : Option (List Q) :=
  bif strEq (ByteArray.mk #[c]) a0 then some [Q.one (D.int IntKind.i64 (0 : Int))] else some [Q.one (D.int IntKind.i64 (ixB a0 (toU8 (byteAt (ByteArray.mk #[c]) (Int.toNat (0 : Int))))))]
theorem i_stringslite_Index.run (n : Nat) (a0 : ByteArray) (c : UInt8) :
    run1 i_stringslite_Index.cfg [RK.one (LK.int IntKind.i64)] n Tryz.f155 [Q.one (D.str a0), Q.one (D.str (ByteArray.mk #[c]))] = i_stringslite_Index.res n a0 c := by kernel_rfl
theorem i_stringslite_Index.ev {n : Nat} {a0 : ByteArray} {c : UInt8} {r : List Q} (h : i_stringslite_Index.res n a0 c = some r) : Snd Tryz.prog C0 155 [.one (.str a0), .one (.str ⟨#[c]⟩)] r :=
  snd_ev (C := i_stringslite_Index.cfg) cfg0 mix rfl rfl rfl rfl rfl (.cons i_stringslite_IndexByte.ok .nil) .nil rfl Tryz.func155 (by kernel_rfl) (by kernel_rfl) rfl ((i_stringslite_Index.run n a0 c).trans h)

def i_stringslite_Index.stub : Stub
  | [.one (.str s), .one (.str t)] => .gd (decide (t.size = 1)) (.ret [.one (.int .i64 (Sp.ixB s (Sp.hd8 t)))])
  | _ => .fail
theorem i_stringslite_Index.ok : StubOk Tryz.prog C0 155 i_stringslite_Index.stub := by
  intro args res h
  unfold i_stringslite_Index.stub at h
  split at h
  · rename_i s t
    obtain ⟨h1, h2⟩ := gd_out h
    cases h2
    have h1 := one_byte (of_decide_eq_true h1)
    generalize hd8 t = c at h1 ⊢
    subst h1
    refine i_stringslite_Index.ev (n := 0) ?_
    unfold i_stringslite_Index.res
    rw [show Int.toNat (0 : Int) = 0 from rfl, byte_one]
    cases hs : strEq ⟨#[c]⟩ s with
    | false => rfl
    | true =>
      obtain rfl := strEq_eq hs
      have : ixB ⟨#[c]⟩ c = 0 := by
        show (if c == c then (0 : Int) else _) = 0
        simp
      rw [this]; rfl
  · cases h
/-! strings_Index -/
noncomputable def strings_Index.cfg : Cfg := { C0 with keep := fun _ => none, nb := 0, M := tabM [(155, i_stringslite_Index.stub)], MM := tabB [] }
noncomputable def strings_Index.res (n : Nat) (a0 : ByteArray) (a1 : ByteArray) : Option (List Q) :=
  bif decide (ByteArray.size a1 = (1 : Nat)) then some [Q.one (D.int IntKind.i64 (ixB a0 (hd8 a1)))] else none
theorem strings_Index.run (n : Nat) (a0 : ByteArray) (a1 : ByteArray) :
    run1 strings_Index.cfg [RK.one (LK.int IntKind.i64)] n Tryz.f115 [Q.one (D.str a0), Q.one (D.str a1)] = strings_Index.res n a0 a1 := by kernel_rfl
theorem strings_Index.ev {n : Nat} {a0 : ByteArray} {a1 : ByteArray} {r : List Q} (h : strings_Index.res n a0 a1 = some r) : Snd Tryz.prog C0 115 [.one (.str a0), .one (.str a1)] r :=
  snd_ev (C := strings_Index.cfg) cfg0 mix rfl rfl rfl rfl rfl (.cons i_stringslite_Index.ok .nil) .nil rfl Tryz.func115 (by kernel_rfl) (by kernel_rfl) rfl ((strings_Index.run n a0 a1).trans h)

def strings_Index.stub : Stub
  | [.one (.str s), .one (.str t)] => .gd (decide (t.size = 1)) (.ret [.one (.int .i64 (Sp.ixB s (Sp.hd8 t)))])
  | _ => .fail
theorem strings_Index.ok : StubOk Tryz.prog C0 115 strings_Index.stub := by
  intro args res h
  unfold strings_Index.stub at h
  split at h
  · rename_i s t
    obtain ⟨h1, h2⟩ := gd_out h
    cases h2
    refine strings_Index.ev (n := 0) ?_
    unfold strings_Index.res
    rw [h1]; rfl
  · cases h
/-! strings_genSplit -/
noncomputable def strings_genSplit.cfg : Cfg := { C0 with keep := fun | 11 => some [0, 1, 2, 3, 9, 10] | _ => none, nb := 0, M := tabM [(114, strings_Count.stub), (115, strings_Index.stub)], MM := tabB [] }
noncomputable def strings_genSplit.l11 (n : Nat) (m11 : Nat) (s0 : ByteArray) (s1 : ByteArray) (i2 : Int) (i3 : Int) (i4 : Int) (l5 : List (List D)) : Option (List Q) :=
  loopAt strings_genSplit.cfg [RK.own (1 : Nat)] n Tryz.f83 [1, 1, 1, 1, 1, 1, 1, 1, 0, 0] [] m11 (St.mk [V.one true (D.str s0), V.one true (D.str s1), V.one true (D.int IntKind.i64 i2), V.one true (D.int IntKind.i64 i3), V.undef, V.undef, V.undef, V.undef, V.undef, V.rw (0 : Nat), V.one true (D.int IntKind.i64 i4), V.undef, V.undef, V.undef, V.undef, V.undef, V.undef, V.undef, V.undef, V.undef, V.undef, V.undef, V.undef, V.undef, V.undef, V.undef, V.undef, V.undef, V.undef, V.undef, V.undef, V.undef, V.undef, V.undef, V.undef, V.undef, V.undef, V.undef, V.undef, V.undef, V.undef, V.undef, V.undef, V.undef, V.undef, V.undef, V.undef, V.undef, V.undef, V.undef, V.undef, V.undef, V.undef, V.undef, V.undef, V.undef, V.undef, V.undef, V.undef, V.undef, V.undef, V.undef, V.undef, V.undef, V.undef, V.undef] [Ob.row false (1 : Nat) l5])
theorem strings_genSplit.l11_eq (n : Nat) (m11 : Nat) (s0 : ByteArray) (s1 : ByteArray) (i2 : Int) (i3 : Int) (i4 : Int) (l5 : List (List D)) :
    strings_genSplit.l11 n (m11 + 1) s0 s1 i2 i3 i4 l5 = bif decide (i4 < i3) then bif decide (ByteArray.size s1 = (1 : Nat)) then bif decide (ixB s0 (hd8 s1) < (0 : Int)) then bif decide ((0 : Int) ≤ i4) then bif decide (i4 < (↑(List.length l5) : Int)) then bif decide ((0 : Int) ≤ IntKind.wrap IntKind.i64 (i4 + (1 : Int))) then bif decide (IntKind.wrap IntKind.i64 (i4 + (1 : Int)) ≤ (↑(List.length (setRow (1 : Nat) l5 (Int.toNat i4) (0 : Nat) [D.str s0])) : Int)) then some [Q.one (D.sl (1 : Nat) (List.take (Int.toNat (IntKind.wrap IntKind.i64 (i4 + (1 : Int))) - (0 : Nat)) (setRow (1 : Nat) l5 (Int.toNat i4) (0 : Nat) [D.str s0])))] else none else none else none else none else bif decide ((0 : Int) ≤ IntKind.wrap IntKind.i64 (ixB s0 (hd8 s1) + i2)) then bif decide (IntKind.wrap IntKind.i64 (ixB s0 (hd8 s1) + i2) ≤ (↑(ByteArray.size s0) : Int)) then bif decide ((0 : Int) ≤ i4) then bif decide (i4 < (↑(List.length l5) : Int)) then bif decide ((0 : Int) ≤ IntKind.wrap IntKind.i64 (ixB s0 (hd8 s1) + (↑(ByteArray.size s1) : Int))) then bif decide (IntKind.wrap IntKind.i64 (ixB s0 (hd8 s1) + (↑(ByteArray.size s1) : Int)) ≤ (↑(ByteArray.size s0) : Int)) then strings_genSplit.l11 n m11 (ByteArray.extract s0 (Int.toNat (IntKind.wrap IntKind.i64 (ixB s0 (hd8 s1) + (↑(ByteArray.size s1) : Int)))) (ByteArray.size s0)) s1 i2 i3 (IntKind.wrap IntKind.i64 (i4 + (1 : Int))) (setRow (1 : Nat) l5 (Int.toNat i4) (0 : Nat) [D.str (ByteArray.extract s0 (0 : Nat) (Int.toNat (IntKind.wrap IntKind.i64 (ixB s0 (hd8 s1) + i2))))]) else none else none else none else none else none else none else none else bif decide ((0 : Int) ≤ i4) then bif decide (i4 < (↑(List.length l5) : Int)) then bif decide ((0 : Int) ≤ IntKind.wrap IntKind.i64 (i4 + (1 : Int))) then bif decide (IntKind.wrap IntKind.i64 (i4 + (1 : Int)) ≤ (↑(List.length (setRow (1 : Nat) l5 (Int.toNat i4) (0 : Nat) [D.str s0])) : Int)) then some [Q.one (D.sl (1 : Nat) (List.take (Int.toNat (IntKind.wrap IntKind.i64 (i4 + (1 : Int))) - (0 : Nat)) (setRow (1 : Nat) l5 (Int.toNat i4) (0 : Nat) [D.str s0])))] else none else none else none else none := by kernel_rfl
noncomputable def strings_genSplit.res (n : Nat) (a0 : ByteArray) (c : UInt8) : Option (List Q) :=
  bif decide ((0 : Int) ≤ min (IntKind.wrap IntKind.i64 ((↑(ctB a0 (hd8 (ByteArray.mk #[c]))) : Int) + (1 : Int))) (IntKind.wrap IntKind.i64 ((↑(ByteArray.size a0) : Int) + (1 : Int)))) then bif decide (min (IntKind.wrap IntKind.i64 ((↑(ctB a0 (hd8 (ByteArray.mk #[c]))) : Int) + (1 : Int))) (IntKind.wrap IntKind.i64 ((↑(ByteArray.size a0) : Int) + (1 : Int))) ≤ min (IntKind.wrap IntKind.i64 ((↑(ctB a0 (hd8 (ByteArray.mk #[c]))) : Int) + (1 : Int))) (IntKind.wrap IntKind.i64 ((↑(ByteArray.size a0) : Int) + (1 : Int)))) then bif decide (min (IntKind.wrap IntKind.i64 ((↑(ctB a0 (hd8 (ByteArray.mk #[c]))) : Int) + (1 : Int))) (IntKind.wrap IntKind.i64 ((↑(ByteArray.size a0) : Int) + (1 : Int))) ≤ (17179869184 : Int)) then strings_genSplit.l11 n n a0 (ByteArray.mk #[c]) (0 : Int) (IntKind.wrap IntKind.i64 (min (IntKind.wrap IntKind.i64 ((↑(ctB a0 (hd8 (ByteArray.mk #[c]))) : Int) + (1 : Int))) (IntKind.wrap IntKind.i64 ((↑(ByteArray.size a0) : Int) + (1 : Int))) - (1 : Int))) (0 : Int) (List.replicate (Int.toNat (min (IntKind.wrap IntKind.i64 ((↑(ctB a0 (hd8 (ByteArray.mk #[c]))) : Int) + (1 : Int))) (IntKind.wrap IntKind.i64 ((↑(ByteArray.size a0) : Int) + (1 : Int))))) [D.str (ByteArray.mk #[])]) else none else none else none
theorem strings_genSplit.run (n : Nat) (a0 : ByteArray) (c : UInt8) :
    run1 strings_genSplit.cfg [RK.own (1 : Nat)] n Tryz.f83 [Q.one (D.str a0), Q.one (D.str (ByteArray.mk #[c])), Q.one (D.int IntKind.i64 (0 : Int)), Q.one (D.int IntKind.i64 (-1 : Int))] = strings_genSplit.res n a0 c := by kernel_rfl
theorem strings_genSplit.ev {n : Nat} {a0 : ByteArray} {c : UInt8} {r : List Q} (h : strings_genSplit.res n a0 c = some r) : Snd Tryz.prog C0 83 [.one (.str a0), .one (.str ⟨#[c]⟩), .one (.int .i64 0), .one (.int .i64 (-1))] r :=
  snd_ev (C := strings_genSplit.cfg) cfg0 mix rfl rfl rfl rfl rfl (.cons strings_Count.ok (.cons strings_Index.ok .nil)) .nil rfl Tryz.func83 (by kernel_rfl) (by kernel_rfl) rfl ((strings_genSplit.run n a0 c).trans h)

theorem strings_genSplit.l11_run {n : Nat} {c : UInt8} {t : ByteArray} (ht : t.size = 1) (hc : hd8 t = c) : ∀ (d m : Nat) (s : ByteArray) (done : List ByteArray) (k : Nat), s.size ≤ d → d < m → s.size ≤ LIM → done.length + s.size ≤ LIM → k + 1 = (spl c (bl s)).length →
    strings_genSplit.l11 n m s t 0 ((done.length + k : Nat) : Int) (done.length : Int) (strC.encs (done ++ List.replicate (k + 1) ⟨#[]⟩)) = some [Q.one (.sl 1 (strC.encs (done ++ (spl c (bl s)).map mkB)))] := by
  intro d
  induction d with
  | zero =>
    intro m s done k hd hm hl hl2 hk
    obtain ⟨m, rfl⟩ : ∃ m', m = m' + 1 := ⟨m - 1, by omega⟩
    have hs : bl s = [] := List.eq_nil_of_length_eq_zero (by rw [bl_len]; omega)
    rw [hs] at hk ⊢
    obtain rfl : k = 0 := by simpa [spl] using hk
    have h1 : ¬ ((done.length : Nat) : Int) < ((done.length + 0 : Nat) : Int) := by omega
    have h2 : ((done.length : Nat) : Int) < ((done.length + (0 + 1) : Nat) : Int) := by omega
    have hss : s = mkB [] := by rw [← mkB_bl s, hs]
    rw [strings_genSplit.l11_eq]
    simp only [h1, h2, decide_false, cond_false, decide_true, cond_true, wrap_succ (show done.length ≤ LIM by omega), Int.natCast_nonneg, Int.toNat_natCast, strC_set, set_fill, Cod.encs_len, List.length_append, List.length_singleton, List.length_replicate, List.replicate_zero, List.append_nil, Nat.le_refl, Nat.sub_zero, Cod.encs_take, Int.le_refl]
    rw [List.take_of_length_le (by simp), hss]
    rfl
  | succ d ih =>
    intro m s done k hd hm hl hl2 hk
    obtain ⟨m, rfl⟩ : ∃ m', m = m' + 1 := ⟨m - 1, by omega⟩
    rcases idx_spl c (bl s) with ⟨e1, e2⟩ | ⟨j, e1, e2, e3⟩
    · rw [e2] at hk ⊢
      obtain rfl : k = 0 := by simpa using hk
      have h1 : ¬ ((done.length : Nat) : Int) < ((done.length + 0 : Nat) : Int) := by omega
      have h2 : ((done.length : Nat) : Int) < ((done.length + (0 + 1) : Nat) : Int) := by omega
      rw [strings_genSplit.l11_eq]
      simp only [h1, h2, decide_false, cond_false, decide_true, cond_true, wrap_succ (show done.length ≤ LIM by omega), Int.natCast_nonneg, Int.toNat_natCast, strC_set, set_fill, Cod.encs_len, List.length_append, List.length_singleton, List.length_replicate, List.replicate_zero, List.append_nil, Nat.le_refl, Nat.sub_zero, Cod.encs_take, Int.le_refl]
      rw [List.take_of_length_le (by simp)]
      simp only [List.map_cons, List.map_nil, mkB_bl]
    · rw [e3] at hk ⊢
      rw [bl_len] at e2
      rw [List.length_cons] at hk
      obtain ⟨k, rfl⟩ : ∃ k', k = k' + 1 := ⟨k - 1, by have := spl_count c ((bl s).drop (j + 1)); omega⟩
      have h1 : ((done.length : Nat) : Int) < ((done.length + (k + 1) : Nat) : Int) := by omega
      have h2 : ((done.length : Nat) : Int) < ((done.length + (k + 1 + 1) : Nat) : Int) := by omega
      have hix : ixB s c = (j : Int) := e1
      have h3 : ¬ ((j : Nat) : Int) < 0 := by omega
      have hw : IntKind.wrap .i64 ((j : Int) + 0) = (j : Int) := by unfold LIM at hl; rw [wrap_in (by omega) (by omega)]; omega
      have hw2 : IntKind.wrap .i64 ((j : Int) + ((1 : Nat) : Int)) = ((j + 1 : Nat) : Int) := by unfold LIM at hl; rw [wrap_in (by omega) (by omega)]; omega
      have h4 : ((j : Nat) : Int) ≤ ((s.size : Nat) : Int) := by omega
      have h5 : ((j + 1 : Nat) : Int) ≤ ((s.size : Nat) : Int) := by omega
      have hsz : (s.extract (j + 1) s.size).size = s.size - (j + 1) := by rw [ByteArray.size_extract]; omega
      have hb : bl (s.extract (j + 1) s.size) = (bl s).drop (j + 1) := by rw [bl_ext, List.take_of_length_le (by rw [List.length_drop, bl_len]; omega)]
      have step := ih m (s.extract (j + 1) s.size) (done ++ [mkB ((bl s).take j)]) k (by omega) (by omega) (by omega) (by rw [List.length_append, List.length_singleton]; omega) (by rw [hb]; omega)
      rw [hb, List.length_append, List.length_singleton, show done.length + 1 + k = done.length + (k + 1) by omega] at step
      rw [strings_genSplit.l11_eq]
      simp only [ht, hc, hix, h1, h2, h3, h4, h5, hw, hw2, decide_false, cond_false, decide_true, cond_true, wrap_succ (show done.length ≤ LIM by omega), Int.natCast_nonneg, Int.toNat_natCast, strC_set, set_fill, Cod.encs_len, List.length_append, List.length_replicate, show s.extract 0 j = mkB ((bl s).take j) from by rw [ext_mkB, List.drop_zero, Nat.sub_zero], step]
      rw [List.map_cons, List.append_assoc]; rfl
def strings_genSplit.stub : Stub
  | [.one (.str s), .one (.str t), .one (.int .i64 a), .one (.int .i64 b)] => .gd (decide (a = 0)) (.gd (decide (b = -1)) (.gd (decide (t.size = 1)) (.gd (decide (s.size < LIM)) (.ret [.one (.sl 1 (strC.encs (Sp.rowsB (Sp.hd8 t) s)))]))))
  | _ => .fail
theorem strings_genSplit.ok : StubOk Tryz.prog C0 83 strings_genSplit.stub := by
  intro args res h
  unfold strings_genSplit.stub at h
  split at h
  · rename_i s t a b
    obtain ⟨h1, h⟩ := gd_out h
    obtain ⟨h2, h⟩ := gd_out h
    obtain ⟨h3, h⟩ := gd_out h
    obtain ⟨h4, h⟩ := gd_out h
    cases h
    obtain rfl := of_decide_eq_true h1
    obtain rfl := of_decide_eq_true h2
    have h3 := of_decide_eq_true h3
    have h4 := of_decide_eq_true h4
    have h5 := one_byte h3
    have hcc : hd8 t = hd8 t := rfl
    generalize hd8 t = c at h5 ⊢
    subst h5
    have hcc : hd8 ⟨#[c]⟩ = c := rfl
    refine strings_genSplit.ev (n := s.size + 1) ?_
    have hct : ctB s c ≤ s.size := by unfold ctB; rw [← bl_len]; exact List.count_le_length
    have hsp : ctB s c + 1 = (spl c (bl s)).length := (spl_count c (bl s)).symm
    have hmin : min (IntKind.wrap .i64 ((ctB s c : Int) + 1)) (IntKind.wrap .i64 ((s.size : Int) + 1)) = ((ctB s c + 1 : Nat) : Int) := by
      rw [wrap_succ (by omega), wrap_succ (by omega)]; omega
    have hw : IntKind.wrap .i64 (((ctB s c + 1 : Nat) : Int) - 1) = ((ctB s c : Nat) : Int) := by unfold LIM at h4; rw [wrap_in (by omega) (by omega)]; omega
    have hl : ((ctB s c + 1 : Nat) : Int) ≤ 17179869184 := by unfold LIM at h4; omega
    have key := strings_genSplit.l11_run (n := s.size + 1) h3 hcc s.size (s.size + 1) s [] (ctB s c) (Nat.le_refl _) (by omega) (by omega) (by simp; omega) hsp
    unfold strings_genSplit.res
    simp only [hcc, hmin, hw, hl, Int.natCast_nonneg, Int.le_refl, decide_true, cond_true, Int.toNat_natCast, strC_rep]
    rw [show rowsB c s = (spl c (bl s)).map mkB from rfl]
    simpa using key
  · cases h
/-! strings_Split -/
noncomputable def strings_Split.cfg : Cfg := { C0 with keep := fun _ => none, nb := 0, M := tabM [(83, strings_genSplit.stub)], MM := tabB [] }
noncomputable def strings_Split.res (n : Nat) (a0 : ByteArray) (a1 : ByteArray) : Option (List Q) :=
  bif decide (ByteArray.size a1 = (1 : Nat)) then bif decide (ByteArray.size a0 < (17179869184 : Nat)) then some [Q.one (D.sl (1 : Nat) (Cod.encs strC (rowsB (hd8 a1) a0)))] else none else none
theorem strings_Split.run (n : Nat) (a0 : ByteArray) (a1 : ByteArray) :
    run1 strings_Split.cfg [RK.own (1 : Nat)] n Tryz.f54 [Q.one (D.str a0), Q.one (D.str a1)] = strings_Split.res n a0 a1 := by kernel_rfl
theorem strings_Split.ev {n : Nat} {a0 : ByteArray} {a1 : ByteArray} {r : List Q} (h : strings_Split.res n a0 a1 = some r) : Snd Tryz.prog C0 54 [.one (.str a0), .one (.str a1)] r :=
  snd_ev (C := strings_Split.cfg) cfg0 mix rfl rfl rfl rfl rfl (.cons strings_genSplit.ok .nil) .nil rfl Tryz.func54 (by kernel_rfl) (by kernel_rfl) rfl ((strings_Split.run n a0 a1).trans h)

def strings_Split.stub : Stub
  | [.one (.str s), .one (.str t)] => .gd (decide (t.size = 1)) (.gd (decide (s.size < LIM)) (.ret [.one (.sl 1 (strC.encs (Sp.rowsB (Sp.hd8 t) s)))]))
  | _ => .fail
theorem strings_Split.ok : StubOk Tryz.prog C0 54 strings_Split.stub := by
  intro args res h
  unfold strings_Split.stub at h
  split at h
  · rename_i s t
    obtain ⟨h1, h⟩ := gd_out h
    obtain ⟨h2, h⟩ := gd_out h
    cases h
    refine strings_Split.ev (n := 0) ?_
    unfold strings_Split.res
    have h2 : s.size < 17179869184 := of_decide_eq_true h2
    simp only [of_decide_eq_true h1, h2, decide_true, cond_true]
  · cases h
/-! spec_diDirs -/
end Go.Proofs.EV.PL
set_option linter.unusedVariables false
set_option linter.unusedSimpArgs false
/-! Boards read by the program. -/
namespace Go.Proofs.EV.PL
open Go Go.Proofs Go.Proofs.EV Sp
end Go.Proofs.EV.PL
set_option linter.unusedVariables false
set_option linter.unusedSimpArgs false
/-! Boards read by the reference. -/
namespace Go.Proofs.EV.PL
open Go Go.Proofs Go.Proofs.EV Sp
end Go.Proofs.EV.PL
set_option linter.unusedVariables false
set_option linter.unusedSimpArgs false
/-! Boards read by the reference. -/
namespace Go.Proofs.EV.PL
open Go Go.Proofs Go.Proofs.EV Sp
end Go.Proofs.EV.PL
set_option linter.unusedVariables false
set_option linter.unusedSimpArgs false
/-! Boards read by the reference. -/
namespace Go.Proofs.EV.PL
open Go Go.Proofs Go.Proofs.EV Sp
end Go.Proofs.EV.PL
set_option linter.unusedVariables false
set_option linter.unusedSimpArgs false
/-! States on boards; desks; puzzles. -/
namespace Go.Proofs.EV.PL
open Go Go.Proofs Go.Proofs.EV Sp
theorem szNeg (k : Nat) : decide ((bif decide (k ≤ 1048576) then (1048576 - (k : Int)) else -1) < 0) = !decide (k ≤ 1048576) := by
  by_cases h : k ≤ 1048576
  · simp only [h, decide_true, cond_true, Bool.not_true, decide_eq_false_iff_not]
    omega
  · simp only [h, decide_false, cond_false, Bool.not_false, decide_eq_true_eq]
    omega
theorem inR_out {x a b : Int} (h : inR x a b = true) : a ≤ x ∧ x ≤ b := by
  unfold inR at h
  simpa only [Bool.and_eq_true, decide_eq_true_eq] using h
/-! laws_toDie -/
end Go.Proofs.EV.PL
namespace Go.Proofs
open Go.Shelf
def Tryz.strJoin_ren : Go.Shelf.Ren := ⟨fun | 156 => 69 | 165 => 94 | 166 => 95 | 169 => 96 | 240 => 128 | 241 => 129 | 276 => 162 | 277 => 163 | n => n, fun | 31 => 33 | 9 => 9 | 3 => 3 | 4 => 4 | 0 => 0 | 20 => 20 | 72 => 117 | 76 => 121 | 70 => 115 | 37 => 39 | 75 => 120 | 127 => 168 | 164 => 193 | 5 => 5 | 80 => 77 | n => n, fun | n => n⟩
theorem Tryz.strJoin : Go.Proofs.Lays.n156 Tryz.prog Tryz.strJoin_ren := {
  mixed := by kernel_rfl
  f156 := Tryz.func69.trans (congrArg some (by kernel_rfl))
  f165 := Tryz.func94.trans (congrArg some (by kernel_rfl))
  f166 := Tryz.func95.trans (congrArg some (by kernel_rfl))
  f169 := Tryz.func96.trans (congrArg some (by kernel_rfl))
  f240 := Tryz.func128.trans (congrArg some (by kernel_rfl))
  f241 := Tryz.func129.trans (congrArg some (by kernel_rfl))
  f276 := Tryz.func162.trans (congrArg some (by kernel_rfl))
  f277 := Tryz.func163.trans (congrArg some (by kernel_rfl))
  t0 := Tryz.underlying0
  a0 := Tryz.isAgg0
  z0 := Tryz.sizeOf0
  v0 := Tryz.zeroValue0
  t3 := Tryz.underlying3
  a3 := Tryz.isAgg3
  z3 := Tryz.sizeOf3
  v3 := Tryz.zeroValue3
  t4 := Tryz.underlying4
  a4 := Tryz.isAgg4
  z4 := Tryz.sizeOf4
  v4 := Tryz.zeroValue4
  t9 := Tryz.underlying9
  a9 := Tryz.isAgg9
  z9 := Tryz.sizeOf9
  v9 := Tryz.zeroValue9
  t20 := Tryz.underlying20
  a20 := Tryz.isAgg20
  z20 := Tryz.sizeOf20
  v20 := Tryz.zeroValue20
  t31 := Tryz.underlying33
  a31 := Tryz.isAgg33
  z31 := Tryz.sizeOf33
  v31 := Tryz.zeroValue33
  t37 := Tryz.underlying39
  a37 := Tryz.isAgg39
  z37 := Tryz.sizeOf39
  v37 := Tryz.zeroValue39
  t70 := Tryz.underlying115
  a70 := Tryz.isAgg115
  z70 := Tryz.sizeOf115
  v70 := Tryz.zeroValue115
  t72 := Tryz.underlying117
  a72 := Tryz.isAgg117
  z72 := Tryz.sizeOf117
  v72 := Tryz.zeroValue117
  t75 := Tryz.underlying120
  a75 := Tryz.isAgg120
  z75 := Tryz.sizeOf120
  v75 := Tryz.zeroValue120
  t76 := Tryz.underlying121
  a76 := Tryz.isAgg121
  z76 := Tryz.sizeOf121
  v76 := Tryz.zeroValue121
  t127 := Tryz.underlying168
  a127 := Tryz.isAgg168
  z127 := Tryz.sizeOf168
  v127 := Tryz.zeroValue168
  t164 := Tryz.underlying193
  a164 := Tryz.isAgg193
  z164 := Tryz.sizeOf193
  v164 := Tryz.zeroValue193 }
end Go.Proofs
namespace Go.Proofs
open Go.Shelf
theorem Tryz.strJoin_extra : Builder.Extra Tryz.prog Tryz.strJoin_ren := {
  sizeBuilder := by kernel_rfl
  liesBuilder := by kernel_rfl
  t5 := Tryz.underlying5
  a5 := Tryz.isAgg5
  z5 := Tryz.sizeOf5
  v5 := Tryz.zeroValue5
  infoByte := by kernel_rfl
  cellsByte := by kernel_rfl
  sizeByte := by kernel_rfl
  neB5 := by decide }
end Go.Proofs
set_option linter.unusedVariables false
set_option linter.unusedSimpArgs false
/-! Rows joined. -/
namespace Go.Proofs.EV.PL
open Go Go.Proofs Go.Proofs.EV Sp
def strings_Join.stub : Stub
  | [.one (.sl 1 es), .one (.str t)] => .any (strC.decs es) fun l => .gd (Sp.isSl t) (.gd (decide ((Sp.jn (Sp.lb l)).length ≤ LIM)) (.ret [.one (.str (Sp.mkB (Sp.jn (Sp.lb l))))]))
  | _ => .fail
theorem strings_Join.ok : StubOk Tryz.prog C0 69 strings_Join.stub := by
  intro args res h
  unfold strings_Join.stub at h
  split at h
  · rename_i es t
    obtain ⟨l, h1, h0⟩ := any_out h
    obtain ⟨rfl, hl⟩ := Cod.decs_inv h1
    obtain ⟨h2, h0⟩ := gd_out h0
    obtain ⟨h3, h0⟩ := gd_out h0
    cases h0
    have h3 := of_decide_eq_true h3
    have h2 := of_decide_eq_true h2
    subst h2
    have e : Lib.join (l.map (·.data.toList)) (ByteArray.mk #[47]).data.toList = jn (lb l) := jn_join (lb l)
    have key := join_ok (C := C0) (fun h => h) Tryz.strJoin Tryz.strJoin_extra (f := 69) rfl Tryz.func69 (by kernel_rfl) (by kernel_rfl) rfl l ⟨#[47]⟩ hl (by rw [e]; exact h3)
    rw [e] at key
    exact key
  · cases h
end Go.Proofs.EV.PL
set_option linter.unusedVariables false
set_option linter.unusedSimpArgs false
/-! Boards turned. -/
namespace Go.Proofs.EV.PL
open Go Go.Proofs Go.Proofs.EV Sp
/-! spec_boText -/
noncomputable def spec_boText.cfg : Cfg := { C0 with keep := fun | 3 => some [1, 3, 4] | _ => none, nb := 0, M := tabM [], MM := tabB [] }
noncomputable def spec_boText.l3 (n : Nat) (m3 : Nat) (s0 : ByteArray) (i1 : Int) (i2 : Int) (i3 : Int) (l4 : List (List D)) : Option (List Q) :=
  loopAt spec_boText.cfg [RK.one LK.str] n Tryz.f51 [1, 1, 0, 1, 0] [] m3 (St.mk [V.undef, V.rp (0 : Nat) (0 : Nat), V.undef, V.one true (D.str s0), V.one true (D.int IntKind.i64 i1), V.undef, V.undef, V.undef, V.undef, V.undef, V.undef, V.undef, V.undef, V.undef, V.undef, V.undef, V.undef, V.undef, V.undef, V.undef, V.undef, V.undef, V.undef, V.undef, V.undef, V.undef, V.undef, V.undef, V.undef, V.undef, V.undef] [Ob.box [V.one true (D.int IntKind.i64 i2), V.one true (D.int IntKind.i64 i3), V.one false (D.sl (1 : Nat) l4)]])
theorem spec_boText.l3_eq (n : Nat) (m3 : Nat) (s0 : ByteArray) (i1 : Int) (i2 : Int) (i3 : Int) (l4 : List (List D)) :
    spec_boText.l3 n (m3 + 1) s0 i1 i2 i3 l4 = bif decide (i1 < i3) then bif decide (i1 > (0 : Int)) then bif decide (ByteArray.size s0 + ByteArray.size (ByteArray.mk #[(47 : UInt8)]) ≤ (17179869184 : Nat)) then bif decide ((0 : Int) ≤ IntKind.wrap IntKind.i64 (IntKind.wrap IntKind.i64 (i1 + (1 : Int)) * i2)) then bif decide (IntKind.wrap IntKind.i64 (IntKind.wrap IntKind.i64 (i1 + (1 : Int)) * i2) ≤ (↑(List.length l4) : Int)) then bif decide ((0 : Int) ≤ IntKind.wrap IntKind.i64 (i1 * i2)) then bif decide (IntKind.wrap IntKind.i64 (i1 * i2) ≤ (↑(Int.toNat (IntKind.wrap IntKind.i64 (IntKind.wrap IntKind.i64 (i1 + (1 : Int)) * i2))) : Int)) then Option.bind (Option.map (fun (l : List UInt8) => ByteArray.mk (List.toArray l)) (rowStr? (List.take (Int.toNat (IntKind.wrap IntKind.i64 (IntKind.wrap IntKind.i64 (i1 + (1 : Int)) * i2)) - Int.toNat (IntKind.wrap IntKind.i64 (i1 * i2))) (List.drop (Int.toNat (IntKind.wrap IntKind.i64 (i1 * i2))) l4)))) fun (s1 : ByteArray) => bif decide (ByteArray.size (s0 ++ ByteArray.mk #[(47 : UInt8)]) + ByteArray.size s1 ≤ (17179869184 : Nat)) then spec_boText.l3 n m3 (s0 ++ ByteArray.mk #[(47 : UInt8)] ++ s1) (IntKind.wrap IntKind.i64 (i1 + (1 : Int))) i2 i3 l4 else none else none else none else none else none else none else bif decide ((0 : Int) ≤ IntKind.wrap IntKind.i64 (IntKind.wrap IntKind.i64 (i1 + (1 : Int)) * i2)) then bif decide (IntKind.wrap IntKind.i64 (IntKind.wrap IntKind.i64 (i1 + (1 : Int)) * i2) ≤ (↑(List.length l4) : Int)) then bif decide ((0 : Int) ≤ IntKind.wrap IntKind.i64 (i1 * i2)) then bif decide (IntKind.wrap IntKind.i64 (i1 * i2) ≤ (↑(Int.toNat (IntKind.wrap IntKind.i64 (IntKind.wrap IntKind.i64 (i1 + (1 : Int)) * i2))) : Int)) then Option.bind (Option.map (fun (l : List UInt8) => ByteArray.mk (List.toArray l)) (rowStr? (List.take (Int.toNat (IntKind.wrap IntKind.i64 (IntKind.wrap IntKind.i64 (i1 + (1 : Int)) * i2)) - Int.toNat (IntKind.wrap IntKind.i64 (i1 * i2))) (List.drop (Int.toNat (IntKind.wrap IntKind.i64 (i1 * i2))) l4)))) fun (s2 : ByteArray) => bif decide (ByteArray.size s0 + ByteArray.size s2 ≤ (17179869184 : Nat)) then spec_boText.l3 n m3 (s0 ++ s2) (IntKind.wrap IntKind.i64 (i1 + (1 : Int))) i2 i3 l4 else none else none else none else none else none else some [Q.one (D.str s0)] := by kernel_rfl
noncomputable def spec_boText.res (n : Nat) (a0_0 : Int) (a0_1 : Int) (a0_2 : List (List D)) : Option (List Q) :=
  spec_boText.l3 n n (ByteArray.mk #[]) (0 : Int) a0_0 a0_1 a0_2
theorem spec_boText.run (n : Nat) (a0_0 : Int) (a0_1 : Int) (a0_2 : List (List D)) :
    run1 spec_boText.cfg [RK.one LK.str] n Tryz.f51 [Q.agg [D.int IntKind.i64 a0_0, D.int IntKind.i64 a0_1, D.sl (1 : Nat) a0_2]] = spec_boText.res n a0_0 a0_1 a0_2 := by kernel_rfl
theorem spec_boText.ev {n : Nat} {a0_0 : Int} {a0_1 : Int} {a0_2 : List (List D)} {r : List Q} (h : spec_boText.res n a0_0 a0_1 a0_2 = some r) : Snd Tryz.prog C0 51 [.agg [.int .i64 a0_0, .int .i64 a0_1, .sl 1 a0_2]] r :=
  snd_ev (C := spec_boText.cfg) cfg0 mix rfl rfl rfl rfl rfl .nil .nil rfl Tryz.func51 (by kernel_rfl) (by kernel_rfl) rfl ((spec_boText.run n a0_0 a0_1 a0_2).trans h)

theorem row_take (cs : List UInt8) (a b : Nat) : (Option.map (fun (l : List UInt8) => ByteArray.mk (List.toArray l)) (rowStr? (((u8C.encs cs).drop a).take b))) = some (mkB ((cs.drop a).take b)) := by
  rw [Cod.encs_drop, Cod.encs_take, rowStr_u8]; rfl
theorem spec_boText.l3_run {n : Nat} {w h : Nat} {cs : List UInt8} (hw : w ≤ 7) (hh : h ≤ 7) (hc : cs.length = w * h) : ∀ (d y m : Nat), y + d = h → d < m →
    spec_boText.l3 n m (mkB (jn (chunk w y cs))) (y : Int) (w : Int) (h : Int) (u8C.encs cs) = some [Q.one (.str (mkB (jn (chunk w h cs))))] := by
  intro d
  induction d with
  | zero =>
    intro y m hy hm
    obtain ⟨m, rfl⟩ : ∃ m', m = m' + 1 := ⟨m - 1, by omega⟩
    obtain rfl : y = h := by omega
    have h1 : ¬ (y : Int) < (y : Int) := by omega
    rw [spec_boText.l3_eq]
    simp only [h1, decide_false, cond_false]
  | succ d ih =>
    intro y m hy hm
    obtain ⟨m, rfl⟩ : ∃ m', m = m' + 1 := ⟨m - 1, by omega⟩
    have h1 : (y : Int) < (h : Int) := by omega
    have hyw : (y + 1) * w ≤ h * w := Nat.mul_le_mul_right _ (by omega)
    have hy1 : (y + 1) * w = y * w + w := by rw [Nat.add_mul, Nat.one_mul]
    have hhw : h * w ≤ 49 := by
      have := Nat.mul_le_mul hh hw
      omega
    have hwh : w * h = h * w := Nat.mul_comm w h
    have e1 : IntKind.wrap .i64 (((y + 1 : Nat) : Int) * (w : Int)) = (((y + 1) * w : Nat) : Int) := by rw [← Int.natCast_mul, wrap_in (by omega) (by omega)]
    have e2 : IntKind.wrap .i64 ((y : Int) * (w : Int)) = ((y * w : Nat) : Int) := by rw [← Int.natCast_mul, wrap_in (by omega) (by omega)]
    have h2 : (((y + 1) * w : Nat) : Int) ≤ ((cs.length : Nat) : Int) := by omega
    have h3 : ((y * w : Nat) : Int) ≤ (((y + 1) * w : Nat) : Int) := by omega
    have e3 : (y + 1) * w - y * w = w := by omega
    have hj := chunk_jn_le w y cs
    have hj' : y * (w + 1) ≤ 56 := by
      have := Nat.mul_le_mul (show y ≤ 7 by omega) (show w + 1 ≤ 8 by omega)
      omega
    have hr : ((cs.drop (y * w)).take w).length ≤ 7 := by rw [List.length_take]; omega
    have g1 : (mkB (jn (chunk w y cs))).size + (ByteArray.mk #[47]).size ≤ 17179869184 := by
      rw [mkB_size, show (ByteArray.mk #[47]).size = 1 from rfl]; omega
    have g2 : (mkB (jn (chunk w y cs)) ++ ByteArray.mk #[47]).size + (mkB ((cs.drop (y * w)).take w)).size ≤ 17179869184 := by
      rw [show ByteArray.mk #[47] = mkB [47] from rfl, mkB_app, mkB_size, mkB_size, List.length_append, List.length_singleton]; omega
    have g3 : (mkB (jn (chunk w y cs))).size + (mkB ((cs.drop (y * w)).take w)).size ≤ 17179869184 := by
      rw [mkB_size, mkB_size]; omega
    have step := ih (y + 1) m (by omega) (by omega)
    rw [chunk_jn] at step
    rw [spec_boText.l3_eq]
    simp only [h1, h2, h3, e1, e2, e3, g1, g2, g3, wrap_succ (show y ≤ LIM by unfold LIM; omega), Cod.encs_len, Int.natCast_nonneg, Int.toNat_natCast, decide_true, cond_true, row_take, Option.bind_some]
    by_cases hy0 : 0 < y
    · have h4 : (y : Int) > 0 := by omega
      rw [decide_eq_true hy0, cond_true] at step
      simp only [h4, decide_true, cond_true]
      rw [show ByteArray.mk #[47] = mkB [47] from rfl, mkB_app, mkB_app]
      exact step
    · have h4 : ¬ (y : Int) > 0 := by omega
      rw [decide_eq_false hy0, cond_false] at step
      simp only [h4, decide_false, cond_false]
      rw [mkB_app]
      exact step
def spec_boText.stub : Stub
  | [.agg [.int .i64 W, .int .i64 H, .sl 1 es]] => .any (u8C.decs es) fun cs => .gd (Sp.inR W 0 7) (.gd (Sp.inR H 0 7) (.gd (decide (cs.length = W.toNat * H.toNat)) (.ret [.one (.str (Sp.mkB (Sp.jn (Sp.chunk W.toNat H.toNat cs))))])))
  | _ => .fail
theorem spec_boText.ok : StubOk Tryz.prog C0 51 spec_boText.stub := by
  intro args res h
  unfold spec_boText.stub at h
  split at h
  · rename_i W H es
    obtain ⟨cs, h1, h0⟩ := any_out h
    obtain ⟨rfl, hl⟩ := Cod.decs_inv h1
    obtain ⟨h2, h0⟩ := gd_out h0
    obtain ⟨h3, h0⟩ := gd_out h0
    obtain ⟨h4, h0⟩ := gd_out h0
    cases h0
    have h4 := of_decide_eq_true h4
    obtain ⟨k1, k2⟩ := inR_out h2
    obtain ⟨k3, k4⟩ := inR_out h3
    obtain ⟨w, rfl⟩ : ∃ n : Nat, W = (n : Int) := ⟨W.toNat, by omega⟩
    obtain ⟨g, rfl⟩ : ∃ n : Nat, H = (n : Int) := ⟨H.toNat, by omega⟩
    simp only [Int.toNat_natCast] at h4 ⊢
    obtain ⟨N, hN⟩ : ∃ N, 44 ≤ N := ⟨44, Nat.le_refl _⟩
    refine spec_boText.ev (n := N) ?_
    have key := spec_boText.l3_run (n := N) (w := w) (h := g) (cs := cs) (by omega) (by omega) h4 g 0 N (by omega) (by omega)
    exact key
  · cases h
/-! spec_boTurn -/
noncomputable def spec_boTurn.cfg : Cfg := { C0 with keep := fun | 3 => some [1, 2, 3, 4] | 6 => some [1, 2, 3, 4, 5] | _ => none, nb := 0, M := tabM [], MM := tabB [] }
noncomputable def spec_boTurn.l3 (n : Nat) (m3 : Nat) (i0 : Int) (i1 : Int) (i2 : Int) (l3 : List (List D)) (i4 : Int) (i5 : Int) (l6 : List (List D)) (i7 : Int) (i8 : Int) (l9 : List (List D)) : Option (List Q) :=
  loopAt spec_boTurn.cfg [RK.agg [LK.int IntKind.i64, LK.int IntKind.i64, LK.sl (1 : Nat)]] n Tryz.f52 [1, 1, 0, 1, 0] [] m3 (St.mk [V.undef, V.rp (0 : Nat) (0 : Nat), V.rp (1 : Nat) (0 : Nat), V.rp (3 : Nat) (0 : Nat), V.one true (D.int IntKind.i64 i0), V.undef, V.undef, V.undef, V.undef, V.undef, V.undef, V.undef, V.undef, V.undef, V.undef, V.undef, V.undef, V.undef, V.undef, V.undef, V.undef, V.undef, V.undef, V.undef, V.undef, V.undef, V.undef, V.undef, V.undef, V.undef, V.undef, V.undef, V.undef, V.undef, V.undef, V.undef, V.undef, V.undef, V.undef, V.undef] [Ob.box [V.one true (D.int IntKind.i64 i1), V.one true (D.int IntKind.i64 i2), V.one false (D.sl (1 : Nat) l3)], Ob.box [V.one true (D.int IntKind.i64 i4), V.one true (D.int IntKind.i64 i5), V.rw (2 : Nat)], Ob.row false (1 : Nat) l6, Ob.box [V.one true (D.int IntKind.i64 i7), V.one true (D.int IntKind.i64 i8), V.rw (4 : Nat)], Ob.row false (1 : Nat) l9])
noncomputable def spec_boTurn.l6 (n : Nat) (m3 : Nat) (m6 : Nat) (i0 : Int) (i1 : Int) (i2 : Int) (i3 : Int) (l4 : List (List D)) (i5 : Int) (i6 : Int) (l7 : List (List D)) (i8 : Int) (i9 : Int) (l10 : List (List D)) : Option (List Q) :=
  loopAt spec_boTurn.cfg [RK.agg [LK.int IntKind.i64, LK.int IntKind.i64, LK.sl (1 : Nat)]] n Tryz.f52 [1, 1, 0, 1, 0, 0, 1, 0, 0, 1, 0] [m3] m6 (St.mk [V.undef, V.rp (0 : Nat) (0 : Nat), V.rp (1 : Nat) (0 : Nat), V.rp (3 : Nat) (0 : Nat), V.one true (D.int IntKind.i64 i0), V.one true (D.int IntKind.i64 i1), V.undef, V.undef, V.undef, V.undef, V.undef, V.undef, V.undef, V.undef, V.undef, V.undef, V.undef, V.undef, V.undef, V.undef, V.undef, V.undef, V.undef, V.undef, V.undef, V.undef, V.undef, V.undef, V.undef, V.undef, V.undef, V.undef, V.undef, V.undef, V.undef, V.undef, V.undef, V.undef, V.undef, V.undef] [Ob.box [V.one true (D.int IntKind.i64 i2), V.one true (D.int IntKind.i64 i3), V.one false (D.sl (1 : Nat) l4)], Ob.box [V.one true (D.int IntKind.i64 i5), V.one true (D.int IntKind.i64 i6), V.rw (2 : Nat)], Ob.row false (1 : Nat) l7, Ob.box [V.one true (D.int IntKind.i64 i8), V.one true (D.int IntKind.i64 i9), V.rw (4 : Nat)], Ob.row false (1 : Nat) l10])
theorem spec_boTurn.l3_eq (n : Nat) (m3 : Nat) (i0 : Int) (i1 : Int) (i2 : Int) (l3 : List (List D)) (i4 : Int) (i5 : Int) (l6 : List (List D)) (i7 : Int) (i8 : Int) (l9 : List (List D)) :
    spec_boTurn.l3 n (m3 + 1) i0 i1 i2 l3 i4 i5 l6 i7 i8 l9 = bif decide (i0 < i1) then spec_boTurn.l6 n m3 n i0 (IntKind.wrap IntKind.i64 (i2 - (1 : Int))) i1 i2 l3 i4 i5 l6 i7 i8 l9 else some [Q.agg [D.int IntKind.i64 i7, D.int IntKind.i64 i8, D.sl (1 : Nat) l9]] := by kernel_rfl
theorem spec_boTurn.l6_eq (n : Nat) (m3 : Nat) (m6 : Nat) (i0 : Int) (i1 : Int) (i2 : Int) (i3 : Int) (l4 : List (List D)) (i5 : Int) (i6 : Int) (l7 : List (List D)) (i8 : Int) (i9 : Int) (l10 : List (List D)) :
    spec_boTurn.l6 n m3 (m6 + 1) i0 i1 i2 i3 l4 i5 i6 l7 i8 i9 l10 = bif decide (i1 ≥ (0 : Int)) then bif decide ((0 : Int) ≤ IntKind.wrap IntKind.i64 (IntKind.wrap IntKind.i64 (i1 * i2) + i0)) then bif decide (IntKind.wrap IntKind.i64 (IntKind.wrap IntKind.i64 (i1 * i2) + i0) < (↑(List.length l4) : Int)) then Option.bind (Option.bind (some (cellD l4 (Int.toNat (IntKind.wrap IntKind.i64 (IntKind.wrap IntKind.i64 (i1 * i2) + i0))) (0 : Nat))) (D.int? IntKind.u8)) fun (i1_1 : Int) => bif decide (List.length l10 + (1 : Nat) ≤ (17179869184 : Nat)) then spec_boTurn.l6 n m3 m6 i0 (IntKind.wrap IntKind.i64 (i1 - (1 : Int))) i2 i3 l4 i5 i6 l7 i8 i9 (l10 ++ [[D.int IntKind.u8 i1_1]]) else none else none else none else spec_boTurn.l3 n m3 (IntKind.wrap IntKind.i64 (i0 + (1 : Int))) i2 i3 l4 i5 i6 l7 i8 i9 l10 := by kernel_rfl
noncomputable def spec_boTurn.res (n : Nat) (a0_0 : Int) (a0_1 : Int) (a0_2 : List (List D)) : Option (List Q) :=
  spec_boTurn.l3 n n (0 : Int) a0_0 a0_1 a0_2 (0 : Int) (0 : Int) [] a0_1 a0_0 []
theorem spec_boTurn.run (n : Nat) (a0_0 : Int) (a0_1 : Int) (a0_2 : List (List D)) :
    run1 spec_boTurn.cfg [RK.agg [LK.int IntKind.i64, LK.int IntKind.i64, LK.sl (1 : Nat)]] n Tryz.f52 [Q.agg [D.int IntKind.i64 a0_0, D.int IntKind.i64 a0_1, D.sl (1 : Nat) a0_2]] = spec_boTurn.res n a0_0 a0_1 a0_2 := by kernel_rfl
theorem spec_boTurn.ev {n : Nat} {a0_0 : Int} {a0_1 : Int} {a0_2 : List (List D)} {r : List Q} (h : spec_boTurn.res n a0_0 a0_1 a0_2 = some r) : Snd Tryz.prog C0 52 [.agg [.int .i64 a0_0, .int .i64 a0_1, .sl 1 a0_2]] r :=
  snd_ev (C := spec_boTurn.cfg) cfg0 mix rfl rfl rfl rfl rfl .nil .nil rfl Tryz.func52 (by kernel_rfl) (by kernel_rfl) rfl ((spec_boTurn.run n a0_0 a0_1 a0_2).trans h)

theorem spec_boTurn.l6_run {n m3 : Nat} {w h x : Nat} {cs : List UInt8} (hw : w ≤ 7) (hh : h ≤ 7) (hc : cs.length = w * h) (hx : x < w) : ∀ (d m : Nat) (out : List UInt8), d < m → d ≤ h → out.length + d ≤ 49 →
    spec_boTurn.l6 n m3 m (x : Int) ((d : Int) - 1) (w : Int) (h : Int) (u8C.encs cs) 0 0 [] (h : Int) (w : Int) (u8C.encs out) = spec_boTurn.l3 n m3 ((x + 1 : Nat) : Int) (w : Int) (h : Int) (u8C.encs cs) 0 0 [] (h : Int) (w : Int) (u8C.encs (out ++ colUp w cs x d)) := by
  intro d
  induction d with
  | zero =>
    intro m out hm hd ho
    obtain ⟨m, rfl⟩ : ∃ m', m = m' + 1 := ⟨m - 1, by omega⟩
    have h1 : ¬ (((0 : Nat) : Int) - 1) ≥ 0 := by omega
    rw [spec_boTurn.l6_eq]
    simp only [h1, decide_false, cond_false, wrap_succ (show x ≤ LIM by unfold LIM; omega)]
    rw [show colUp w cs x 0 = [] from rfl, List.append_nil]
  | succ d ih =>
    intro m out hm hd ho
    obtain ⟨m, rfl⟩ : ∃ m', m = m' + 1 := ⟨m - 1, by omega⟩
    have h1 : (d : Int) ≥ 0 := by omega
    have hdw : (d + 1) * w ≤ h * w := Nat.mul_le_mul_right _ hd
    have hd1 : (d + 1) * w = d * w + w := by rw [Nat.add_mul, Nat.one_mul]
    have hhw : h * w ≤ 49 := by
      have := Nat.mul_le_mul hh hw
      omega
    have hwh : w * h = h * w := Nat.mul_comm w h
    have hlt : d * w + x < cs.length := by omega
    have e0 : ((d + 1 : Nat) : Int) - 1 = (d : Int) := by omega
    have e1 : IntKind.wrap .i64 ((d : Int) * (w : Int)) = ((d * w : Nat) : Int) := by rw [← Int.natCast_mul, wrap_in (by omega) (by omega)]
    have e2 : IntKind.wrap .i64 (((d * w : Nat) : Int) + (x : Int)) = ((d * w + x : Nat) : Int) := by rw [← Int.natCast_add, wrap_in (by omega) (by omega)]
    have e3 : IntKind.wrap .i64 ((d : Int) - 1) = (d : Int) - 1 := wrap_in (by omega) (by omega)
    have h2 : ((d * w + x : Nat) : Int) < ((cs.length : Nat) : Int) := by omega
    have h3 : out.length + 1 ≤ 17179869184 := by omega
    have step := ih m (out ++ [cs[d * w + x]]) (by omega) (by omega) (by rw [List.length_append, List.length_singleton]; omega)
    rw [spec_boTurn.l6_eq, e0]
    simp only [h1, h2, h3, e1, e2, e3, Cod.encs_len, Int.natCast_nonneg, Int.toNat_natCast, decide_true, cond_true, u8C_cell hlt, Option.bind_some, u8C_snoc, step]
    rw [colUp_succ, List.append_assoc, List.singleton_append, List.getD_eq_getElem?_getD, List.getElem?_eq_getElem hlt]
    rfl
theorem spec_boTurn.l3_run {n : Nat} {w h : Nat} {cs : List UInt8} (hw : w ≤ 7) (hh : h ≤ 7) (hc : cs.length = w * h) (hn : 8 ≤ n) : ∀ (d x m : Nat), x + d = w → d < m →
    spec_boTurn.l3 n m (x : Int) (w : Int) (h : Int) (u8C.encs cs) 0 0 [] (h : Int) (w : Int) (u8C.encs (turnTo w h cs x)) = some [Q.agg [.int .i64 (h : Int), .int .i64 (w : Int), .sl 1 (u8C.encs (turnC w h cs))]] := by
  intro d
  induction d with
  | zero =>
    intro x m hx hm
    obtain ⟨m, rfl⟩ : ∃ m', m = m' + 1 := ⟨m - 1, by omega⟩
    obtain rfl : x = w := by omega
    have h1 : ¬ (x : Int) < (x : Int) := by omega
    rw [spec_boTurn.l3_eq]
    simp only [h1, decide_false, cond_false, turnTo_all]
  | succ d ih =>
    intro x m hx hm
    obtain ⟨m, rfl⟩ : ∃ m', m = m' + 1 := ⟨m - 1, by omega⟩
    have h1 : (x : Int) < (w : Int) := by omega
    have e1 : IntKind.wrap .i64 ((h : Int) - 1) = (h : Int) - 1 := wrap_in (by omega) (by omega)
    have hl := turnTo_len w h cs x
    have hb : x * h + h ≤ 49 := by
      have := Nat.mul_le_mul (show x + 1 ≤ 7 by omega) hh
      rw [Nat.add_mul] at this; omega
    have step := ih (x + 1) m (by omega) (by omega)
    rw [turnTo_succ] at step
    rw [spec_boTurn.l3_eq]
    simp only [h1, e1, decide_true, cond_true]
    rw [spec_boTurn.l6_run hw hh hc (by omega) h n _ (by omega) (Nat.le_refl _) (by omega)]
    exact step
def spec_boTurn.stub : Stub
  | [.agg [.int .i64 W, .int .i64 H, .sl 1 es]] => .any (u8C.decs es) fun cs => .gd (Sp.inR W 0 7) (.gd (Sp.inR H 0 7) (.gd (decide (cs.length = W.toNat * H.toNat)) (.ret [.agg [.int .i64 H, .int .i64 W, .sl 1 (u8C.encs (Sp.turnC W.toNat H.toNat cs))]])))
  | _ => .fail
theorem spec_boTurn.ok : StubOk Tryz.prog C0 52 spec_boTurn.stub := by
  intro args res h
  unfold spec_boTurn.stub at h
  split at h
  · rename_i W H es
    obtain ⟨cs, h1, h0⟩ := any_out h
    obtain ⟨rfl, hl⟩ := Cod.decs_inv h1
    obtain ⟨h2, h0⟩ := gd_out h0
    obtain ⟨h3, h0⟩ := gd_out h0
    obtain ⟨h4, h0⟩ := gd_out h0
    cases h0
    have h4 := of_decide_eq_true h4
    obtain ⟨k1, k2⟩ := inR_out h2
    obtain ⟨k3, k4⟩ := inR_out h3
    obtain ⟨w, rfl⟩ : ∃ n : Nat, W = (n : Int) := ⟨W.toNat, by omega⟩
    obtain ⟨g, rfl⟩ : ∃ n : Nat, H = (n : Int) := ⟨H.toNat, by omega⟩
    simp only [Int.toNat_natCast] at h4 ⊢
    obtain ⟨N, hN⟩ : ∃ N, 44 ≤ N := ⟨44, Nat.le_refl _⟩
    refine spec_boTurn.ev (n := N) ?_
    have key := spec_boTurn.l3_run (n := N) (w := w) (h := g) (cs := cs) (by omega) (by omega) h4 (by omega) w 0 N (by omega) (by omega)
    exact key
  · cases h
/-! impl_grid_turn -/
noncomputable def impl_grid_turn.cfg : Cfg := { C0 with keep := fun | 3 => some [0, 3, 11, 12] | 7 => some [0, 3, 4, 5, 6, 11, 12] | _ => none, nb := 0, M := tabM [], MM := tabB [] }
noncomputable def impl_grid_turn.l3 (n : Nat) (m3 : Nat) (l0 : List (List D)) (i1 : Int) (i2 : Int) (l3 : List (List D)) : Option (List Q) :=
  loopAt impl_grid_turn.cfg [RK.own (1 : Nat)] n Tryz.f55 [1, 1, 0, 1, 0] [] m3 (St.mk [V.one false (D.sl (1 : Nat) l0), V.undef, V.undef, V.rw (0 : Nat), V.undef, V.undef, V.undef, V.undef, V.undef, V.undef, V.undef, V.one true (D.int IntKind.i64 i1), V.one true (D.int IntKind.i64 i2), V.undef, V.undef, V.undef, V.undef, V.undef, V.undef, V.undef, V.undef, V.undef, V.undef, V.undef, V.undef, V.undef, V.undef, V.undef, V.undef, V.undef, V.undef, V.undef, V.undef, V.undef, V.undef, V.undef, V.undef, V.undef, V.undef] [Ob.row false (1 : Nat) l3])
noncomputable def impl_grid_turn.l7 (n : Nat) (m3 : Nat) (m7 : Nat) (l0 : List (List D)) (i1 : Int) (i2 : Int) (i3 : Int) (i4 : Int) (l5 : List (List D)) (l6 : List (List D)) : Option (List Q) :=
  loopAt impl_grid_turn.cfg [RK.own (1 : Nat)] n Tryz.f55 [1, 1, 0, 1, 0, 0, 1, 1, 0, 0, 1, 1, 0, 1, 0] [m3] m7 (St.mk [V.one false (D.sl (1 : Nat) l0), V.undef, V.undef, V.rw (0 : Nat), V.one true (D.int IntKind.i64 i1), V.rw (1 : Nat), V.one true (D.int IntKind.i64 i2), V.undef, V.undef, V.undef, V.undef, V.one true (D.int IntKind.i64 i3), V.one true (D.int IntKind.i64 i4), V.undef, V.undef, V.undef, V.undef, V.undef, V.undef, V.undef, V.undef, V.undef, V.undef, V.undef, V.undef, V.undef, V.undef, V.undef, V.undef, V.undef, V.undef, V.undef, V.undef, V.undef, V.undef, V.undef, V.undef, V.undef, V.undef] [Ob.row false (1 : Nat) l5, Ob.row false (1 : Nat) l6])
theorem impl_grid_turn.l3_eq (n : Nat) (m3 : Nat) (l0 : List (List D)) (i1 : Int) (i2 : Int) (l3 : List (List D)) :
    impl_grid_turn.l3 n (m3 + 1) l0 i1 i2 l3 = bif decide (i2 < i1) then impl_grid_turn.l7 n m3 n l0 i2 (IntKind.wrap IntKind.i64 ((↑(List.length l0) : Int) - (1 : Int))) i1 i2 l3 [] else some [Q.one (D.sl (1 : Nat) l3)] := by kernel_rfl
theorem impl_grid_turn.l7_eq (n : Nat) (m3 : Nat) (m7 : Nat) (l0 : List (List D)) (i1 : Int) (i2 : Int) (i3 : Int) (i4 : Int) (l5 : List (List D)) (l6 : List (List D)) :
    impl_grid_turn.l7 n m3 (m7 + 1) l0 i1 i2 i3 i4 l5 l6 = bif decide (i2 ≥ (0 : Int)) then bif decide ((0 : Int) ≤ i2) then bif decide (i2 < (↑(List.length l0) : Int)) then Option.bind (Option.bind (some (cellD l0 (Int.toNat i2) (0 : Nat))) D.str?) fun (s2 : ByteArray) => bif decide ((0 : Int) ≤ i1) then bif decide (i1 < (↑(ByteArray.size s2) : Int)) then bif decide (List.length l6 + (1 : Nat) ≤ (17179869184 : Nat)) then impl_grid_turn.l7 n m3 m7 l0 i1 (IntKind.wrap IntKind.i64 (i2 - (1 : Int))) i3 i4 l5 (l6 ++ [[D.int IntKind.u8 (byteAt s2 (Int.toNat i1))]]) else none else none else none else none else none else Option.bind (Option.map (fun (l : List UInt8) => ByteArray.mk (List.toArray l)) (rowStr? l6)) fun (s3 : ByteArray) => bif decide (List.length l5 + (1 : Nat) ≤ (17179869184 : Nat)) then impl_grid_turn.l3 n m3 l0 i3 (IntKind.wrap IntKind.i64 (i4 + (1 : Int))) (l5 ++ [[D.str s3]]) else none := by kernel_rfl
noncomputable def impl_grid_turn.res (n : Nat) (a0 : List (List D)) : Option (List Q) :=
  bif decide ((0 : Int) < (↑(List.length a0) : Int)) then Option.bind (Option.bind (some (cellD a0 (Int.toNat (0 : Int)) (0 : Nat))) D.str?) fun (s1 : ByteArray) => impl_grid_turn.l3 n n a0 (↑(ByteArray.size s1) : Int) (0 : Int) [] else none
theorem impl_grid_turn.run (n : Nat) (a0 : List (List D)) :
    run1 impl_grid_turn.cfg [RK.own (1 : Nat)] n Tryz.f55 [Q.one (D.sl (1 : Nat) a0)] = impl_grid_turn.res n a0 := by kernel_rfl
theorem impl_grid_turn.ev {n : Nat} {a0 : List (List D)} {r : List Q} (h : impl_grid_turn.res n a0 = some r) : Snd Tryz.prog C0 55 [.one (.sl 1 a0)] r :=
  snd_ev (C := impl_grid_turn.cfg) cfg0 mix rfl rfl rfl rfl rfl .nil .nil rfl Tryz.func55 (by kernel_rfl) (by kernel_rfl) rfl ((impl_grid_turn.run n a0).trans h)

theorem impl_grid_turn.l7_run {n m3 : Nat} {l : List ByteArray} {x : Nat} {W : Int} {out : List (List D)} (hu : unif (lb l) = true) (hl : l.length ≤ 7) (hx : x < wOf (lb l)) (hw : wOf (lb l) ≤ 7) (ho : out.length + 1 ≤ 17179869184) : ∀ (d m : Nat) (row : List UInt8), d < m → d ≤ l.length → row.length + d ≤ 49 →
    impl_grid_turn.l7 n m3 m (strC.encs l) (x : Int) ((d : Int) - 1) W (x : Int) out (u8C.encs row) = impl_grid_turn.l3 n m3 (strC.encs l) W ((x + 1 : Nat) : Int) (out ++ [[D.str (mkB (row ++ colR (lb l) x d))]]) := by
  intro d
  induction d with
  | zero =>
    intro m row hm hd hr
    obtain ⟨m, rfl⟩ : ∃ m', m = m' + 1 := ⟨m - 1, by omega⟩
    have h1 : ¬ (((0 : Nat) : Int) - 1) ≥ 0 := by omega
    rw [impl_grid_turn.l7_eq]
    simp only [h1, ho, decide_false, cond_false, decide_true, cond_true, wrap_succ (show x ≤ LIM by unfold LIM; omega), rowStr_u8, Option.map_some, Option.bind_some]
    rw [show colR (lb l) x 0 = [] from rfl, List.append_nil]
    rfl
  | succ d ih =>
    intro m row hm hd hr
    obtain ⟨m, rfl⟩ : ∃ m', m = m' + 1 := ⟨m - 1, by omega⟩
    have h1 : (d : Int) ≥ 0 := by omega
    have hlt : d < l.length := by omega
    have e0 : ((d + 1 : Nat) : Int) - 1 = (d : Int) := by omega
    have e3 : IntKind.wrap .i64 ((d : Int) - 1) = (d : Int) - 1 := wrap_in (by omega) (by omega)
    have h2 : (d : Int) < ((l.length : Nat) : Int) := by omega
    have h3 : row.length + 1 ≤ 17179869184 := by omega
    have hs := lb_wget hu hlt
    have h4 : (x : Int) < ((l[d].size : Nat) : Int) := by omega
    have hxl : x < (bl l[d]).length := by rw [bl_len]; omega
    have step := ih m (row ++ [(bl l[d])[x]]) (by omega) (by omega) (by rw [List.length_append, List.length_singleton]; omega)
    rw [impl_grid_turn.l7_eq, e0]
    simp only [h1, h2, h3, h4, e3, Cod.encs_len, Int.natCast_nonneg, Int.toNat_natCast, decide_true, cond_true, strC_cell hlt, Option.bind_some, byteAt_bl hxl, u8C_snoc, step]
    rw [colR_succ, List.append_assoc, List.singleton_append, lb_get hlt, List.getD_eq_getElem?_getD, List.getElem?_eq_getElem hxl]
    rfl
theorem impl_grid_turn.l3_run {n : Nat} {l : List ByteArray} (hu : unif (lb l) = true) (hl : l.length ≤ 7) (hw : wOf (lb l) ≤ 7) (hn : 8 ≤ n) : ∀ (d x m : Nat), x + d = wOf (lb l) → d < m →
    impl_grid_turn.l3 n m (strC.encs l) ((wOf (lb l) : Nat) : Int) (x : Int) (strC.encs ((turnRTo (lb l) x).map mkB)) = some [Q.one (.sl 1 (strC.encs ((turnR (lb l)).map mkB)))] := by
  intro d
  induction d with
  | zero =>
    intro x m hx hm
    obtain ⟨m, rfl⟩ : ∃ m', m = m' + 1 := ⟨m - 1, by omega⟩
    obtain rfl : x = wOf (lb l) := by omega
    have h1 : ¬ ((wOf (lb l) : Nat) : Int) < ((wOf (lb l) : Nat) : Int) := by omega
    rw [impl_grid_turn.l3_eq]
    simp only [h1, decide_false, cond_false, turnRTo_all]
  | succ d ih =>
    intro x m hx hm
    obtain ⟨m, rfl⟩ : ∃ m', m = m' + 1 := ⟨m - 1, by omega⟩
    have h1 : (x : Int) < ((wOf (lb l) : Nat) : Int) := by omega
    have e1 : IntKind.wrap .i64 ((l.length : Int) - 1) = (l.length : Int) - 1 := wrap_in (by omega) (by omega)
    have step := ih (x + 1) m (by omega) (by omega)
    rw [turnRTo_succ, List.map_append, List.map_singleton, ← strC_snoc, lb_len] at step
    have key := impl_grid_turn.l7_run (n := n) (m3 := m) (W := ((wOf (lb l) : Nat) : Int)) (out := strC.encs ((turnRTo (lb l) x).map mkB)) hu hl (show x < wOf (lb l) by omega) hw (by rw [Cod.encs_len, List.length_map, turnRTo_len]; omega) l.length n [] (by omega) (Nat.le_refl _) (by simp; omega)
    rw [impl_grid_turn.l3_eq]
    simp only [h1, e1, Cod.encs_len, decide_true, cond_true]
    exact key.trans step
def impl_grid_turn.stub : Stub
  | [.one (.sl 1 es)] => .any (strC.decs es) fun l => .gd (Sp.unif (Sp.lb l)) (.gd (Sp.inR l.length 1 7) (.gd (Sp.inR (Sp.wOf (Sp.lb l)) 0 7) (.ret [.one (.sl 1 (strC.encs (Sp.turnB l)))])))
  | _ => .fail
theorem impl_grid_turn.ok : StubOk Tryz.prog C0 55 impl_grid_turn.stub := by
  intro args res h
  unfold impl_grid_turn.stub at h
  split at h
  · rename_i es
    obtain ⟨l, h1, h0⟩ := any_out h
    obtain ⟨rfl, hl⟩ := Cod.decs_inv h1
    obtain ⟨hu, h0⟩ := gd_out h0
    obtain ⟨h3, h0⟩ := gd_out h0
    obtain ⟨h4, h0⟩ := gd_out h0
    cases h0
    obtain ⟨k1, k2⟩ := inR_out h3
    obtain ⟨k3, k4⟩ := inR_out h4
    have hpos : 0 < l.length := by omega
    have hpos' : (0 : Int) < ((l.length : Nat) : Int) := by omega
    obtain ⟨N, hN⟩ : ∃ N, 44 ≤ N := ⟨44, Nat.le_refl _⟩
    refine impl_grid_turn.ev (n := N) ?_
    unfold impl_grid_turn.res
    rw [show Int.toNat (0 : Int) = 0 from rfl]
    simp only [Cod.encs_len, hpos', decide_true, cond_true, strC_cell hpos, Option.bind_some, ← lb_w hpos]
    have key := impl_grid_turn.l3_run (n := N) hu (by omega) (by omega) (by omega) (wOf (lb l)) 0 N (by omega) (by omega)
    exact key
  · cases h
/-! impl_grid_text -/
noncomputable def impl_grid_text.cfg : Cfg := { C0 with keep := fun _ => none, nb := 0, M := tabM [(69, strings_Join.stub)], MM := tabB [] }
noncomputable def impl_grid_text.res (n : Nat) (a0 : List (List D)) : Option (List Q) :=
  Option.bind (Cod.decs strC a0) fun (l1 : List ByteArray) => bif decide (List.length (jn (lb l1)) ≤ (17179869184 : Nat)) then some [Q.one (D.str (mkB (jn (lb l1))))] else none
theorem impl_grid_text.run (n : Nat) (a0 : List (List D)) :
    run1 impl_grid_text.cfg [RK.one LK.str] n Tryz.f56 [Q.one (D.sl (1 : Nat) a0)] = impl_grid_text.res n a0 := by kernel_rfl
theorem impl_grid_text.ev {n : Nat} {a0 : List (List D)} {r : List Q} (h : impl_grid_text.res n a0 = some r) : Snd Tryz.prog C0 56 [.one (.sl 1 a0)] r :=
  snd_ev (C := impl_grid_text.cfg) cfg0 mix rfl rfl rfl rfl rfl (.cons strings_Join.ok .nil) .nil rfl Tryz.func56 (by kernel_rfl) (by kernel_rfl) rfl ((impl_grid_text.run n a0).trans h)

def impl_grid_text.stub : Stub
  | [.one (.sl 1 es)] => .any (strC.decs es) fun l => .gd (decide ((Sp.jn (Sp.lb l)).length ≤ LIM)) (.ret [.one (.str (Sp.mkB (Sp.jn (Sp.lb l))))])
  | _ => .fail
theorem impl_grid_text.ok : StubOk Tryz.prog C0 56 impl_grid_text.stub := by
  intro args res h
  unfold impl_grid_text.stub at h
  split at h
  · rename_i es
    obtain ⟨l, h1, h0⟩ := any_out h
    obtain ⟨h3, h0⟩ := gd_out h0
    cases h0
    unfold LIM at h3
    refine impl_grid_text.ev (n := 0) ?_
    unfold impl_grid_text.res
    rw [h1]
    simp only [Option.bind_some, h3, cond_true]
  · cases h
/-! impl_isDigit -/
noncomputable def impl_isDigit.cfg : Cfg := { C0 with keep := fun _ => none, nb := 0, M := tabM [], MM := tabB [] }
noncomputable def impl_isDigit.res (n : Nat) (a0 : Int) : Option (List Q) :=
  bif decide (a0 ≥ (48 : Int)) then some [Q.one (D.bool (decide (a0 ≤ (57 : Int))))] else some [Q.one (D.bool false)]
theorem impl_isDigit.run (n : Nat) (a0 : Int) :
    run1 impl_isDigit.cfg [RK.one LK.bool] n Tryz.f88 [Q.one (D.int IntKind.u8 a0)] = impl_isDigit.res n a0 := by kernel_rfl
theorem impl_isDigit.ev {n : Nat} {a0 : Int} {r : List Q} (h : impl_isDigit.res n a0 = some r) : Snd Tryz.prog C0 88 [.one (.int .u8 a0)] r :=
  snd_ev (C := impl_isDigit.cfg) cfg0 mix rfl rfl rfl rfl rfl .nil .nil rfl Tryz.func88 (by kernel_rfl) (by kernel_rfl) rfl ((impl_isDigit.run n a0).trans h)

def impl_isDigit.stub : Stub
  | [.one (.int .u8 c)] => .ret [.one (.bool (Sp.digI c))]
  | _ => .fail
theorem impl_isDigit.ok : StubOk Tryz.prog C0 88 impl_isDigit.stub := by
  intro args res h
  unfold impl_isDigit.stub at h
  split at h
  · rename_i c
    cases h
    refine impl_isDigit.ev (n := 0) ?_
    unfold impl_isDigit.res digI
    rw [show decide (c ≥ 48) = decide (48 ≤ c) from rfl]
    cases decide (48 ≤ c) <;> rfl
  · cases h
end Go.Proofs.EV.PL
set_option linter.unusedVariables false
set_option linter.unusedSimpArgs false
/-! Boards, grounds, labelled boards: turned. -/
namespace Go.Proofs.EV.PL
open Go Go.Proofs Go.Proofs.EV Sp
theorem isGr_bo {b : ByteArray} (h : isGr b = true) : isBo gnd b = true ∧ grW b = wOf (rws b) ∧ grH b = (rws b).length ∧ grC b = (rws b).flatten := by
  refine ⟨?_, ?_, ?_, ?_⟩
  · unfold isGr at h
    rw [Bool.and_eq_true] at h
    exact h.1
  · unfold grW; rw [h]; rfl
  · unfold grH; rw [h]; rfl
  · unfold grC; rw [h]; rfl
end Go.Proofs.EV.PL
set_option linter.unusedVariables false
set_option linter.unusedSimpArgs false
/-! Puzzles turned. -/
namespace Go.Proofs.EV.PL
open Go Go.Proofs Go.Proofs.EV Sp
end Go.Proofs.EV.PL
set_option linter.unusedVariables false
set_option linter.unusedSimpArgs false
/-! States along a word. -/
namespace Go.Proofs.EV.PL
open Go Go.Proofs Go.Proofs.EV Sp
/-! spec_diRoll -/
noncomputable def spec_diRoll.cfg : Cfg := { C0 with keep := fun _ => none, nb := 0, M := tabM [], MM := tabB [] }
noncomputable def spec_diRoll.res (n : Nat) (a0_0 : Int) (a0_1 : Int) (a0_2 : Int) (a0_3 : Int) (a0_4 : Int) (a0_5 : Int) (a1 : Int) : Option (List Q) :=
  bif a1 == (0 : Int) then some [Q.agg [D.int IntKind.i64 a0_3, D.int IntKind.i64 a0_0, D.int IntKind.i64 a0_2, D.int IntKind.i64 a0_5, D.int IntKind.i64 a0_4, D.int IntKind.i64 a0_1]] else bif a1 == (1 : Int) then some [Q.agg [D.int IntKind.i64 a0_4, D.int IntKind.i64 a0_1, D.int IntKind.i64 a0_0, D.int IntKind.i64 a0_3, D.int IntKind.i64 a0_5, D.int IntKind.i64 a0_2]] else bif a1 == (2 : Int) then some [Q.agg [D.int IntKind.i64 a0_1, D.int IntKind.i64 a0_5, D.int IntKind.i64 a0_2, D.int IntKind.i64 a0_0, D.int IntKind.i64 a0_4, D.int IntKind.i64 a0_3]] else some [Q.agg [D.int IntKind.i64 a0_2, D.int IntKind.i64 a0_1, D.int IntKind.i64 a0_5, D.int IntKind.i64 a0_3, D.int IntKind.i64 a0_0, D.int IntKind.i64 a0_4]]
theorem spec_diRoll.run (n : Nat) (a0_0 : Int) (a0_1 : Int) (a0_2 : Int) (a0_3 : Int) (a0_4 : Int) (a0_5 : Int) (a1 : Int) :
    run1 spec_diRoll.cfg [RK.agg [LK.int IntKind.i64, LK.int IntKind.i64, LK.int IntKind.i64, LK.int IntKind.i64, LK.int IntKind.i64, LK.int IntKind.i64]] n Tryz.f81 [Q.agg [D.int IntKind.i64 a0_0, D.int IntKind.i64 a0_1, D.int IntKind.i64 a0_2, D.int IntKind.i64 a0_3, D.int IntKind.i64 a0_4, D.int IntKind.i64 a0_5], Q.one (D.int IntKind.i64 a1)] = spec_diRoll.res n a0_0 a0_1 a0_2 a0_3 a0_4 a0_5 a1 := by kernel_rfl
theorem spec_diRoll.ev {n : Nat} {a0_0 : Int} {a0_1 : Int} {a0_2 : Int} {a0_3 : Int} {a0_4 : Int} {a0_5 : Int} {a1 : Int} {r : List Q} (h : spec_diRoll.res n a0_0 a0_1 a0_2 a0_3 a0_4 a0_5 a1 = some r) : Snd Tryz.prog C0 81 [.agg [.int .i64 a0_0, .int .i64 a0_1, .int .i64 a0_2, .int .i64 a0_3, .int .i64 a0_4, .int .i64 a0_5], .one (.int .i64 a1)] r :=
  snd_ev (C := spec_diRoll.cfg) cfg0 mix rfl rfl rfl rfl rfl .nil .nil rfl Tryz.func81 (by kernel_rfl) (by kernel_rfl) rfl ((spec_diRoll.run n a0_0 a0_1 a0_2 a0_3 a0_4 a0_5 a1).trans h)

def spec_diRoll.stub : Stub
  | [.agg [.int .i64 t, .int .i64 n, .int .i64 e, .int .i64 s, .int .i64 w, .int .i64 b], .one (.int .i64 k)] => .ret [.agg (dieC.enc (Sp.roll ⟨t, n, e, s, w, b⟩ k))]
  | _ => .fail
theorem spec_diRoll.ok : StubOk Tryz.prog C0 81 spec_diRoll.stub := by
  intro args res h
  unfold spec_diRoll.stub at h
  split at h
  · rename_i k
    cases h
    refine spec_diRoll.ev (n := 0) ?_
    unfold spec_diRoll.res Sp.roll
    simp only [ieq]
    cases decide (k = 0) <;> cases decide (k = 1) <;> cases decide (k = 2) <;> rfl
  · cases h
/-! impl_Die_roll -/
noncomputable def impl_Die_roll.cfg : Cfg := { C0 with keep := fun _ => none, nb := 0, M := tabM [], MM := tabB [] }
noncomputable def impl_Die_roll.res (n : Nat) (a0_0 : Int) (a0_1 : Int) (a0_2 : Int) (a0_3 : Int) (a0_4 : Int) (a0_5 : Int) (a1 : Int) : Option (List Q) :=
  bif a1 == (110 : Int) then some [Q.agg [D.int IntKind.i64 a0_3, D.int IntKind.i64 a0_0, D.int IntKind.i64 a0_2, D.int IntKind.i64 a0_5, D.int IntKind.i64 a0_4, D.int IntKind.i64 a0_1]] else bif a1 == (101 : Int) then some [Q.agg [D.int IntKind.i64 a0_4, D.int IntKind.i64 a0_1, D.int IntKind.i64 a0_0, D.int IntKind.i64 a0_3, D.int IntKind.i64 a0_5, D.int IntKind.i64 a0_2]] else bif a1 == (115 : Int) then some [Q.agg [D.int IntKind.i64 a0_1, D.int IntKind.i64 a0_5, D.int IntKind.i64 a0_2, D.int IntKind.i64 a0_0, D.int IntKind.i64 a0_4, D.int IntKind.i64 a0_3]] else some [Q.agg [D.int IntKind.i64 a0_2, D.int IntKind.i64 a0_1, D.int IntKind.i64 a0_5, D.int IntKind.i64 a0_3, D.int IntKind.i64 a0_0, D.int IntKind.i64 a0_4]]
theorem impl_Die_roll.run (n : Nat) (a0_0 : Int) (a0_1 : Int) (a0_2 : Int) (a0_3 : Int) (a0_4 : Int) (a0_5 : Int) (a1 : Int) :
    run1 impl_Die_roll.cfg [RK.agg [LK.int IntKind.i64, LK.int IntKind.i64, LK.int IntKind.i64, LK.int IntKind.i64, LK.int IntKind.i64, LK.int IntKind.i64]] n Tryz.f93 [Q.agg [D.int IntKind.i64 a0_0, D.int IntKind.i64 a0_1, D.int IntKind.i64 a0_2, D.int IntKind.i64 a0_3, D.int IntKind.i64 a0_4, D.int IntKind.i64 a0_5], Q.one (D.int IntKind.u8 a1)] = impl_Die_roll.res n a0_0 a0_1 a0_2 a0_3 a0_4 a0_5 a1 := by kernel_rfl
theorem impl_Die_roll.ev {n : Nat} {a0_0 : Int} {a0_1 : Int} {a0_2 : Int} {a0_3 : Int} {a0_4 : Int} {a0_5 : Int} {a1 : Int} {r : List Q} (h : impl_Die_roll.res n a0_0 a0_1 a0_2 a0_3 a0_4 a0_5 a1 = some r) : Snd Tryz.prog C0 93 [.agg [.int .i64 a0_0, .int .i64 a0_1, .int .i64 a0_2, .int .i64 a0_3, .int .i64 a0_4, .int .i64 a0_5], .one (.int .u8 a1)] r :=
  snd_ev (C := impl_Die_roll.cfg) cfg0 mix rfl rfl rfl rfl rfl .nil .nil rfl Tryz.func93 (by kernel_rfl) (by kernel_rfl) rfl ((impl_Die_roll.run n a0_0 a0_1 a0_2 a0_3 a0_4 a0_5 a1).trans h)

def impl_Die_roll.stub : Stub
  | [.agg [.int .i64 t, .int .i64 n, .int .i64 e, .int .i64 s, .int .i64 w, .int .i64 b], .one (.int .u8 k)] => .ret [.agg (dieC.enc (Sp.rollB ⟨t, n, e, s, w, b⟩ k))]
  | _ => .fail
theorem impl_Die_roll.ok : StubOk Tryz.prog C0 93 impl_Die_roll.stub := by
  intro args res h
  unfold impl_Die_roll.stub at h
  split at h
  · rename_i k
    cases h
    refine impl_Die_roll.ev (n := 0) ?_
    unfold impl_Die_roll.res Sp.rollB
    simp only [ieq]
    cases decide (k = 110) <;> cases decide (k = 101) <;> cases decide (k = 115) <;> rfl
  · cases h
theorem inR6 {x : Int} (h : inR x 0 6 = true) : 0 ≤ x ∧ x ≤ 6 := inR_out h
/-! spec_boNext -/
noncomputable def spec_boNext.cfg : Cfg := { C0 with keep := fun _ => none, nb := 0, M := tabM [], MM := tabB [] }
noncomputable def spec_boNext.res (n : Nat) (a0 : Int) (a1 : Int) (a2 : Int) : Option (List Q) :=
  bif a2 == (0 : Int) then some [Q.one (D.int IntKind.i64 a0), Q.one (D.int IntKind.i64 (IntKind.wrap IntKind.i64 (a1 - (1 : Int))))] else bif a2 == (1 : Int) then some [Q.one (D.int IntKind.i64 (IntKind.wrap IntKind.i64 (a0 + (1 : Int)))), Q.one (D.int IntKind.i64 a1)] else bif a2 == (2 : Int) then some [Q.one (D.int IntKind.i64 a0), Q.one (D.int IntKind.i64 (IntKind.wrap IntKind.i64 (a1 + (1 : Int))))] else some [Q.one (D.int IntKind.i64 (IntKind.wrap IntKind.i64 (a0 - (1 : Int)))), Q.one (D.int IntKind.i64 a1)]
theorem spec_boNext.run (n : Nat) (a0 : Int) (a1 : Int) (a2 : Int) :
    run1 spec_boNext.cfg [RK.one (LK.int IntKind.i64), RK.one (LK.int IntKind.i64)] n Tryz.f57 [Q.one (D.int IntKind.i64 a0), Q.one (D.int IntKind.i64 a1), Q.one (D.int IntKind.i64 a2)] = spec_boNext.res n a0 a1 a2 := by kernel_rfl
theorem spec_boNext.ev {n : Nat} {a0 : Int} {a1 : Int} {a2 : Int} {r : List Q} (h : spec_boNext.res n a0 a1 a2 = some r) : Snd Tryz.prog C0 57 [.one (.int .i64 a0), .one (.int .i64 a1), .one (.int .i64 a2)] r :=
  snd_ev (C := spec_boNext.cfg) cfg0 mix rfl rfl rfl rfl rfl .nil .nil rfl Tryz.func57 (by kernel_rfl) (by kernel_rfl) rfl ((spec_boNext.run n a0 a1 a2).trans h)

def spec_boNext.stub : Stub
  | [.one (.int .i64 x), .one (.int .i64 y), .one (.int .i64 k)] => .gd (Sp.inR x 0 6) (.gd (Sp.inR y 0 6) (.ret [.one (.int .i64 (Sp.nxX x k)), .one (.int .i64 (Sp.nxY y k))]))
  | _ => .fail
theorem spec_boNext.ok : StubOk Tryz.prog C0 57 spec_boNext.stub := by
  intro args res h
  unfold spec_boNext.stub at h
  split at h
  · rename_i x y k
    obtain ⟨h1, h⟩ := gd_out h
    obtain ⟨h2, h⟩ := gd_out h
    cases h
    obtain ⟨k1, k2⟩ := inR6 h1
    obtain ⟨k3, k4⟩ := inR6 h2
    refine spec_boNext.ev (n := 0) ?_
    unfold spec_boNext.res nxX nxY
    rw [wrap_in (x := y - 1) (by omega) (by omega), wrap_in (x := x + 1) (by omega) (by omega), wrap_in (x := y + 1) (by omega) (by omega), wrap_in (x := x - 1) (by omega) (by omega)]
    simp only [ieq]
    cases decide (k = 0) <;> cases decide (k = 1) <;> cases decide (k = 2) <;> rfl
  · cases h
/-! impl_next -/
noncomputable def impl_next.cfg : Cfg := { C0 with keep := fun _ => none, nb := 0, M := tabM [], MM := tabB [] }
noncomputable def impl_next.res (n : Nat) (a0 : Int) (a1 : Int) (a2 : Int) : Option (List Q) :=
  bif a2 == (110 : Int) then some [Q.one (D.int IntKind.i64 a0), Q.one (D.int IntKind.i64 (IntKind.wrap IntKind.i64 (a1 - (1 : Int))))] else bif a2 == (101 : Int) then some [Q.one (D.int IntKind.i64 (IntKind.wrap IntKind.i64 (a0 + (1 : Int)))), Q.one (D.int IntKind.i64 a1)] else bif a2 == (115 : Int) then some [Q.one (D.int IntKind.i64 a0), Q.one (D.int IntKind.i64 (IntKind.wrap IntKind.i64 (a1 + (1 : Int))))] else some [Q.one (D.int IntKind.i64 (IntKind.wrap IntKind.i64 (a0 - (1 : Int)))), Q.one (D.int IntKind.i64 a1)]
theorem impl_next.run (n : Nat) (a0 : Int) (a1 : Int) (a2 : Int) :
    run1 impl_next.cfg [RK.one (LK.int IntKind.i64), RK.one (LK.int IntKind.i64)] n Tryz.f92 [Q.one (D.int IntKind.i64 a0), Q.one (D.int IntKind.i64 a1), Q.one (D.int IntKind.u8 a2)] = impl_next.res n a0 a1 a2 := by kernel_rfl
theorem impl_next.ev {n : Nat} {a0 : Int} {a1 : Int} {a2 : Int} {r : List Q} (h : impl_next.res n a0 a1 a2 = some r) : Snd Tryz.prog C0 92 [.one (.int .i64 a0), .one (.int .i64 a1), .one (.int .u8 a2)] r :=
  snd_ev (C := impl_next.cfg) cfg0 mix rfl rfl rfl rfl rfl .nil .nil rfl Tryz.func92 (by kernel_rfl) (by kernel_rfl) rfl ((impl_next.run n a0 a1 a2).trans h)

def impl_next.stub : Stub
  | [.one (.int .i64 x), .one (.int .i64 y), .one (.int .u8 c)] => .gd (Sp.inR x 0 6) (.gd (Sp.inR y 0 6) (.ret [.one (.int .i64 (Sp.nxX x (Sp.dix c))), .one (.int .i64 (Sp.nxY y (Sp.dix c)))]))
  | _ => .fail
theorem impl_next.ok : StubOk Tryz.prog C0 92 impl_next.stub := by
  intro args res h
  unfold impl_next.stub at h
  split at h
  · rename_i x y c
    obtain ⟨h1, h⟩ := gd_out h
    obtain ⟨h2, h⟩ := gd_out h
    cases h
    obtain ⟨k1, k2⟩ := inR6 h1
    obtain ⟨k3, k4⟩ := inR6 h2
    refine impl_next.ev (n := 0) ?_
    unfold impl_next.res nxX nxY dix
    rw [wrap_in (x := y - 1) (by omega) (by omega), wrap_in (x := x + 1) (by omega) (by omega), wrap_in (x := y + 1) (by omega) (by omega), wrap_in (x := x - 1) (by omega) (by omega)]
    simp only [ieq]
    cases decide (c = 110) <;> cases decide (c = 101) <;> cases decide (c = 115) <;> rfl
  · cases h
end Go.Proofs.EV.PL
set_option linter.unusedVariables false
set_option linter.unusedSimpArgs false
/-! States along a word. -/
namespace Go.Proofs.EV.PL
open Go Go.Proofs Go.Proofs.EV Sp
end Go.Proofs.EV.PL
set_option linter.unusedVariables false
set_option linter.unusedSimpArgs false
set_option maxHeartbeats 4000000
/-! Texts of cells read; steps from cell to cell. -/
namespace Go.Proofs.EV.PL
open Go Go.Proofs Go.Proofs.EV Sp
/-! slices_Index_impl_piece_A2int -/
noncomputable def slices_Index_impl_piece_A2int.cfg : Cfg := { C0 with keep := fun | 2 => some [0, 3, 7, 8] | _ => none, nb := 0, M := tabM [], MM := tabB [] }
noncomputable def slices_Index_impl_piece_A2int.l2 (n : Nat) (m2 : Nat) (l0 : List (List D)) (i1 : Int) (i2 : Int) (l3 : List (List D)) : Option (List Q) :=
  loopAt slices_Index_impl_piece_A2int.cfg [RK.one (LK.int IntKind.i64)] n Tryz.f127 [1, 0, 1, 0] [] m2 (St.mk [V.one false (D.sl (2 : Nat) l0), V.undef, V.undef, V.re (0 : Nat) (0 : Nat) (0 : Nat), V.undef, V.undef, V.undef, V.one true (D.int IntKind.i64 i1), V.one true (D.int IntKind.i64 i2), V.undef, V.undef, V.undef, V.undef, V.undef, V.undef, V.undef, V.undef, V.undef, V.undef] [Ob.row true (1 : Nat) l3])
theorem slices_Index_impl_piece_A2int.l2_eq (n : Nat) (m2 : Nat) (l0 : List (List D)) (i1 : Int) (i2 : Int) (l3 : List (List D)) :
    slices_Index_impl_piece_A2int.l2 n (m2 + 1) l0 i1 i2 l3 = bif decide (i2 < i1) then bif decide (List.length l3 = (2 : Nat)) then Option.bind (Option.bind (some (cellD l3 (0 : Nat) (0 : Nat))) (D.int? IntKind.i64)) fun (i1_1 : Int) => Option.bind (Option.bind (some (cellD l3 (1 : Nat) (0 : Nat))) (D.int? IntKind.i64)) fun (i2_1 : Int) => bif decide ((0 : Int) ≤ i2) then bif decide (i2 < (↑(List.length l0) : Int)) then Option.bind (Option.bind (some (cellD l0 (Int.toNat i2) (0 : Nat))) (D.int? IntKind.i64)) fun (i3 : Int) => Option.bind (Option.bind (some (cellD l0 (Int.toNat i2) (1 : Nat))) (D.int? IntKind.i64)) fun (i4 : Int) => bif i1_1 == i3 && (i2_1 == i4 && true) then some [Q.one (D.int IntKind.i64 i2)] else slices_Index_impl_piece_A2int.l2 n m2 l0 i1 (IntKind.wrap IntKind.i64 (i2 + (1 : Int))) l3 else none else none else none else some [Q.one (D.int IntKind.i64 (-1 : Int))] := by kernel_rfl
noncomputable def slices_Index_impl_piece_A2int.res (n : Nat) (a0 : List (List D)) (a1_0 : Int) (a1_1 : Int) : Option (List Q) :=
  slices_Index_impl_piece_A2int.l2 n n a0 (↑(List.length a0) : Int) (0 : Int) [[D.int IntKind.i64 a1_0], [D.int IntKind.i64 a1_1]]
theorem slices_Index_impl_piece_A2int.run (n : Nat) (a0 : List (List D)) (a1_0 : Int) (a1_1 : Int) :
    run1 slices_Index_impl_piece_A2int.cfg [RK.one (LK.int IntKind.i64)] n Tryz.f127 [Q.one (D.sl (2 : Nat) a0), Q.agg [D.int IntKind.i64 a1_0, D.int IntKind.i64 a1_1]] = slices_Index_impl_piece_A2int.res n a0 a1_0 a1_1 := by kernel_rfl
theorem slices_Index_impl_piece_A2int.ev {n : Nat} {a0 : List (List D)} {a1_0 : Int} {a1_1 : Int} {r : List Q} (h : slices_Index_impl_piece_A2int.res n a0 a1_0 a1_1 = some r) : Snd Tryz.prog C0 127 [.one (.sl 2 a0), .agg [.int .i64 a1_0, .int .i64 a1_1]] r :=
  snd_ev (C := slices_Index_impl_piece_A2int.cfg) cfg0 mix rfl rfl rfl rfl rfl .nil .nil rfl Tryz.func127 (by kernel_rfl) (by kernel_rfl) rfl ((slices_Index_impl_piece_A2int.run n a0 a1_0 a1_1).trans h)

theorem slices_Index_impl_piece_A2int.l2_run {n : Nat} {l : List (Int × Int)} {x y : Int} (hl : l.length ≤ LIM) : ∀ (d k m : Nat), k + d = l.length → d < m →
    slices_Index_impl_piece_A2int.l2 n m (xyC.encs l) ((l.length : Nat) : Int) (k : Int) [[D.int .i64 x], [D.int .i64 y]] = some [Q.one (D.int .i64 (bif decide (plOf (l.drop k) x y < 0) then -1 else plOf (l.drop k) x y + k))] := by
  intro d
  induction d with
  | zero =>
    intro k m hk hm
    obtain ⟨m, rfl⟩ : ∃ m', m = m' + 1 := ⟨m - 1, by omega⟩
    have h1 : ¬ (k : Int) < ((l.length : Nat) : Int) := by omega
    rw [slices_Index_impl_piece_A2int.l2_eq, List.drop_of_length_le (by omega)]
    simp -implicitDefEqProofs only [h1, decide_false, cond_false]
    rfl
  | succ d ih =>
    intro k m hk hm
    obtain ⟨m, rfl⟩ : ∃ m', m = m' + 1 := ⟨m - 1, by omega⟩
    have hkl : k < l.length := by omega
    have h1 : (k : Int) < ((l.length : Nat) : Int) := by omega
    have c0 : D.int? .i64 (cellD [[D.int .i64 x], [D.int .i64 y]] 0 0) = some x := rfl
    have c1 : D.int? .i64 (cellD [[D.int .i64 x], [D.int .i64 y]] 1 0) = some y := rfl
    have ll : ([[D.int .i64 x], [D.int .i64 y]] : List (List D)).length = 2 := rfl
    have step := ih (k + 1) m (by omega) (by omega)
    rw [slices_Index_impl_piece_A2int.l2_eq, List.drop_eq_getElem_cons hkl, plOf]
    simp -implicitDefEqProofs only [h1, ll, c0, c1, Cod.encs_len, Int.natCast_nonneg, Int.toNat_natCast, xyC_0 hkl, xyC_1 hkl, gd_get hkl, decide_true, cond_true, Option.bind_some, Bool.and_true, wrap_succ (show k ≤ LIM by omega), step]
    have e1 : (x == l[k].1) = decide (l[k].1 = x) := by rw [Bool.eq_iff_iff]; simp; exact eq_comm
    have e2 : (y == l[k].2) = decide (l[k].2 = y) := by rw [Bool.eq_iff_iff]; simp; exact eq_comm
    rw [e1, e2]
    cases decide (l[k].1 = x) && decide (l[k].2 = y) with
    | true =>
      simp only [cond_true]
      have : ¬ (0 : Int) < 0 := by omega
      rw [decide_eq_false this, cond_false, Int.zero_add]
    | false =>
      simp only [cond_false]
      by_cases hn : plOf (l.drop (k + 1)) x y < 0
      · have : (-1 : Int) < 0 := by omega
        rw [decide_eq_true hn]
        simp only [cond_true]
        rw [decide_eq_true this, cond_true]
      · have : ¬ plOf (l.drop (k + 1)) x y + 1 < 0 := by omega
        rw [decide_eq_false hn]
        simp only [cond_false]
        rw [decide_eq_false this, cond_false]
        congr 4
        omega
def slices_Index_impl_piece_A2int.stub : Stub
  | [.one (.sl 2 es), .agg [.int .i64 x, .int .i64 y]] => .any (xyC.decs es) fun l => .ret [.one (.int .i64 (Sp.plOf l x y))]
  | _ => .fail
theorem slices_Index_impl_piece_A2int.ok : StubOk Tryz.prog C0 127 slices_Index_impl_piece_A2int.stub := by
  intro args res h
  unfold slices_Index_impl_piece_A2int.stub at h
  split at h
  · rename_i es x y
    obtain ⟨l, h1, h0⟩ := any_out h
    obtain ⟨rfl, hl⟩ := Cod.decs_inv h1
    cases h0
    refine slices_Index_impl_piece_A2int.ev (n := l.length + 1) ?_
    unfold slices_Index_impl_piece_A2int.res
    rw [Cod.encs_len]
    have key := slices_Index_impl_piece_A2int.l2_run (n := l.length + 1) (x := x) (y := y) hl l.length 0 (l.length + 1) (by omega) (by omega)
    refine Eq.trans key ?_
    rw [List.drop_zero]
    rcases plOf_cases l x y with ⟨e, _⟩ | ⟨k, e, _⟩
    · rw [e]; rfl
    · have : ¬ (k : Int) < 0 := by omega
      rw [e, decide_eq_false this, cond_false]
      simp
  · cases h
/-! impl_piece_place -/
noncomputable def impl_piece_place.cfg : Cfg := { C0 with keep := fun _ => none, nb := 0, M := tabM [(127, slices_Index_impl_piece_A2int.stub)], MM := tabB [] }
noncomputable def impl_piece_place.res (n : Nat) (a0 : List (List D)) (a1 : Int) (a2 : Int) : Option (List Q) :=
  Option.bind (Cod.decs xyC a0) fun (l1 : List (Int × Int)) => some [Q.one (D.int IntKind.i64 (plOf l1 a1 a2))]
theorem impl_piece_place.run (n : Nat) (a0 : List (List D)) (a1 : Int) (a2 : Int) :
    run1 impl_piece_place.cfg [RK.one (LK.int IntKind.i64)] n Tryz.f91 [Q.one (D.sl (2 : Nat) a0), Q.one (D.int IntKind.i64 a1), Q.one (D.int IntKind.i64 a2)] = impl_piece_place.res n a0 a1 a2 := by kernel_rfl
theorem impl_piece_place.ev {n : Nat} {a0 : List (List D)} {a1 : Int} {a2 : Int} {r : List Q} (h : impl_piece_place.res n a0 a1 a2 = some r) : Snd Tryz.prog C0 91 [.one (.sl 2 a0), .one (.int .i64 a1), .one (.int .i64 a2)] r :=
  snd_ev (C := impl_piece_place.cfg) cfg0 mix rfl rfl rfl rfl rfl (.cons slices_Index_impl_piece_A2int.ok .nil) .nil rfl Tryz.func91 (by kernel_rfl) (by kernel_rfl) rfl ((impl_piece_place.run n a0 a1 a2).trans h)

def impl_piece_place.stub : Stub
  | [.one (.sl 2 es), .one (.int .i64 x), .one (.int .i64 y)] => .any (xyC.decs es) fun l => .ret [.one (.int .i64 (Sp.plOf l x y))]
  | _ => .fail
theorem impl_piece_place.ok : StubOk Tryz.prog C0 91 impl_piece_place.stub := by
  intro args res h
  unfold impl_piece_place.stub at h
  split at h
  · rename_i es x y
    obtain ⟨l, h1, h0⟩ := any_out h
    cases h0
    refine impl_piece_place.ev (n := 0) ?_
    unfold impl_piece_place.res
    rw [h1]; rfl
  · cases h
/-! impl_plain -/
noncomputable def impl_plain.cfg : Cfg := { C0 with keep := fun _ => none, nb := 0, M := tabM [], MM := tabB [] }
noncomputable def impl_plain.res (n : Nat) : Option (List Q) :=
  some [Q.agg [D.int IntKind.i64 (0 : Int), D.int IntKind.i64 (1 : Int), D.int IntKind.i64 (2 : Int), D.int IntKind.i64 (3 : Int), D.int IntKind.i64 (4 : Int), D.int IntKind.i64 (5 : Int)]]
theorem impl_plain.run (n : Nat) :
    run1 impl_plain.cfg [RK.agg [LK.int IntKind.i64, LK.int IntKind.i64, LK.int IntKind.i64, LK.int IntKind.i64, LK.int IntKind.i64, LK.int IntKind.i64]] n Tryz.f90 [] = impl_plain.res n := by kernel_rfl
theorem impl_plain.ev {n : Nat}  {r : List Q} (h : impl_plain.res n  = some r) : Snd Tryz.prog C0 90 [] r :=
  snd_ev (C := impl_plain.cfg) cfg0 mix rfl rfl rfl rfl rfl .nil .nil rfl Tryz.func90 (by kernel_rfl) (by kernel_rfl) rfl ((impl_plain.run n ).trans h)

def impl_plain.stub : Stub
  | [] => .ret [.agg (dieC.enc Sp.unitD)]
  | _ => .fail
theorem impl_plain.ok : StubOk Tryz.prog C0 90 impl_plain.stub := by
  intro args res h
  unfold impl_plain.stub at h
  split at h
  · cases h
    refine impl_plain.ev (n := 0) ?_
    rfl
  · cases h
/-! spec_diOf -/
noncomputable def spec_diOf.cfg : Cfg := { C0 with keep := fun _ => none, nb := 0, M := tabM [], MM := tabB [] }
noncomputable def spec_diOf.res (n : Nat) (a0 : List (List D)) : Option (List Q) :=
  bif decide ((0 : Int) < (↑(List.length a0) : Int)) then Option.bind (Option.bind (some (cellD a0 (Int.toNat (0 : Int)) (0 : Nat))) (D.int? IntKind.i64)) fun (i1 : Int) => bif decide ((1 : Int) < (↑(List.length a0) : Int)) then Option.bind (Option.bind (some (cellD a0 (Int.toNat (1 : Int)) (0 : Nat))) (D.int? IntKind.i64)) fun (i2 : Int) => bif decide ((2 : Int) < (↑(List.length a0) : Int)) then Option.bind (Option.bind (some (cellD a0 (Int.toNat (2 : Int)) (0 : Nat))) (D.int? IntKind.i64)) fun (i3 : Int) => bif decide ((3 : Int) < (↑(List.length a0) : Int)) then Option.bind (Option.bind (some (cellD a0 (Int.toNat (3 : Int)) (0 : Nat))) (D.int? IntKind.i64)) fun (i4 : Int) => bif decide ((4 : Int) < (↑(List.length a0) : Int)) then Option.bind (Option.bind (some (cellD a0 (Int.toNat (4 : Int)) (0 : Nat))) (D.int? IntKind.i64)) fun (i5 : Int) => bif decide ((5 : Int) < (↑(List.length a0) : Int)) then Option.bind (Option.bind (some (cellD a0 (Int.toNat (5 : Int)) (0 : Nat))) (D.int? IntKind.i64)) fun (i6 : Int) => some [Q.agg [D.int IntKind.i64 i1, D.int IntKind.i64 i2, D.int IntKind.i64 i3, D.int IntKind.i64 i4, D.int IntKind.i64 i5, D.int IntKind.i64 i6]] else none else none else none else none else none else none
theorem spec_diOf.run (n : Nat) (a0 : List (List D)) :
    run1 spec_diOf.cfg [RK.agg [LK.int IntKind.i64, LK.int IntKind.i64, LK.int IntKind.i64, LK.int IntKind.i64, LK.int IntKind.i64, LK.int IntKind.i64]] n Tryz.f108 [Q.one (D.sl (1 : Nat) a0)] = spec_diOf.res n a0 := by kernel_rfl
theorem spec_diOf.ev {n : Nat} {a0 : List (List D)} {r : List Q} (h : spec_diOf.res n a0 = some r) : Snd Tryz.prog C0 108 [.one (.sl 1 a0)] r :=
  snd_ev (C := spec_diOf.cfg) cfg0 mix rfl rfl rfl rfl rfl .nil .nil rfl Tryz.func108 (by kernel_rfl) (by kernel_rfl) rfl ((spec_diOf.run n a0).trans h)

def spec_diOf.stub : Stub
  | [.one (.sl 1 es)] => .any (intC.decs es) fun l => .gd (decide (l.length = 6)) (.ret [.agg (dieC.enc (Sp.ofL l))])
  | _ => .fail
theorem spec_diOf.ok : StubOk Tryz.prog C0 108 spec_diOf.stub := by
  intro args res h
  unfold spec_diOf.stub at h
  split at h
  · obtain ⟨l, h1, h0⟩ := any_out h
    obtain ⟨rfl, hl⟩ := Cod.decs_inv h1
    obtain ⟨h2, h3⟩ := gd_out h0
    have h2 := of_decide_eq_true h2
    cases h3
    refine spec_diOf.ev (n := 0) ?_
    unfold spec_diOf.res
    match l, h2 with
    | [a, b, c, d, e, f], _ => rfl
  · cases h
/-! spec_diUnit -/
noncomputable def spec_diUnit.cfg : Cfg := { C0 with keep := fun _ => none, nb := 0, M := tabM [(108, spec_diOf.stub)], MM := tabB [] }
noncomputable def spec_diUnit.res (n : Nat) : Option (List Q) :=
  some [Q.agg [D.int IntKind.i64 (Die.t (ofL [(0 : Int), (1 : Int), (2 : Int), (3 : Int), (4 : Int), (5 : Int)])), D.int IntKind.i64 (Die.n (ofL [(0 : Int), (1 : Int), (2 : Int), (3 : Int), (4 : Int), (5 : Int)])), D.int IntKind.i64 (Die.e (ofL [(0 : Int), (1 : Int), (2 : Int), (3 : Int), (4 : Int), (5 : Int)])), D.int IntKind.i64 (Die.s (ofL [(0 : Int), (1 : Int), (2 : Int), (3 : Int), (4 : Int), (5 : Int)])), D.int IntKind.i64 (Die.w (ofL [(0 : Int), (1 : Int), (2 : Int), (3 : Int), (4 : Int), (5 : Int)])), D.int IntKind.i64 (Die.b (ofL [(0 : Int), (1 : Int), (2 : Int), (3 : Int), (4 : Int), (5 : Int)]))]]
theorem spec_diUnit.run (n : Nat) :
    run1 spec_diUnit.cfg [RK.agg [LK.int IntKind.i64, LK.int IntKind.i64, LK.int IntKind.i64, LK.int IntKind.i64, LK.int IntKind.i64, LK.int IntKind.i64]] n Tryz.f80 [] = spec_diUnit.res n := by kernel_rfl
theorem spec_diUnit.ev {n : Nat}  {r : List Q} (h : spec_diUnit.res n  = some r) : Snd Tryz.prog C0 80 [] r :=
  snd_ev (C := spec_diUnit.cfg) cfg0 mix rfl rfl rfl rfl rfl (.cons spec_diOf.ok .nil) .nil rfl Tryz.func80 (by kernel_rfl) (by kernel_rfl) rfl ((spec_diUnit.run n ).trans h)

def spec_diUnit.stub : Stub
  | [] => .ret [.agg (dieC.enc Sp.unitD)]
  | _ => .fail
theorem spec_diUnit.ok : StubOk Tryz.prog C0 80 spec_diUnit.stub := by
  intro args res h
  unfold spec_diUnit.stub at h
  split at h
  · cases h
    refine spec_diUnit.ev (n := 0) ?_
    rfl
  · cases h
/-! spec_neDigits -/
noncomputable def spec_neDigits.cfg : Cfg := { C0 with keep := fun | 3 => some [3, 7, 8, 9] | _ => none, nb := 0, M := tabM [], MM := tabB [] }
noncomputable def spec_neDigits.l3 (n : Nat) (m3 : Nat) (l0 : List (List D)) (i1 : Int) (i2 : Int) (l3 : List (List D)) : Option (List Q) :=
  loopAt spec_neDigits.cfg [RK.own (1 : Nat)] n Tryz.f30 [1, 1, 0, 1, 0] [] m3 (St.mk [V.undef, V.undef, V.undef, V.rw (0 : Nat), V.undef, V.undef, V.undef, V.one false (D.sl (1 : Nat) l0), V.one true (D.int IntKind.i64 i1), V.one true (D.int IntKind.i64 i2), V.undef, V.undef, V.undef, V.undef, V.undef, V.undef, V.undef, V.undef, V.undef, V.undef, V.undef, V.undef] [Ob.row false (1 : Nat) l3])
theorem spec_neDigits.l3_eq (n : Nat) (m3 : Nat) (l0 : List (List D)) (i1 : Int) (i2 : Int) (l3 : List (List D)) :
    spec_neDigits.l3 n (m3 + 1) l0 i1 i2 l3 = bif decide (i2 < i1) then bif decide ((0 : Int) ≤ i2) then bif decide (i2 < (↑(List.length l0) : Int)) then Option.bind (Option.bind (some (cellD l0 (Int.toNat i2) (0 : Nat))) (D.int? IntKind.u8)) fun (i1_1 : Int) => bif i1_1 != (46 : Int) then bif decide (List.length l3 + (1 : Nat) ≤ (17179869184 : Nat)) then spec_neDigits.l3 n m3 l0 i1 (IntKind.wrap IntKind.i64 (i2 + (1 : Int))) (l3 ++ [[D.int IntKind.i64 i2]]) else none else spec_neDigits.l3 n m3 l0 i1 (IntKind.wrap IntKind.i64 (i2 + (1 : Int))) l3 else none else none else some [Q.one (D.sl (1 : Nat) l3)] := by kernel_rfl
noncomputable def spec_neDigits.res (n : Nat) (a0_0 : Int) (a0_1 : Int) (a0_2 : List (List D)) : Option (List Q) :=
  spec_neDigits.l3 n n a0_2 (↑(List.length a0_2) : Int) (0 : Int) []
theorem spec_neDigits.run (n : Nat) (a0_0 : Int) (a0_1 : Int) (a0_2 : List (List D)) :
    run1 spec_neDigits.cfg [RK.own (1 : Nat)] n Tryz.f30 [Q.agg [D.int IntKind.i64 a0_0, D.int IntKind.i64 a0_1, D.sl (1 : Nat) a0_2]] = spec_neDigits.res n a0_0 a0_1 a0_2 := by kernel_rfl
theorem spec_neDigits.ev {n : Nat} {a0_0 : Int} {a0_1 : Int} {a0_2 : List (List D)} {r : List Q} (h : spec_neDigits.res n a0_0 a0_1 a0_2 = some r) : Snd Tryz.prog C0 30 [.agg [.int .i64 a0_0, .int .i64 a0_1, .sl 1 a0_2]] r :=
  snd_ev (C := spec_neDigits.cfg) cfg0 mix rfl rfl rfl rfl rfl .nil .nil rfl Tryz.func30 (by kernel_rfl) (by kernel_rfl) rfl ((spec_neDigits.run n a0_0 a0_1 a0_2).trans h)

theorem spec_neDigits.l3_run {n : Nat} {cs : List UInt8} (hl : cs.length ≤ LIM) : ∀ (d k m : Nat) (acc : List Int), k + d = cs.length → d < m → acc.length ≤ k →
    spec_neDigits.l3 n m (u8C.encs cs) ((cs.length : Nat) : Int) (k : Int) (intC.encs acc) = some [Q.one (D.sl 1 (intC.encs (acc ++ digGo (cs.drop k) k)))] := by
  intro d
  induction d with
  | zero =>
    intro k m acc hk hm ha
    obtain ⟨m, rfl⟩ : ∃ m', m = m' + 1 := ⟨m - 1, by omega⟩
    have h1 : ¬ (k : Int) < ((cs.length : Nat) : Int) := by omega
    rw [spec_neDigits.l3_eq, List.drop_of_length_le (by omega), digGo, List.append_nil]
    simp -implicitDefEqProofs only [h1, decide_false, cond_false]
  | succ d ih =>
    intro k m acc hk hm ha
    obtain ⟨m, rfl⟩ : ∃ m', m = m' + 1 := ⟨m - 1, by omega⟩
    have hkl : k < cs.length := by omega
    have h1 : (k : Int) < ((cs.length : Nat) : Int) := by omega
    have h2 : acc.length + 1 ≤ 17179869184 := by unfold LIM at hl; omega
    have s1 := ih (k + 1) m acc (by omega) (by omega) (by omega)
    have s2 := ih (k + 1) m (acc ++ [(k : Int)]) (by omega) (by omega) (by simp; omega)
    rw [spec_neDigits.l3_eq, List.drop_eq_getElem_cons hkl, digGo]
    simp -implicitDefEqProofs only [h1, h2, Cod.encs_len, Int.natCast_nonneg, Int.toNat_natCast, u8C_cell hkl, u8bne cs[k] 46 (k := 46) rfl, decide_true, cond_true, Option.bind_some, intC_snoc, wrap_succ (show k ≤ LIM by omega), s1, s2]
    cases cs[k] == 46 with
    | true => simp only [Bool.not_true, cond_false, cond_true]
    | false => simp only [Bool.not_false, cond_false, cond_true, List.append_assoc, List.singleton_append]
def spec_neDigits.stub : Stub
  | [.agg [.int .i64 w, .int .i64 h, .sl 1 es]] => .any (u8C.decs es) fun cs => .ret [.one (.sl 1 (intC.encs (Sp.digL cs)))]
  | _ => .fail
theorem spec_neDigits.ok : StubOk Tryz.prog C0 30 spec_neDigits.stub := by
  intro args res h
  unfold spec_neDigits.stub at h
  split at h
  · rename_i w h' es
    obtain ⟨cs, h1, h0⟩ := any_out h
    obtain ⟨rfl, hl⟩ := Cod.decs_inv h1
    cases h0
    refine spec_neDigits.ev (n := cs.length + 1) ?_
    unfold spec_neDigits.res
    rw [Cod.encs_len]
    exact spec_neDigits.l3_run (n := cs.length + 1) hl cs.length 0 (cs.length + 1) [] (by omega) (by omega) (by simp)
  · cases h
/-! spec_neStep -/
noncomputable def spec_neStep.cfg : Cfg := { C0 with keep := fun _ => none, nb := 0, M := tabM [(57, spec_boNext.stub), (58, spec_l1In.stub)], MM := tabB [] }
noncomputable def spec_neStep.res (n : Nat) (a0_0 : Int) (a0_1 : Int) (a0_2 : List (List D)) (a1 : Int) (a2 : Int) : Option (List Q) :=
  bif !decide (a0_0 = (0 : Int)) then bif !decide (a0_0 = (0 : Int)) then bif inR (Int.tmod a1 a0_0) (0 : Int) (6 : Int) then bif inR (IntKind.wrap IntKind.i64 (Int.tdiv a1 a0_0)) (0 : Int) (6 : Int) then bif !inR (nxX (Int.tmod a1 a0_0) a2) (0 : Int) (IntKind.wrap IntKind.i64 (a0_0 - (1 : Int))) then some [Q.one (D.int IntKind.i64 (-1 : Int))] else bif !inR (nxY (IntKind.wrap IntKind.i64 (Int.tdiv a1 a0_0)) a2) (0 : Int) (IntKind.wrap IntKind.i64 (a0_1 - (1 : Int))) then some [Q.one (D.int IntKind.i64 (-1 : Int))] else bif decide ((0 : Int) ≤ IntKind.wrap IntKind.i64 (IntKind.wrap IntKind.i64 (nxY (IntKind.wrap IntKind.i64 (Int.tdiv a1 a0_0)) a2 * a0_0) + nxX (Int.tmod a1 a0_0) a2)) then bif decide (IntKind.wrap IntKind.i64 (IntKind.wrap IntKind.i64 (nxY (IntKind.wrap IntKind.i64 (Int.tdiv a1 a0_0)) a2 * a0_0) + nxX (Int.tmod a1 a0_0) a2) < (↑(List.length a0_2) : Int)) then Option.bind (Option.bind (some (cellD a0_2 (Int.toNat (IntKind.wrap IntKind.i64 (IntKind.wrap IntKind.i64 (nxY (IntKind.wrap IntKind.i64 (Int.tdiv a1 a0_0)) a2 * a0_0) + nxX (Int.tmod a1 a0_0) a2))) (0 : Nat))) (D.int? IntKind.u8)) fun (i1 : Int) => bif i1 == (46 : Int) then some [Q.one (D.int IntKind.i64 (-1 : Int))] else some [Q.one (D.int IntKind.i64 (IntKind.wrap IntKind.i64 (IntKind.wrap IntKind.i64 (nxY (IntKind.wrap IntKind.i64 (Int.tdiv a1 a0_0)) a2 * a0_0) + nxX (Int.tmod a1 a0_0) a2)))] else none else none else none else none else none else none
theorem spec_neStep.run (n : Nat) (a0_0 : Int) (a0_1 : Int) (a0_2 : List (List D)) (a1 : Int) (a2 : Int) :
    run1 spec_neStep.cfg [RK.one (LK.int IntKind.i64)] n Tryz.f31 [Q.agg [D.int IntKind.i64 a0_0, D.int IntKind.i64 a0_1, D.sl (1 : Nat) a0_2], Q.one (D.int IntKind.i64 a1), Q.one (D.int IntKind.i64 a2)] = spec_neStep.res n a0_0 a0_1 a0_2 a1 a2 := by kernel_rfl
theorem spec_neStep.ev {n : Nat} {a0_0 : Int} {a0_1 : Int} {a0_2 : List (List D)} {a1 : Int} {a2 : Int} {r : List Q} (h : spec_neStep.res n a0_0 a0_1 a0_2 a1 a2 = some r) : Snd Tryz.prog C0 31 [.agg [.int .i64 a0_0, .int .i64 a0_1, .sl 1 a0_2], .one (.int .i64 a1), .one (.int .i64 a2)] r :=
  snd_ev (C := spec_neStep.cfg) cfg0 mix rfl rfl rfl rfl rfl (.cons spec_boNext.ok (.cons spec_l1In.ok .nil)) .nil rfl Tryz.func31 (by kernel_rfl) (by kernel_rfl) rfl ((spec_neStep.run n a0_0 a0_1 a0_2 a1 a2).trans h)

def spec_neStep.stub : Stub
  | [.agg [.int .i64 w, .int .i64 h, .sl 1 es], .one (.int .i64 i), .one (.int .i64 dir)] => .any (u8C.decs es) fun cs => .gd (Sp.inR w 1 6) (.gd (Sp.inR h 1 6) (.gd (Sp.inR i 0 (w * h - 1)) (.gd (decide (cs.length = w.toNat * h.toNat)) (.gd (Sp.inR dir 0 3) (.ret [.one (.int .i64 (Sp.stF w h cs i dir.toNat))])))))
  | _ => .fail
theorem spec_neStep.ok : StubOk Tryz.prog C0 31 spec_neStep.stub := by
  intro args res h
  unfold spec_neStep.stub at h
  split at h
  · rename_i w h' es i dir
    obtain ⟨cs, h1, h0⟩ := any_out h
    obtain ⟨rfl, hl⟩ := Cod.decs_inv h1
    obtain ⟨k1, h0⟩ := gd_out h0
    obtain ⟨k2, h0⟩ := gd_out h0
    obtain ⟨k3, h0⟩ := gd_out h0
    obtain ⟨k4, h0⟩ := gd_out h0
    obtain ⟨k5, h0⟩ := gd_out h0
    cases h0
    have k4 := of_decide_eq_true k4
    unfold inR at k1 k2 k3 k5
    simp only [Bool.and_eq_true, decide_eq_true_eq] at k1 k2 k3 k5
    refine spec_neStep.ev (n := 0) ?_
    unfold spec_neStep.res stF
    obtain ⟨D, rfl⟩ : ∃ D : Nat, dir = (D : Int) := ⟨dir.toNat, by omega⟩
    obtain ⟨W, rfl⟩ : ∃ W : Nat, w = (W : Int) := ⟨w.toNat, by omega⟩
    obtain ⟨H, rfl⟩ : ∃ H : Nat, h' = (H : Int) := ⟨h'.toNat, by omega⟩
    rw [Int.toNat_natCast, Int.toNat_natCast] at k4
    have e1 : Int.tmod i (W : Int) = i % (W : Int) := Int.tmod_eq_emod_of_nonneg k3.1
    have q0 : 0 ≤ i / (W : Int) := Int.ediv_nonneg k3.1 (by omega)
    have q1 : i / (W : Int) < (H : Int) := Int.ediv_lt_of_lt_mul (by omega) (by rw [Int.mul_comm]; omega)
    have r0 : 0 ≤ i % (W : Int) := Int.emod_nonneg _ (by omega)
    have r1 : i % (W : Int) < (W : Int) := Int.emod_lt_of_pos _ (by omega)
    have e2 : IntKind.wrap .i64 (Int.tdiv i (W : Int)) = i / (W : Int) := by
      rw [Int.tdiv_eq_ediv_of_nonneg k3.1, wrap_in (by omega) (by omega)]
    have z1 : ¬ (W : Int) = 0 := by omega
    have g1 : inR (i % (W : Int)) 0 6 = true := by unfold inR; simp; omega
    have g2 : inR (i / (W : Int)) 0 6 = true := by unfold inR; simp; omega
    have w1 : IntKind.wrap .i64 ((W : Int) - 1) = (W : Int) - 1 := wrap_in (by omega) (by omega)
    have w2 : IntKind.wrap .i64 ((H : Int) - 1) = (H : Int) - 1 := wrap_in (by omega) (by omega)
    simp -implicitDefEqProofs only [z1, e1, e2, g1, g2, w1, w2, Int.toNat_natCast, decide_false, Bool.not_false, cond_true]
    generalize nxX (i % (W : Int)) (D : Int) = x
    generalize nxY (i / (W : Int)) (D : Int) = y
    cases hx : inR x 0 ((W : Int) - 1) with
    | false => rfl
    | true =>
    cases hy : inR y 0 ((H : Int) - 1) with
    | false => rfl
    | true =>
    unfold inR at hx hy
    simp only [Bool.and_eq_true, decide_eq_true_eq] at hx hy
    obtain ⟨X, rfl⟩ : ∃ X : Nat, x = (X : Int) := ⟨x.toNat, by omega⟩
    obtain ⟨Y, rfl⟩ : ∃ Y : Nat, y = (Y : Int) := ⟨y.toNat, by omega⟩
    have hlt : Y * W + X < cs.length := by
      have : (Y + 1) * W ≤ H * W := Nat.mul_le_mul_right _ (by omega)
      rw [Nat.add_mul] at this
      rw [k4, Nat.mul_comm W H]; omega
    have hYW : Y * W ≤ 6 * 6 := Nat.mul_le_mul (by omega) (by omega)
    have eN : (Y : Int) * (W : Int) + (X : Int) = ((Y * W + X : Nat) : Int) := by rw [← Int.natCast_mul, ← Int.natCast_add]
    have w3 : IntKind.wrap .i64 ((Y : Int) * (W : Int)) = (Y : Int) * (W : Int) := by
      rw [← Int.natCast_mul]; exact wrap_in (by omega) (by omega)
    have w4 : IntKind.wrap .i64 (((Y * W + X : Nat)) : Int) = ((Y * W + X : Nat) : Int) := wrap_in (by omega) (by omega)
    have h2 : ((Y * W + X : Nat) : Int) < ((cs.length : Nat) : Int) := by omega
    simp -implicitDefEqProofs only [Bool.not_true, cond_false, w3, eN, w4, h2, Cod.encs_len, Int.natCast_nonneg, Int.toNat_natCast, decide_true, cond_true, u8C_gd hlt, Option.bind_some, u8beq (cs.getD (Y * W + X) 0) 46 (k := 46) rfl, Bool.true_and]
    cases cs.getD (Y * W + X) 0 == 46 <;> rfl
  · cases h
end Go.Proofs.EV.PL
set_option linter.unusedVariables false
set_option linter.unusedSimpArgs false
set_option maxHeartbeats 4000000
/-! The reference's reading of nets, and how a die rolls over them. -/
namespace Go.Proofs.EV.PL
open Go Go.Proofs Go.Proofs.EV Sp
/-! spec_neRead -/
noncomputable def spec_neRead.cfg : Cfg := { C0 with keep := fun | 6 => some [0, 1, 4, 6, 7, 8] | _ => none, nb := 0, M := tabM [], MM := tabB [] }
noncomputable def spec_neRead.l6 (n : Nat) (m6 : Nat) (s0 : ByteArray) (b1 : Bool) (i2 : Int) (i3 : Int) (i4 : Int) (i5 : Int) (l6 : List (List D)) (i7 : Int) (i8 : Int) (l9 : List (List D)) : Option (List Q) :=
  loopAt spec_neRead.cfg [RK.agg [LK.int IntKind.i64, LK.int IntKind.i64, LK.sl (1 : Nat)], RK.one LK.bool] n Tryz.f48 [1, 1, 1, 1, 0, 1, 0] [] m6 (St.mk [V.one true (D.str s0), V.one true (D.bool b1), V.undef, V.undef, V.rp (0 : Nat) (0 : Nat), V.undef, V.rp (2 : Nat) (0 : Nat), V.one true (D.int IntKind.i64 i2), V.one true (D.int IntKind.i64 i3), V.undef, V.undef, V.undef, V.undef, V.undef, V.undef, V.undef, V.undef, V.undef, V.undef, V.undef, V.undef, V.undef, V.undef, V.undef, V.undef, V.undef, V.undef, V.undef, V.undef, V.undef, V.undef, V.undef, V.undef, V.undef, V.undef, V.undef, V.undef, V.undef, V.undef, V.undef, V.undef, V.undef, V.undef, V.undef, V.undef, V.undef, V.undef, V.undef, V.undef, V.undef, V.undef, V.undef, V.undef, V.undef, V.undef, V.undef, V.undef, V.undef, V.undef, V.undef, V.undef, V.undef, V.undef, V.undef, V.undef, V.undef, V.undef, V.undef, V.undef, V.undef, V.undef, V.undef, V.undef, V.undef, V.undef, V.undef, V.undef, V.undef, V.undef, V.undef, V.undef, V.undef, V.undef, V.undef, V.undef, V.undef, V.undef, V.undef, V.undef, V.undef, V.undef, V.undef, V.undef, V.undef] [Ob.box [V.one true (D.int IntKind.i64 i4), V.one true (D.int IntKind.i64 i5), V.rw (1 : Nat)], Ob.row false (1 : Nat) l6, Ob.box [V.one true (D.int IntKind.i64 i7), V.one true (D.int IntKind.i64 i8), V.rw (3 : Nat)], Ob.row false (1 : Nat) l9])
theorem spec_neRead.l6_eq (n : Nat) (m6 : Nat) (s0 : ByteArray) (b1 : Bool) (i2 : Int) (i3 : Int) (i4 : Int) (i5 : Int) (l6 : List (List D)) (i7 : Int) (i8 : Int) (l9 : List (List D)) :
    spec_neRead.l6 n (m6 + 1) s0 b1 i2 i3 i4 i5 l6 i7 i8 l9 = bif decide (i3 ≤ (↑(ByteArray.size s0) : Int)) then bif decide (i3 < (↑(ByteArray.size s0) : Int)) then bif decide ((0 : Int) ≤ i3) then bif decide (i3 < (↑(ByteArray.size s0) : Int)) then bif byteAt s0 (Int.toNat i3) != (47 : Int) then bif decide ((0 : Int) ≤ i3) then bif decide (i3 < (↑(ByteArray.size s0) : Int)) then bif decide (byteAt s0 (Int.toNat i3) ≥ (48 : Int)) then bif decide ((0 : Int) ≤ i3) then bif decide (i3 < (↑(ByteArray.size s0) : Int)) then bif decide (byteAt s0 (Int.toNat i3) ≤ (57 : Int)) then bif !b1 then bif decide ((0 : Int) ≤ i3) then bif decide (i3 < (↑(ByteArray.size s0) : Int)) then bif byteAt s0 (Int.toNat i3) != (46 : Int) then bif decide ((0 : Int) ≤ i3) then bif decide (i3 < (↑(ByteArray.size s0) : Int)) then bif decide (List.length l9 + (1 : Nat) ≤ (17179869184 : Nat)) then spec_neRead.l6 n m6 s0 b1 (IntKind.wrap IntKind.i64 (i2 + (1 : Int))) (IntKind.wrap IntKind.i64 (i3 + (1 : Int))) i4 i5 l6 i7 i8 (l9 ++ [[D.int IntKind.u8 (byteAt s0 (Int.toNat i3))]]) else none else none else none else bif decide ((0 : Int) ≤ i3) then bif decide (i3 < (↑(ByteArray.size s0) : Int)) then bif decide (List.length l9 + (1 : Nat) ≤ (17179869184 : Nat)) then spec_neRead.l6 n m6 s0 b1 (IntKind.wrap IntKind.i64 (i2 + (1 : Int))) (IntKind.wrap IntKind.i64 (i3 + (1 : Int))) i4 i5 l6 i7 i8 (l9 ++ [[D.int IntKind.u8 (byteAt s0 (Int.toNat i3))]]) else none else none else none else none else none else bif decide ((0 : Int) ≤ i3) then bif decide (i3 < (↑(ByteArray.size s0) : Int)) then bif byteAt s0 (Int.toNat i3) == (111 : Int) then bif decide ((0 : Int) ≤ i3) then bif decide (i3 < (↑(ByteArray.size s0) : Int)) then bif byteAt s0 (Int.toNat i3) != (46 : Int) then bif !b1 then some [Q.agg [D.int IntKind.i64 (0 : Int), D.int IntKind.i64 (0 : Int), D.sl (1 : Nat) []], Q.one (D.bool false)] else bif decide ((0 : Int) ≤ i3) then bif decide (i3 < (↑(ByteArray.size s0) : Int)) then bif decide (List.length l9 + (1 : Nat) ≤ (17179869184 : Nat)) then spec_neRead.l6 n m6 s0 b1 (IntKind.wrap IntKind.i64 (i2 + (1 : Int))) (IntKind.wrap IntKind.i64 (i3 + (1 : Int))) i4 i5 l6 i7 i8 (l9 ++ [[D.int IntKind.u8 (byteAt s0 (Int.toNat i3))]]) else none else none else none else bif decide ((0 : Int) ≤ i3) then bif decide (i3 < (↑(ByteArray.size s0) : Int)) then bif decide (List.length l9 + (1 : Nat) ≤ (17179869184 : Nat)) then spec_neRead.l6 n m6 s0 b1 (IntKind.wrap IntKind.i64 (i2 + (1 : Int))) (IntKind.wrap IntKind.i64 (i3 + (1 : Int))) i4 i5 l6 i7 i8 (l9 ++ [[D.int IntKind.u8 (byteAt s0 (Int.toNat i3))]]) else none else none else none else none else none else bif decide ((0 : Int) ≤ i3) then bif decide (i3 < (↑(ByteArray.size s0) : Int)) then bif byteAt s0 (Int.toNat i3) != (46 : Int) then some [Q.agg [D.int IntKind.i64 (0 : Int), D.int IntKind.i64 (0 : Int), D.sl (1 : Nat) []], Q.one (D.bool false)] else bif decide ((0 : Int) ≤ i3) then bif decide (i3 < (↑(ByteArray.size s0) : Int)) then bif decide (List.length l9 + (1 : Nat) ≤ (17179869184 : Nat)) then spec_neRead.l6 n m6 s0 b1 (IntKind.wrap IntKind.i64 (i2 + (1 : Int))) (IntKind.wrap IntKind.i64 (i3 + (1 : Int))) i4 i5 l6 i7 i8 (l9 ++ [[D.int IntKind.u8 (byteAt s0 (Int.toNat i3))]]) else none else none else none else none else none else none else none else bif decide ((0 : Int) ≤ i3) then bif decide (i3 < (↑(ByteArray.size s0) : Int)) then bif byteAt s0 (Int.toNat i3) == (111 : Int) then bif decide ((0 : Int) ≤ i3) then bif decide (i3 < (↑(ByteArray.size s0) : Int)) then bif byteAt s0 (Int.toNat i3) != (46 : Int) then bif !b1 then some [Q.agg [D.int IntKind.i64 (0 : Int), D.int IntKind.i64 (0 : Int), D.sl (1 : Nat) []], Q.one (D.bool false)] else bif decide ((0 : Int) ≤ i3) then bif decide (i3 < (↑(ByteArray.size s0) : Int)) then bif decide (List.length l9 + (1 : Nat) ≤ (17179869184 : Nat)) then spec_neRead.l6 n m6 s0 b1 (IntKind.wrap IntKind.i64 (i2 + (1 : Int))) (IntKind.wrap IntKind.i64 (i3 + (1 : Int))) i4 i5 l6 i7 i8 (l9 ++ [[D.int IntKind.u8 (byteAt s0 (Int.toNat i3))]]) else none else none else none else bif decide ((0 : Int) ≤ i3) then bif decide (i3 < (↑(ByteArray.size s0) : Int)) then bif decide (List.length l9 + (1 : Nat) ≤ (17179869184 : Nat)) then spec_neRead.l6 n m6 s0 b1 (IntKind.wrap IntKind.i64 (i2 + (1 : Int))) (IntKind.wrap IntKind.i64 (i3 + (1 : Int))) i4 i5 l6 i7 i8 (l9 ++ [[D.int IntKind.u8 (byteAt s0 (Int.toNat i3))]]) else none else none else none else none else none else bif decide ((0 : Int) ≤ i3) then bif decide (i3 < (↑(ByteArray.size s0) : Int)) then bif byteAt s0 (Int.toNat i3) != (46 : Int) then some [Q.agg [D.int IntKind.i64 (0 : Int), D.int IntKind.i64 (0 : Int), D.sl (1 : Nat) []], Q.one (D.bool false)] else bif decide ((0 : Int) ≤ i3) then bif decide (i3 < (↑(ByteArray.size s0) : Int)) then bif decide (List.length l9 + (1 : Nat) ≤ (17179869184 : Nat)) then spec_neRead.l6 n m6 s0 b1 (IntKind.wrap IntKind.i64 (i2 + (1 : Int))) (IntKind.wrap IntKind.i64 (i3 + (1 : Int))) i4 i5 l6 i7 i8 (l9 ++ [[D.int IntKind.u8 (byteAt s0 (Int.toNat i3))]]) else none else none else none else none else none else none else none else none else none else bif decide ((0 : Int) ≤ i3) then bif decide (i3 < (↑(ByteArray.size s0) : Int)) then bif byteAt s0 (Int.toNat i3) == (111 : Int) then bif decide ((0 : Int) ≤ i3) then bif decide (i3 < (↑(ByteArray.size s0) : Int)) then bif byteAt s0 (Int.toNat i3) != (46 : Int) then bif !b1 then some [Q.agg [D.int IntKind.i64 (0 : Int), D.int IntKind.i64 (0 : Int), D.sl (1 : Nat) []], Q.one (D.bool false)] else bif decide ((0 : Int) ≤ i3) then bif decide (i3 < (↑(ByteArray.size s0) : Int)) then bif decide (List.length l9 + (1 : Nat) ≤ (17179869184 : Nat)) then spec_neRead.l6 n m6 s0 b1 (IntKind.wrap IntKind.i64 (i2 + (1 : Int))) (IntKind.wrap IntKind.i64 (i3 + (1 : Int))) i4 i5 l6 i7 i8 (l9 ++ [[D.int IntKind.u8 (byteAt s0 (Int.toNat i3))]]) else none else none else none else bif decide ((0 : Int) ≤ i3) then bif decide (i3 < (↑(ByteArray.size s0) : Int)) then bif decide (List.length l9 + (1 : Nat) ≤ (17179869184 : Nat)) then spec_neRead.l6 n m6 s0 b1 (IntKind.wrap IntKind.i64 (i2 + (1 : Int))) (IntKind.wrap IntKind.i64 (i3 + (1 : Int))) i4 i5 l6 i7 i8 (l9 ++ [[D.int IntKind.u8 (byteAt s0 (Int.toNat i3))]]) else none else none else none else none else none else bif decide ((0 : Int) ≤ i3) then bif decide (i3 < (↑(ByteArray.size s0) : Int)) then bif byteAt s0 (Int.toNat i3) != (46 : Int) then some [Q.agg [D.int IntKind.i64 (0 : Int), D.int IntKind.i64 (0 : Int), D.sl (1 : Nat) []], Q.one (D.bool false)] else bif decide ((0 : Int) ≤ i3) then bif decide (i3 < (↑(ByteArray.size s0) : Int)) then bif decide (List.length l9 + (1 : Nat) ≤ (17179869184 : Nat)) then spec_neRead.l6 n m6 s0 b1 (IntKind.wrap IntKind.i64 (i2 + (1 : Int))) (IntKind.wrap IntKind.i64 (i3 + (1 : Int))) i4 i5 l6 i7 i8 (l9 ++ [[D.int IntKind.u8 (byteAt s0 (Int.toNat i3))]]) else none else none else none else none else none else none else none else none else none else bif decide (i8 > (0 : Int)) then bif i2 != i7 then some [Q.agg [D.int IntKind.i64 (0 : Int), D.int IntKind.i64 (0 : Int), D.sl (1 : Nat) []], Q.one (D.bool false)] else bif i2 == (0 : Int) then some [Q.agg [D.int IntKind.i64 (0 : Int), D.int IntKind.i64 (0 : Int), D.sl (1 : Nat) []], Q.one (D.bool false)] else spec_neRead.l6 n m6 s0 b1 (0 : Int) (IntKind.wrap IntKind.i64 (i3 + (1 : Int))) i4 i5 l6 i2 (IntKind.wrap IntKind.i64 (i8 + (1 : Int))) l9 else bif i2 == (0 : Int) then some [Q.agg [D.int IntKind.i64 (0 : Int), D.int IntKind.i64 (0 : Int), D.sl (1 : Nat) []], Q.one (D.bool false)] else spec_neRead.l6 n m6 s0 b1 (0 : Int) (IntKind.wrap IntKind.i64 (i3 + (1 : Int))) i4 i5 l6 i2 (IntKind.wrap IntKind.i64 (i8 + (1 : Int))) l9 else none else none else bif decide (i8 > (0 : Int)) then bif i2 != i7 then some [Q.agg [D.int IntKind.i64 (0 : Int), D.int IntKind.i64 (0 : Int), D.sl (1 : Nat) []], Q.one (D.bool false)] else bif i2 == (0 : Int) then some [Q.agg [D.int IntKind.i64 (0 : Int), D.int IntKind.i64 (0 : Int), D.sl (1 : Nat) []], Q.one (D.bool false)] else spec_neRead.l6 n m6 s0 b1 (0 : Int) (IntKind.wrap IntKind.i64 (i3 + (1 : Int))) i4 i5 l6 i2 (IntKind.wrap IntKind.i64 (i8 + (1 : Int))) l9 else bif i2 == (0 : Int) then some [Q.agg [D.int IntKind.i64 (0 : Int), D.int IntKind.i64 (0 : Int), D.sl (1 : Nat) []], Q.one (D.bool false)] else spec_neRead.l6 n m6 s0 b1 (0 : Int) (IntKind.wrap IntKind.i64 (i3 + (1 : Int))) i4 i5 l6 i2 (IntKind.wrap IntKind.i64 (i8 + (1 : Int))) l9 else some [Q.agg [D.int IntKind.i64 i7, D.int IntKind.i64 i8, D.sl (1 : Nat) l9], Q.one (D.bool true)] := by kernel_rfl
noncomputable def spec_neRead.res (n : Nat) (a0 : ByteArray) (a1 : Bool) : Option (List Q) :=
  bif decide ((↑(ByteArray.size a0) : Int) > (41 : Int)) then some [Q.agg [D.int IntKind.i64 (0 : Int), D.int IntKind.i64 (0 : Int), D.sl (1 : Nat) []], Q.one (D.bool false)] else spec_neRead.l6 n n a0 a1 (0 : Int) (0 : Int) (0 : Int) (0 : Int) [] (0 : Int) (0 : Int) []
theorem spec_neRead.run (n : Nat) (a0 : ByteArray) (a1 : Bool) :
    run1 spec_neRead.cfg [RK.agg [LK.int IntKind.i64, LK.int IntKind.i64, LK.sl (1 : Nat)], RK.one LK.bool] n Tryz.f48 [Q.one (D.str a0), Q.one (D.bool a1)] = spec_neRead.res n a0 a1 := by kernel_rfl
theorem spec_neRead.ev {n : Nat} {a0 : ByteArray} {a1 : Bool} {r : List Q} (h : spec_neRead.res n a0 a1 = some r) : Snd Tryz.prog C0 48 [.one (.str a0), .one (.bool a1)] r :=
  snd_ev (C := spec_neRead.cfg) cfg0 mix rfl rfl rfl rfl rfl .nil .nil rfl Tryz.func48 (by kernel_rfl) (by kernel_rfl) rfl ((spec_neRead.run n a0 a1).trans h)

def zeroN : List Q := [Q.agg [.int .i64 0, .int .i64 0, .sl 1 []], .one (.bool false)]
def outN : Option (Nat × Nat × List UInt8) → List Q
  | none => zeroN
  | some (w, h, cs) => [Q.agg [.int .i64 w, .int .i64 h, .sl 1 (u8C.encs cs)], .one (.bool true)]
theorem nb_nat (a b : Nat) : ((a : Int) != (b : Int)) = decide (a ≠ b) := by
  rw [bne, Bool.eq_iff_iff]
  simp only [Bool.not_eq_true', beq_eq_false_iff_ne, decide_eq_true_eq]
  omega
theorem nb_zero (a : Nat) : ((a : Int) == 0) = decide (a = 0) := by
  rw [Bool.eq_iff_iff, beq_iff_eq, decide_eq_true_eq]
  omega
theorem nb_gt (a : Nat) : decide ((a : Int) > 0) = decide (0 < a) := by
  rw [Bool.eq_iff_iff, decide_eq_true_eq, decide_eq_true_eq]
  omega
theorem spec_neRead.l6_run {n : Nat} {s : ByteArray} {mk : Bool} (hs : s.size ≤ 41) : ∀ (d i m x w h : Nat) (cs : List UInt8), i + d = s.size → d + 1 < m → x ≤ i → h ≤ i → cs.length ≤ i →
    spec_neRead.l6 n m s mk (x : Int) (i : Int) 0 0 [] (w : Int) (h : Int) (u8C.encs cs) = some (outN (rdGo (neQ mk) ((bl s).drop i) x w h cs)) := by
  intro d
  induction d with
  | zero =>
    intro i m x w h cs hi hm hx hh hcs
    obtain ⟨m, rfl⟩ : ∃ m', m = m' + 1 + 1 := ⟨m - 2, by omega⟩
    have h1 : (i : Int) ≤ ((s.size : Nat) : Int) := by omega
    have h2 : ¬ (i : Int) < ((s.size : Nat) : Int) := by omega
    have h3 : ¬ ((i + 1 : Nat) : Int) ≤ ((s.size : Nat) : Int) := by omega
    rw [spec_neRead.l6_eq, List.drop_of_length_le (by rw [bl_len]; omega), rdGo]
    have e : spec_neRead.l6 n (m + 1) s mk 0 ((i + 1 : Nat) : Int) 0 0 [] (x : Int) ((h + 1 : Nat) : Int) (u8C.encs cs) = some (outN (some (x, h + 1, cs))) := by
      rw [spec_neRead.l6_eq]
      simp only [h3, decide_false, cond_false]
      rfl
    simp only [h1, h2, decide_true, decide_false, cond_true, cond_false, wrap_succ (show i ≤ LIM by unfold LIM; omega), wrap_succ (show h ≤ LIM by unfold LIM; omega), e]
    rw [nb_gt, nb_nat, nb_zero]
    rw [show ∀ b, outN (bif b then none else some (x, h + 1, cs)) = bif b then zeroN else outN (some (x, h + 1, cs)) from fun b => by cases b <;> rfl]
    clear e
    generalize outN (some (x, h + 1, cs)) = z
    unfold badN
    cases decide (0 < h) <;> cases decide (x ≠ w) <;> cases decide (x = 0) <;> rfl
  | succ d ih =>
    intro i m x w h cs hi hm hx hh hcs
    obtain ⟨m, rfl⟩ : ∃ m', m = m' + 1 := ⟨m - 1, by omega⟩
    have hlt : i < (bl s).length := by rw [bl_len]; omega
    have h1 : (i : Int) ≤ ((s.size : Nat) : Int) := by omega
    have h2 : (i : Int) < ((s.size : Nat) : Int) := by omega
    have h4 : cs.length + 1 ≤ 17179869184 := by omega
    rw [spec_neRead.l6_eq, List.drop_eq_getElem_cons hlt, rdGo]
    have step := ih (i + 1) m (x + 1) w h (cs ++ [(bl s)[i]]) (by omega) (by omega) (by omega) (by omega) (by rw [List.length_append, List.length_singleton]; omega)
    have step2 : spec_neRead.l6 n m s mk 0 ((i + 1 : Nat) : Int) 0 0 [] (x : Int) ((h + 1 : Nat) : Int) (u8C.encs cs) = _ := ih (i + 1) m 0 x (h + 1) cs (by omega) (by omega) (by omega) (by omega) (by omega)
    simp only [h1, h2, h4, Cod.encs_len, Int.natCast_nonneg, Int.toNat_natCast, decide_true, cond_true, byteAt_bl hlt, ge_iff_le,
      wrap_succ (show i ≤ LIM by unfold LIM; omega), wrap_succ (show h ≤ LIM by unfold LIM; omega), wrap_succ (show x ≤ LIM by unfold LIM; omega), u8C_snoc, step, step2]
    clear step step2 ih
    rw [u8bne (bl s)[i] 47 (k := 47) rfl, u8bne (bl s)[i] 46 (k := 46) rfl, u8beq (bl s)[i] 111 (k := 111) rfl, nb_gt, nb_nat, nb_zero]
    unfold neQ isDg
    generalize rdGo _ _ (x + 1) _ _ _ = z1
    generalize rdGo _ _ 0 _ _ _ = z2
    cases (bl s)[i] == 47
    · cases mk <;> cases (bl s)[i] == 46 <;> cases (bl s)[i] == 111 <;> cases decide (48 ≤ ((bl s)[i].toNat : Int)) <;> cases decide (((bl s)[i].toNat : Int) ≤ 57) <;> rfl
    · unfold badN
      cases decide (0 < h) <;> cases decide (x ≠ w) <;> cases decide (x = 0) <;> rfl
def spec_neRead.stub : Stub
  | [.one (.str s), .one (.bool m)] => .ret [.agg [.int .i64 (Sp.neW m s : Nat), .int .i64 (Sp.neH m s : Nat), .sl 1 (u8C.encs (Sp.neC m s))], .one (.bool (Sp.neB m s))]
  | _ => .fail
theorem spec_neRead.ok : StubOk Tryz.prog C0 48 spec_neRead.stub := by
  intro args res h
  unfold spec_neRead.stub at h
  split at h
  · rename_i s mk
    cases h
    refine spec_neRead.ev (n := s.size + 3) ?_
    unfold spec_neRead.res
    by_cases hs : s.size ≤ 41
    · have h1 : ¬ ((s.size : Nat) : Int) > 41 := by omega
      rw [decide_eq_false h1, cond_false]
      have key := spec_neRead.l6_run (n := s.size + 3) (mk := mk) hs s.size 0 (s.size + 3) 0 0 0 [] (by omega) (by omega) (by omega) (by omega) (by simp)
      refine Eq.trans key ?_
      rw [List.drop_zero, rdGo_eq]
      unfold neW neH neC neB
      rw [decide_eq_true hs, Bool.true_and]
      cases fine (neQ mk) (rws s) && decide (0 < wOf (rws s)) <;> rfl
    · have h1 : ((s.size : Nat) : Int) > 41 := by omega
      rw [decide_eq_true h1, cond_true]
      unfold neW neH neC neB
      rw [decide_eq_false hs, Bool.false_and]
      rfl
  · cases h
end Go.Proofs.EV.PL
set_option linter.unusedVariables false
set_option linter.unusedSimpArgs false
set_option maxHeartbeats 4000000
/-! The reference's die rolls over cells. -/
namespace Go.Proofs.EV.PL
open Go Go.Proofs Go.Proofs.EV Sp
theorem fill_run {l : List Int} (k : Nat) (h : k < l.length) (v : Int) : (List.replicate k v ++ l.drop k).set k v = List.replicate (k + 1) v ++ l.drop (k + 1) := by
  rw [List.set_append_right _ _ (by simp)]
  simp only [List.length_replicate, Nat.sub_self]
  rw [List.drop_eq_getElem_cons h, List.set_cons_zero, List.replicate_succ', List.append_assoc]
  rfl
theorem wh_in {W H : Nat} {i : Int} (h : 0 ≤ i ∧ i < ((W * H : Nat) : Int)) : inR i 0 ((W : Int) * (H : Int) - 1) = true := by
  have : (W : Int) * (H : Int) = ((W * H : Nat) : Int) := by rw [Int.natCast_mul]
  rw [this]
  unfold inR
  rw [Bool.and_eq_true, decide_eq_true_eq, decide_eq_true_eq]
  omega
theorem w_in {W : Nat} (h : 1 ≤ W ∧ W ≤ 6) : inR (W : Int) 1 6 = true := by
  unfold inR
  rw [Bool.and_eq_true, decide_eq_true_eq, decide_eq_true_eq]
  omega
theorem d_in {d : Nat} (h : d < 4) : inR (d : Int) 0 3 = true := by
  unfold inR
  rw [Bool.and_eq_true, decide_eq_true_eq, decide_eq_true_eq]
  omega
/-! spec_neFar -/
noncomputable def spec_neFar.cfg : Cfg := { C0 with keep := fun | 3 => some [1, 3, 15, 16] | 13 => some [1, 3, 6, 7] | 16 => some [1, 3, 6, 7, 8] | _ => none, nb := 0, M := tabM [(30, spec_neDigits.stub), (31, spec_neStep.stub)], MM := tabB [] }
noncomputable def spec_neFar.l3 (n : Nat) (m3 : Nat) (i0 : Int) (i1 : Int) (i2 : Int) (i3 : Int) (l4 : List (List D)) (l5 : List (List D)) : Option (List Q) :=
  loopAt spec_neFar.cfg [RK.own (1 : Nat)] n Tryz.f79 [1, 1, 0, 1, 0] [] m3 (St.mk [V.undef, V.rp (0 : Nat) (0 : Nat), V.undef, V.rw (1 : Nat), V.undef, V.undef, V.undef, V.undef, V.undef, V.undef, V.undef, V.undef, V.undef, V.undef, V.undef, V.one true (D.int IntKind.i64 i0), V.one true (D.int IntKind.i64 i1), V.undef, V.undef, V.undef, V.undef, V.undef, V.undef, V.undef, V.undef, V.undef, V.undef, V.undef, V.undef, V.undef, V.undef, V.undef, V.undef, V.undef, V.undef, V.undef, V.undef, V.undef, V.undef, V.undef, V.undef, V.undef, V.undef, V.undef, V.undef, V.undef, V.undef, V.undef, V.undef, V.undef, V.undef, V.undef, V.undef, V.undef, V.undef, V.undef, V.undef, V.undef, V.undef, V.undef, V.undef, V.undef, V.undef, V.undef, V.undef, V.undef, V.undef, V.undef, V.undef, V.undef, V.undef, V.undef, V.undef, V.undef, V.undef, V.undef, V.undef, V.undef, V.undef, V.undef] [Ob.box [V.one true (D.int IntKind.i64 i2), V.one true (D.int IntKind.i64 i3), V.one false (D.sl (1 : Nat) l4)], Ob.row false (1 : Nat) l5])
noncomputable def spec_neFar.l13 (n : Nat) (m13 : Nat) (i0 : Int) (i1 : Int) (i2 : Int) (l3 : List (List D)) (l4 : List (List D)) (l5 : List (List D)) : Option (List Q) :=
  loopAt spec_neFar.cfg [RK.own (1 : Nat)] n Tryz.f79 [1, 1, 1, 1, 1, 1, 1, 0, 1, 0] [] m13 (St.mk [V.undef, V.rp (0 : Nat) (0 : Nat), V.undef, V.rw (1 : Nat), V.undef, V.undef, V.rw (2 : Nat), V.one true (D.int IntKind.i64 i0), V.undef, V.undef, V.undef, V.undef, V.undef, V.undef, V.undef, V.undef, V.undef, V.undef, V.undef, V.undef, V.undef, V.undef, V.undef, V.undef, V.undef, V.undef, V.undef, V.undef, V.undef, V.undef, V.undef, V.undef, V.undef, V.undef, V.undef, V.undef, V.undef, V.undef, V.undef, V.undef, V.undef, V.undef, V.undef, V.undef, V.undef, V.undef, V.undef, V.undef, V.undef, V.undef, V.undef, V.undef, V.undef, V.undef, V.undef, V.undef, V.undef, V.undef, V.undef, V.undef, V.undef, V.undef, V.undef, V.undef, V.undef, V.undef, V.undef, V.undef, V.undef, V.undef, V.undef, V.undef, V.undef, V.undef, V.undef, V.undef, V.undef, V.undef, V.undef, V.undef] [Ob.box [V.one true (D.int IntKind.i64 i1), V.one true (D.int IntKind.i64 i2), V.one false (D.sl (1 : Nat) l3)], Ob.row false (1 : Nat) l4, Ob.row false (1 : Nat) l5])
noncomputable def spec_neFar.l16 (n : Nat) (m13 : Nat) (m16 : Nat) (i0 : Int) (i1 : Int) (i2 : Int) (i3 : Int) (l4 : List (List D)) (l5 : List (List D)) (l6 : List (List D)) : Option (List Q) :=
  loopAt spec_neFar.cfg [RK.own (1 : Nat)] n Tryz.f79 [1, 1, 1, 1, 1, 1, 1, 0, 1, 0, 0, 1, 0, 0, 1, 0] [m13] m16 (St.mk [V.undef, V.rp (0 : Nat) (0 : Nat), V.undef, V.rw (1 : Nat), V.undef, V.undef, V.rw (2 : Nat), V.one true (D.int IntKind.i64 i0), V.one true (D.int IntKind.i64 i1), V.undef, V.undef, V.undef, V.undef, V.undef, V.undef, V.undef, V.undef, V.undef, V.undef, V.undef, V.undef, V.undef, V.undef, V.undef, V.undef, V.undef, V.undef, V.undef, V.undef, V.undef, V.undef, V.undef, V.undef, V.undef, V.undef, V.undef, V.undef, V.undef, V.undef, V.undef, V.undef, V.undef, V.undef, V.undef, V.undef, V.undef, V.undef, V.undef, V.undef, V.undef, V.undef, V.undef, V.undef, V.undef, V.undef, V.undef, V.undef, V.undef, V.undef, V.undef, V.undef, V.undef, V.undef, V.undef, V.undef, V.undef, V.undef, V.undef, V.undef, V.undef, V.undef, V.undef, V.undef, V.undef, V.undef, V.undef, V.undef, V.undef, V.undef, V.undef] [Ob.box [V.one true (D.int IntKind.i64 i2), V.one true (D.int IntKind.i64 i3), V.one false (D.sl (1 : Nat) l4)], Ob.row false (1 : Nat) l5, Ob.row false (1 : Nat) l6])
theorem spec_neFar.l3_eq (n : Nat) (m3 : Nat) (i0 : Int) (i1 : Int) (i2 : Int) (i3 : Int) (l4 : List (List D)) (l5 : List (List D)) :
    spec_neFar.l3 n (m3 + 1) i0 i1 i2 i3 l4 l5 = bif decide (i1 < i0) then bif decide ((0 : Int) ≤ i1) then bif decide (i1 < (↑(List.length l5) : Int)) then spec_neFar.l3 n m3 i0 (IntKind.wrap IntKind.i64 (i1 + (1 : Int))) i2 i3 l4 (setRow (1 : Nat) l5 (Int.toNat i1) (0 : Nat) [D.int IntKind.i64 (-1 : Int)]) else none else none else Option.bind (Cod.decs u8C l4) fun (l1 : List UInt8) => bif (↑(List.length (Cod.encs intC (digL l1))) : Int) == (0 : Int) then some [Q.one (D.sl (1 : Nat) l5)] else bif decide ((0 : Int) < (↑(List.length (Cod.encs intC (digL l1))) : Int)) then Option.bind (Option.bind (some (cellD (Cod.encs intC (digL l1)) (Int.toNat (0 : Int)) (0 : Nat))) (D.int? IntKind.i64)) fun (i2_1 : Int) => bif decide ((0 : Int) ≤ i2_1) then bif decide (i2_1 < (↑(List.length l5) : Int)) then bif decide ((0 : Int) < (↑(List.length (Cod.encs intC (digL l1))) : Int)) then Option.bind (Option.bind (some (cellD (Cod.encs intC (digL l1)) (Int.toNat (0 : Int)) (0 : Nat))) (D.int? IntKind.i64)) fun (i3_1 : Int) => spec_neFar.l13 n n (0 : Int) i2 i3 l4 (setRow (1 : Nat) l5 (Int.toNat i2_1) (0 : Nat) [D.int IntKind.i64 (0 : Int)]) [[D.int IntKind.i64 i3_1]] else none else none else none else none := by kernel_rfl
theorem spec_neFar.l13_eq (n : Nat) (m13 : Nat) (i0 : Int) (i1 : Int) (i2 : Int) (l3 : List (List D)) (l4 : List (List D)) (l5 : List (List D)) :
    spec_neFar.l13 n (m13 + 1) i0 i1 i2 l3 l4 l5 = bif decide (i0 < (↑(List.length l5) : Int)) then spec_neFar.l16 n m13 n i0 (0 : Int) i1 i2 l3 l4 l5 else some [Q.one (D.sl (1 : Nat) l4)] := by kernel_rfl
theorem spec_neFar.l16_eq (n : Nat) (m13 : Nat) (m16 : Nat) (i0 : Int) (i1 : Int) (i2 : Int) (i3 : Int) (l4 : List (List D)) (l5 : List (List D)) (l6 : List (List D)) :
    spec_neFar.l16 n m13 (m16 + 1) i0 i1 i2 i3 l4 l5 l6 = bif decide (i1 < (4 : Int)) then bif decide ((0 : Int) ≤ i0) then bif decide (i0 < (↑(List.length l6) : Int)) then Option.bind (Option.bind (some (cellD l6 (Int.toNat i0) (0 : Nat))) (D.int? IntKind.i64)) fun (i4 : Int) => Option.bind (Cod.decs u8C l4) fun (l5_1 : List UInt8) => bif inR i2 (1 : Int) (6 : Int) then bif inR i3 (1 : Int) (6 : Int) then bif inR i4 (0 : Int) (i2 * i3 - (1 : Int)) then bif decide (List.length l5_1 = Int.toNat i2 * Int.toNat i3) then bif inR i1 (0 : Int) (3 : Int) then bif decide (stF i2 i3 l5_1 i4 (Int.toNat i1) ≥ (0 : Int)) then bif decide ((0 : Int) ≤ stF i2 i3 l5_1 i4 (Int.toNat i1)) then bif decide (stF i2 i3 l5_1 i4 (Int.toNat i1) < (↑(List.length l5) : Int)) then Option.bind (Option.bind (some (cellD l5 (Int.toNat (stF i2 i3 l5_1 i4 (Int.toNat i1))) (0 : Nat))) (D.int? IntKind.i64)) fun (i6 : Int) => bif decide (i6 < (0 : Int)) then bif decide ((0 : Int) ≤ i0) then bif decide (i0 < (↑(List.length l6) : Int)) then Option.bind (Option.bind (some (cellD l6 (Int.toNat i0) (0 : Nat))) (D.int? IntKind.i64)) fun (i7 : Int) => bif decide ((0 : Int) ≤ i7) then bif decide (i7 < (↑(List.length l5) : Int)) then Option.bind (Option.bind (some (cellD l5 (Int.toNat i7) (0 : Nat))) (D.int? IntKind.i64)) fun (i8 : Int) => bif decide ((0 : Int) ≤ stF i2 i3 l5_1 i4 (Int.toNat i1)) then bif decide (stF i2 i3 l5_1 i4 (Int.toNat i1) < (↑(List.length l5) : Int)) then bif decide (List.length l6 + (1 : Nat) ≤ (17179869184 : Nat)) then spec_neFar.l16 n m13 m16 i0 (IntKind.wrap IntKind.i64 (i1 + (1 : Int))) i2 i3 l4 (setRow (1 : Nat) l5 (Int.toNat (stF i2 i3 l5_1 i4 (Int.toNat i1))) (0 : Nat) [D.int IntKind.i64 (IntKind.wrap IntKind.i64 (i8 + (1 : Int)))]) (l6 ++ [[D.int IntKind.i64 (stF i2 i3 l5_1 i4 (Int.toNat i1))]]) else none else none else none else none else none else none else none else spec_neFar.l16 n m13 m16 i0 (IntKind.wrap IntKind.i64 (i1 + (1 : Int))) i2 i3 l4 l5 l6 else none else none else spec_neFar.l16 n m13 m16 i0 (IntKind.wrap IntKind.i64 (i1 + (1 : Int))) i2 i3 l4 l5 l6 else none else none else none else none else none else none else none else spec_neFar.l13 n m13 (IntKind.wrap IntKind.i64 (i0 + (1 : Int))) i2 i3 l4 l5 l6 := by kernel_rfl
noncomputable def spec_neFar.res (n : Nat) (a0_0 : Int) (a0_1 : Int) (a0_2 : List (List D)) : Option (List Q) :=
  bif decide ((↑(List.length a0_2) : Int) ≤ (↑(List.length a0_2) : Int)) then bif decide ((↑(List.length a0_2) : Int) ≤ (17179869184 : Int)) then spec_neFar.l3 n n (↑(List.length (List.replicate (Int.toNat (↑(List.length a0_2) : Int)) [D.int IntKind.i64 (0 : Int)])) : Int) (0 : Int) a0_0 a0_1 a0_2 (List.replicate (Int.toNat (↑(List.length a0_2) : Int)) [D.int IntKind.i64 (0 : Int)]) else none else none
theorem spec_neFar.run (n : Nat) (a0_0 : Int) (a0_1 : Int) (a0_2 : List (List D)) :
    run1 spec_neFar.cfg [RK.own (1 : Nat)] n Tryz.f79 [Q.agg [D.int IntKind.i64 a0_0, D.int IntKind.i64 a0_1, D.sl (1 : Nat) a0_2]] = spec_neFar.res n a0_0 a0_1 a0_2 := by kernel_rfl
theorem spec_neFar.ev {n : Nat} {a0_0 : Int} {a0_1 : Int} {a0_2 : List (List D)} {r : List Q} (h : spec_neFar.res n a0_0 a0_1 a0_2 = some r) : Snd Tryz.prog C0 79 [.agg [.int .i64 a0_0, .int .i64 a0_1, .sl 1 a0_2]] r :=
  snd_ev (C := spec_neFar.cfg) cfg0 mix rfl rfl rfl rfl rfl (.cons spec_neDigits.ok (.cons spec_neStep.ok .nil)) .nil rfl Tryz.func79 (by kernel_rfl) (by kernel_rfl) rfl ((spec_neFar.run n a0_0 a0_1 a0_2).trans h)

section
variable {n : Nat} {W H : Nat} {cs : List UInt8}
theorem spec_neFar.l16_run (hc : cs.length = W * H) (hW : 1 ≤ W ∧ W ≤ 6) (hH : 1 ≤ H ∧ H ≤ 6) {a m13 : Nat} : ∀ (d dir m : Nat) (s : List Int × List Int), dir + d = 4 → d < m → BQ (W * H) s → a < s.2.length →
    spec_neFar.l16 n m13 m (a : Int) (dir : Int) (W : Int) (H : Int) (u8C.encs cs) (intC.encs s.1) (intC.encs s.2) = spec_neFar.l13 n m13 ((a + 1 : Nat) : Int) (W : Int) (H : Int) (u8C.encs cs) (intC.encs (fIn (stF W H cs) (s.2.getD a 0) d dir s).1) (intC.encs (fIn (stF W H cs) (s.2.getD a 0) d dir s).2) := by
  have hWH : W * H ≤ 6 * 6 := Nat.mul_le_mul hW.2 hH.2
  intro d
  induction d with
  | zero =>
    intro dir m s hd hm hq ha
    obtain ⟨m, rfl⟩ : ∃ m', m = m' + 1 := ⟨m - 1, by omega⟩
    have h1 : ¬ (dir : Int) < 4 := by omega
    have hql := hq.qlen
    rw [spec_neFar.l16_eq, fIn]
    simp -implicitDefEqProofs only [h1, decide_false, cond_false, wrap_succ (show a ≤ LIM by unfold LIM; omega)]
  | succ d ih =>
    intro dir m s hd hm hq ha
    obtain ⟨m, rfl⟩ : ∃ m', m = m' + 1 := ⟨m - 1, by omega⟩
    have h1 : (dir : Int) < 4 := by omega
    have hql := hq.qlen
    have hai : (a : Int) < ((s.2.length : Nat) : Int) := by omega
    have hqm : s.2.getD a 0 ∈ s.2 := by rw [gd_get ha]; exact List.getElem_mem ha
    obtain ⟨i1, i2, i3⟩ := hq.qin _ hqm
    have hst := stF_in (W := W) (H := H) (cs := cs) (s.2.getD a 0) dir
    obtain ⟨b1, b2, b3⟩ := hq.fstep ha hst
    have step := ih (dir + 1) m (fStep (stF W H cs) (s.2.getD a 0) dir s) (by omega) (by omega) b1 b2
    rw [b3] at step
    have hdec : u8C.decs (u8C.encs cs) = some cs := Cod.decs_encs (by unfold LIM; omega)
    obtain ⟨I, hI⟩ : ∃ I : Nat, s.2.getD a 0 = (I : Int) := ⟨(s.2.getD a 0).toNat, by omega⟩
    rw [fIn, ← step, fStep_bq, spec_neFar.l16_eq]
    rw [hI] at hst i1 i2 i3 ⊢
    rw [Int.toNat_natCast] at i3
    have hIl : I < s.1.length := by rw [hq.len]; omega
    have hIi : (I : Int) < ((s.1.length : Nat) : Int) := by omega
    have hg0 : D.int? .i64 (cellD (intC.encs s.2) a 0) = some (I : Int) := by rw [intC_gd ha, hI]
    simp -implicitDefEqProofs only [h1, hai, hg0, hdec, hc, w_in hW, w_in hH, wh_in ⟨i1, i2⟩, d_in (show dir < 4 by omega), Cod.encs_len, Int.natCast_nonneg, Int.toNat_natCast, decide_true, cond_true, Option.bind_some, wrap_succ (show dir ≤ LIM by unfold LIM; omega), ge_iff_le]
    rcases hst with e | e
    · rw [e]
      have n1 : ¬ (0 : Int) ≤ -1 := by omega
      have n2 : (-1 : Int) < 0 := by omega
      simp -implicitDefEqProofs only [n1, n2, decide_false, decide_true, cond_false, cond_true]
    · obtain ⟨T, hT⟩ : ∃ T : Nat, stF W H cs (I : Int) dir = (T : Int) := ⟨(stF W H cs (I : Int) dir).toNat, by omega⟩
      rw [hT] at e ⊢
      have hTl : T < s.1.length := by rw [hq.len]; omega
      have hTi : (T : Int) < ((s.1.length : Nat) : Int) := by omega
      have n1 : ¬ (T : Int) < 0 := by omega
      have hft := hq.top (s.1.getD I 0) (by rw [gd_get hIl]; exact List.getElem_mem hIl)
      have hq2 : s.2.length + 1 ≤ 17179869184 := by omega
      have hwr : IntKind.wrap .i64 (s.1.getD I 0 + 1) = s.1.getD I 0 + 1 := wrap_in (by omega) (by omega)
      unfold bqStep
      simp -implicitDefEqProofs only [n1, hTi, hIi, hq2, hwr, hI, intC_gd hTl, intC_gd hIl, Int.natCast_nonneg, Int.toNat_natCast, decide_false, decide_true, cond_false, cond_true, Option.bind_some, intC_set, intC_snoc]
      cases decide (s.1.getD T 0 < 0) with
      | true => simp -implicitDefEqProofs only [cond_true]
      | false => simp -implicitDefEqProofs only [cond_false]
theorem bq_in {W H : Nat} {cs : List UInt8} {a : Nat} : ∀ (d dir : Nat) (s : List Int × List Int), BQ (W * H) s → a < s.2.length → BQ (W * H) (fIn (stF W H cs) (s.2.getD a 0) d dir s)
  | 0, _, _, h, _ => h
  | d + 1, dir, s, h, ha => by
    obtain ⟨b1, b2, b3⟩ := h.fstep ha (stF_in (W := W) (H := H) (cs := cs) (s.2.getD a 0) dir)
    have := bq_in (cs := cs) (a := a) d (dir + 1) _ b1 b2
    rw [b3] at this
    exact this
theorem spec_neFar.l13_run (hn : 10 ≤ n) (hc : cs.length = W * H) (hW : 1 ≤ W ∧ W ≤ 6) (hH : 1 ≤ H ∧ H ≤ 6) : ∀ (f a m : Nat) (s : List Int × List Int), a + f = 100 → f < m → BQ (W * H) s →
    spec_neFar.l13 n m (a : Int) (W : Int) (H : Int) (u8C.encs cs) (intC.encs s.1) (intC.encs s.2) = some [Q.one (D.sl 1 (intC.encs (fAll (stF W H cs) f a s).1))] := by
  have hWH : W * H ≤ 6 * 6 := Nat.mul_le_mul hW.2 hH.2
  intro f
  induction f with
  | zero =>
    intro a m s hf hm hq
    obtain ⟨m, rfl⟩ : ∃ m', m = m' + 1 := ⟨m - 1, by omega⟩
    have hql := hq.qlen
    have h1 : ¬ (a : Int) < ((s.2.length : Nat) : Int) := by omega
    rw [spec_neFar.l13_eq, fAll]
    simp -implicitDefEqProofs only [h1, Cod.encs_len, decide_false, cond_false]
  | succ f ih =>
    intro a m s hf hm hq
    obtain ⟨m, rfl⟩ : ∃ m', m = m' + 1 := ⟨m - 1, by omega⟩
    rw [spec_neFar.l13_eq, fAll]
    by_cases ha : a < s.2.length
    · have h1 : (a : Int) < ((s.2.length : Nat) : Int) := by omega
      have key := spec_neFar.l16_run (n := n) (m13 := m) hc hW hH 4 0 n s rfl (by omega) hq ha
      simp -implicitDefEqProofs only [h1, ha, Cod.encs_len, decide_true, cond_true]
      refine Eq.trans key ?_
      exact ih (a + 1) m _ (by omega) (by omega) (bq_in 4 0 s hq ha)
    · have h1 : ¬ (a : Int) < ((s.2.length : Nat) : Int) := by omega
      simp -implicitDefEqProofs only [h1, ha, Cod.encs_len, decide_false, cond_false]
theorem spec_neFar.l3_run (hn : 200 ≤ n) (hc : cs.length = W * H) (hW : 1 ≤ W ∧ W ≤ 6) (hH : 1 ≤ H ∧ H ≤ 6) (h0 : 0 < (digL cs).length) : ∀ (d k m : Nat), k + d = W * H → d < m →
    spec_neFar.l3 n m ((W * H : Nat) : Int) (k : Int) (W : Int) (H : Int) (u8C.encs cs) (intC.encs (List.replicate k (-1) ++ (List.replicate (W * H) 0).drop k)) = some [Q.one (D.sl 1 (intC.encs (fGrid W H cs)))] := by
  have hWH : W * H ≤ 6 * 6 := Nat.mul_le_mul hW.2 hH.2
  have hdec : u8C.decs (u8C.encs cs) = some cs := Cod.decs_encs (by unfold LIM; omega)
  intro d
  induction d with
  | zero =>
    intro k m hk hm
    obtain ⟨m, rfl⟩ : ∃ m', m = m' + 1 := ⟨m - 1, by omega⟩
    obtain rfl : k = W * H := by omega
    have h1 : ¬ ((W * H : Nat) : Int) < ((W * H : Nat) : Int) := by omega
    have hmem : (digL cs).getD 0 0 ∈ digL cs := by rw [gd_get h0]; exact List.getElem_mem h0
    obtain ⟨I, e1, e2, _⟩ := digL_mem.1 hmem
    have hIl : I < (List.replicate (W * H) (-1 : Int)).length := by simp; omega
    have hI : (I : Int) < ((W * H : Nat) : Int) := by omega
    have hz : ((((digL cs).length : Nat) : Int) == 0) = false := by rw [beq_eq_false_iff_ne]; omega
    have hz2 : (0 : Int) < (((digL cs).length : Nat) : Int) := by omega
    have hg0 : D.int? .i64 (cellD (intC.encs (digL cs)) 0 0) = some (I : Int) := by rw [intC_gd h0, e1]
    have hdr : (List.replicate (W * H) (0 : Int)).drop (W * H) = [] := List.drop_of_length_le (by simp)
    have t0 : Int.toNat 0 = 0 := rfl
    rw [spec_neFar.l3_eq, hdr, List.append_nil]
    simp -implicitDefEqProofs only [h1, hdec, hz, hz2, hg0, hI, t0, Cod.encs_len, List.length_replicate, Int.natCast_nonneg, Int.toNat_natCast, decide_false, decide_true, cond_false, cond_true, Option.bind_some, intC_set]
    have key := spec_neFar.l13_run (n := n) (W := W) (H := H) (cs := cs) (by omega) hc hW hH 100 0 n (fS0 cs.length (I : Int)) (by omega) (by omega) (by rw [hc]; exact bq0 ⟨Int.natCast_nonneg _, hI⟩)
    have hgr : fGrid (W : Int) (H : Int) cs = (fAll (stF W H cs) 100 0 (fS0 cs.length (I : Int))).1 := by unfold fGrid dAt; rw [show (0 : Int).toNat = 0 from rfl, e1]
    rw [hgr]
    refine Eq.trans ?_ key
    unfold fS0
    rw [hc, Int.toNat_natCast]
    rfl
  | succ d ih =>
    intro k m hk hm
    obtain ⟨m, rfl⟩ : ∃ m', m = m' + 1 := ⟨m - 1, by omega⟩
    have h1 : (k : Int) < ((W * H : Nat) : Int) := by omega
    have hl : (List.replicate k (-1 : Int) ++ (List.replicate (W * H) 0).drop k).length = W * H := by simp; omega
    have step := ih (k + 1) m (by omega) (by omega)
    rw [← fill_run k (by simp; omega) (-1)] at step
    rw [spec_neFar.l3_eq]
    simp -implicitDefEqProofs only [h1, hl, Cod.encs_len, Int.natCast_nonneg, Int.toNat_natCast, decide_true, cond_true, intC_set, wrap_succ (show k ≤ LIM by unfold LIM; omega)]
    exact step
end
def spec_neFar.stub : Stub
  | [.agg [.int .i64 w, .int .i64 h, .sl 1 es]] => .any (u8C.decs es) fun cs => .gd (Sp.inR w 1 6) (.gd (Sp.inR h 1 6) (.gd (decide (cs.length = w.toNat * h.toNat)) (.gd (decide (0 < (Sp.digL cs).length)) (.ret [.one (.sl 1 (intC.encs (Sp.fGrid w h cs)))]))))
  | _ => .fail
theorem spec_neFar.ok : StubOk Tryz.prog C0 79 spec_neFar.stub := by
  intro args res h
  unfold spec_neFar.stub at h
  split at h
  · rename_i w h' es
    obtain ⟨cs, h1, h0⟩ := any_out h
    obtain ⟨rfl, hl⟩ := Cod.decs_inv h1
    obtain ⟨k1, h0⟩ := gd_out h0
    obtain ⟨k2, h0⟩ := gd_out h0
    obtain ⟨k4, h0⟩ := gd_out h0
    obtain ⟨k5, h0⟩ := gd_out h0
    cases h0
    have k4 := of_decide_eq_true k4
    have k5 := of_decide_eq_true k5
    unfold inR at k1 k2
    simp only [Bool.and_eq_true, decide_eq_true_eq] at k1 k2
    obtain ⟨W, rfl⟩ : ∃ W : Nat, w = (W : Int) := ⟨w.toNat, by omega⟩
    obtain ⟨H, rfl⟩ : ∃ H : Nat, h' = (H : Int) := ⟨h'.toNat, by omega⟩
    rw [Int.toNat_natCast, Int.toNat_natCast] at k4
    have hWH : W * H ≤ 6 * 6 := Nat.mul_le_mul (by omega) (by omega)
    obtain ⟨N, hN⟩ : ∃ N, 200 ≤ N := ⟨200, Nat.le_refl _⟩
    refine spec_neFar.ev (n := N) ?_
    unfold spec_neFar.res
    have h2 : ((W * H : Nat) : Int) ≤ 17179869184 := by omega
    simp -implicitDefEqProofs only [Cod.encs_len, k4, h2, List.length_replicate, Int.toNat_natCast, Int.le_refl, decide_true, cond_true, intC_rep]
    exact spec_neFar.l3_run (n := N) hN k4 ⟨by omega, by omega⟩ ⟨by omega, by omega⟩ k5 (W * H) 0 N (by omega) (by omega)
  · cases h
end Go.Proofs.EV.PL
set_option linter.unusedVariables false
set_option linter.unusedSimpArgs false
set_option maxHeartbeats 4000000
/-! What lies on the cells, as the reference tells it. -/
namespace Go.Proofs.EV.PL
open Go Go.Proofs Go.Proofs.EV Sp
/-! spec_neBottoms -/
noncomputable def spec_neBottoms.cfg : Cfg := { C0 with keep := fun | 4 => some [1, 4, 5, 24, 25] | 13 => some [1, 4, 5, 7, 8, 9] | 16 => some [1, 4, 5, 7, 8, 9, 10] | 25 => some [4, 12, 99, 100, 101] | _ => none, nb := 0, M := tabM [(30, spec_neDigits.stub), (31, spec_neStep.stub), (80, spec_diUnit.stub), (81, spec_diRoll.stub)], MM := tabB [] }
noncomputable def spec_neBottoms.l4 (n : Nat) (m4 : Nat) (i0 : Int) (i1 : Int) (i2 : Int) (i3 : Int) (l4 : List (List D)) (l5 : List (List D)) (l6 : List (List D)) : Option (List Q) :=
  loopAt spec_neBottoms.cfg [RK.own (1 : Nat), RK.one LK.bool] n Tryz.f50 [1, 1, 1, 0, 1, 0] [] m4 (St.mk [V.undef, V.rp (0 : Nat) (0 : Nat), V.undef, V.undef, V.rw (1 : Nat), V.rw (2 : Nat), V.undef, V.undef, V.undef, V.undef, V.undef, V.undef, V.undef, V.undef, V.undef, V.undef, V.undef, V.undef, V.undef, V.undef, V.undef, V.undef, V.undef, V.undef, V.one true (D.int IntKind.i64 i0), V.one true (D.int IntKind.i64 i1), V.undef, V.undef, V.undef, V.undef, V.undef, V.undef, V.undef, V.undef, V.undef, V.undef, V.undef, V.undef, V.undef, V.undef, V.undef, V.undef, V.undef, V.undef, V.undef, V.undef, V.undef, V.undef, V.undef, V.undef, V.undef, V.undef, V.undef, V.undef, V.undef, V.undef, V.undef, V.undef, V.undef, V.undef, V.undef, V.undef, V.undef, V.undef, V.undef, V.undef, V.undef, V.undef, V.undef, V.undef, V.undef, V.undef, V.undef, V.undef, V.undef, V.undef, V.undef, V.undef, V.undef, V.undef, V.undef, V.undef, V.undef, V.undef, V.undef, V.undef, V.undef, V.undef, V.undef, V.undef, V.undef, V.undef, V.undef, V.undef, V.undef, V.undef, V.undef, V.undef, V.undef, V.undef, V.undef, V.undef, V.undef, V.undef, V.undef, V.undef, V.undef, V.undef, V.undef, V.undef, V.undef, V.undef, V.undef, V.undef, V.undef, V.undef, V.undef, V.undef, V.undef, V.undef, V.undef, V.undef, V.undef] [Ob.box [V.one true (D.int IntKind.i64 i2), V.one true (D.int IntKind.i64 i3), V.one false (D.sl (1 : Nat) l4)], Ob.row false (1 : Nat) l5, Ob.row false (6 : Nat) l6])
noncomputable def spec_neBottoms.l13 (n : Nat) (m13 : Nat) (i0 : Int) (i1 : Int) (i2 : Int) (l3 : List (List D)) (l4 : List (List D)) (l5 : List (List D)) (l6 : List (List D)) (l7 : List (List D)) : Option (List Q) :=
  loopAt spec_neBottoms.cfg [RK.own (1 : Nat), RK.one LK.bool] n Tryz.f50 [1, 1, 1, 1, 1, 1, 1, 1, 0, 1, 0] [] m13 (St.mk [V.undef, V.rp (0 : Nat) (0 : Nat), V.undef, V.undef, V.rw (1 : Nat), V.rw (2 : Nat), V.undef, V.rw (3 : Nat), V.rw (4 : Nat), V.one true (D.int IntKind.i64 i0), V.undef, V.undef, V.undef, V.undef, V.undef, V.undef, V.undef, V.undef, V.undef, V.undef, V.undef, V.undef, V.undef, V.undef, V.undef, V.undef, V.undef, V.undef, V.undef, V.undef, V.undef, V.undef, V.undef, V.undef, V.undef, V.undef, V.undef, V.undef, V.undef, V.undef, V.undef, V.undef, V.undef, V.undef, V.undef, V.undef, V.undef, V.undef, V.undef, V.undef, V.undef, V.undef, V.undef, V.undef, V.undef, V.undef, V.undef, V.undef, V.undef, V.undef, V.undef, V.undef, V.undef, V.undef, V.undef, V.undef, V.undef, V.undef, V.undef, V.undef, V.undef, V.undef, V.undef, V.undef, V.undef, V.undef, V.undef, V.undef, V.undef, V.undef, V.undef, V.undef, V.undef, V.undef, V.undef, V.undef, V.undef, V.undef, V.undef, V.undef, V.undef, V.undef, V.undef, V.undef, V.undef, V.undef, V.undef, V.undef, V.undef, V.undef, V.undef, V.undef, V.undef, V.undef, V.undef, V.undef, V.undef, V.undef, V.undef, V.undef, V.undef, V.undef, V.undef, V.undef, V.undef, V.undef, V.undef, V.undef, V.undef, V.undef, V.undef, V.undef, V.undef] [Ob.box [V.one true (D.int IntKind.i64 i1), V.one true (D.int IntKind.i64 i2), V.one false (D.sl (1 : Nat) l3)], Ob.row false (1 : Nat) l4, Ob.row false (6 : Nat) l5, Ob.row false (1 : Nat) l6, Ob.row false (1 : Nat) l7])
noncomputable def spec_neBottoms.l16 (n : Nat) (m13 : Nat) (m16 : Nat) (i0 : Int) (i1 : Int) (i2 : Int) (i3 : Int) (l4 : List (List D)) (l5 : List (List D)) (l6 : List (List D)) (l7 : List (List D)) (l8 : List (List D)) : Option (List Q) :=
  loopAt spec_neBottoms.cfg [RK.own (1 : Nat), RK.one LK.bool] n Tryz.f50 [1, 1, 1, 1, 1, 1, 1, 1, 0, 1, 0, 0, 1, 0, 0, 1, 0] [m13] m16 (St.mk [V.undef, V.rp (0 : Nat) (0 : Nat), V.undef, V.undef, V.rw (1 : Nat), V.rw (2 : Nat), V.undef, V.rw (3 : Nat), V.rw (4 : Nat), V.one true (D.int IntKind.i64 i0), V.one true (D.int IntKind.i64 i1), V.undef, V.undef, V.undef, V.undef, V.undef, V.undef, V.undef, V.undef, V.undef, V.undef, V.undef, V.undef, V.undef, V.undef, V.undef, V.undef, V.undef, V.undef, V.undef, V.undef, V.undef, V.undef, V.undef, V.undef, V.undef, V.undef, V.undef, V.undef, V.undef, V.undef, V.undef, V.undef, V.undef, V.undef, V.undef, V.undef, V.undef, V.undef, V.undef, V.undef, V.undef, V.undef, V.undef, V.undef, V.undef, V.undef, V.undef, V.undef, V.undef, V.undef, V.undef, V.undef, V.undef, V.undef, V.undef, V.undef, V.undef, V.undef, V.undef, V.undef, V.undef, V.undef, V.undef, V.undef, V.undef, V.undef, V.undef, V.undef, V.undef, V.undef, V.undef, V.undef, V.undef, V.undef, V.undef, V.undef, V.undef, V.undef, V.undef, V.undef, V.undef, V.undef, V.undef, V.undef, V.undef, V.undef, V.undef, V.undef, V.undef, V.undef, V.undef, V.undef, V.undef, V.undef, V.undef, V.undef, V.undef, V.undef, V.undef, V.undef, V.undef, V.undef, V.undef, V.undef, V.undef, V.undef, V.undef, V.undef, V.undef, V.undef, V.undef, V.undef] [Ob.box [V.one true (D.int IntKind.i64 i2), V.one true (D.int IntKind.i64 i3), V.one false (D.sl (1 : Nat) l4)], Ob.row false (1 : Nat) l5, Ob.row false (6 : Nat) l6, Ob.row false (1 : Nat) l7, Ob.row false (1 : Nat) l8])
noncomputable def spec_neBottoms.l25 (n : Nat) (m25 : Nat) (i0 : Int) (i1 : Int) (i2 : Int) (l3 : List (List D)) (l4 : List (List D)) : Option (List Q) :=
  loopAt spec_neBottoms.cfg [RK.own (1 : Nat), RK.one LK.bool] n Tryz.f50 [1, 1, 1, 1, 1, 1, 1, 1, 1, 1, 0, 1, 0] [] m25 (St.mk [V.undef, V.undef, V.undef, V.undef, V.rw (0 : Nat), V.undef, V.undef, V.undef, V.undef, V.undef, V.undef, V.undef, V.one true (D.int IntKind.i64 i0), V.undef, V.undef, V.undef, V.undef, V.undef, V.undef, V.undef, V.undef, V.undef, V.undef, V.undef, V.undef, V.undef, V.undef, V.undef, V.undef, V.undef, V.undef, V.undef, V.undef, V.undef, V.undef, V.undef, V.undef, V.undef, V.undef, V.undef, V.undef, V.undef, V.undef, V.undef, V.undef, V.undef, V.undef, V.undef, V.undef, V.undef, V.undef, V.undef, V.undef, V.undef, V.undef, V.undef, V.undef, V.undef, V.undef, V.undef, V.undef, V.undef, V.undef, V.undef, V.undef, V.undef, V.undef, V.undef, V.undef, V.undef, V.undef, V.undef, V.undef, V.undef, V.undef, V.undef, V.undef, V.undef, V.undef, V.undef, V.undef, V.undef, V.undef, V.undef, V.undef, V.undef, V.undef, V.undef, V.undef, V.undef, V.undef, V.undef, V.undef, V.undef, V.undef, V.undef, V.undef, V.undef, V.undef, V.rw (1 : Nat), V.one true (D.int IntKind.i64 i1), V.one true (D.int IntKind.i64 i2), V.undef, V.undef, V.undef, V.undef, V.undef, V.undef, V.undef, V.undef, V.undef, V.undef, V.undef, V.undef, V.undef, V.undef, V.undef, V.undef, V.undef, V.undef, V.undef, V.undef, V.undef] [Ob.row false (1 : Nat) l3, Ob.row false (1 : Nat) l4])
theorem spec_neBottoms.l4_eq (n : Nat) (m4 : Nat) (i0 : Int) (i1 : Int) (i2 : Int) (i3 : Int) (l4 : List (List D)) (l5 : List (List D)) (l6 : List (List D)) :
    spec_neBottoms.l4 n (m4 + 1) i0 i1 i2 i3 l4 l5 l6 = bif decide (i1 < i0) then bif decide ((0 : Int) ≤ i1) then bif decide (i1 < (↑(List.length l5) : Int)) then spec_neBottoms.l4 n m4 i0 (IntKind.wrap IntKind.i64 (i1 + (1 : Int))) i2 i3 l4 (setRow (1 : Nat) l5 (Int.toNat i1) (0 : Nat) [D.int IntKind.i64 (-1 : Int)]) l6 else none else none else Option.bind (Cod.decs u8C l4) fun (l1 : List UInt8) => bif decide ((0 : Int) < (↑(List.length (Cod.encs intC (digL l1))) : Int)) then Option.bind (Option.bind (some (cellD (Cod.encs intC (digL l1)) (Int.toNat (0 : Int)) (0 : Nat))) (D.int? IntKind.i64)) fun (i2_1 : Int) => bif decide ((0 : Int) ≤ i2_1) then bif decide (i2_1 < (↑(List.length l6) : Int)) then bif decide ((0 : Int) < (↑(List.length (Cod.encs intC (digL l1))) : Int)) then Option.bind (Option.bind (some (cellD (Cod.encs intC (digL l1)) (Int.toNat (0 : Int)) (0 : Nat))) (D.int? IntKind.i64)) fun (i3_1 : Int) => bif decide ((0 : Int) ≤ i3_1) then bif decide (i3_1 < (↑(List.length l5) : Int)) then bif decide ((0 : Int) < (↑(List.length (Cod.encs intC (digL l1))) : Int)) then Option.bind (Option.bind (some (cellD (Cod.encs intC (digL l1)) (Int.toNat (0 : Int)) (0 : Nat))) (D.int? IntKind.i64)) fun (i4 : Int) => spec_neBottoms.l13 n n (0 : Int) i2 i3 l4 (setRow (1 : Nat) l5 (Int.toNat i3_1) (0 : Nat) [D.int IntKind.i64 (5 : Int)]) (setRow (6 : Nat) l6 (Int.toNat i2_1) (0 : Nat) [D.int IntKind.i64 (Die.t unitD), D.int IntKind.i64 (Die.n unitD), D.int IntKind.i64 (Die.e unitD), D.int IntKind.i64 (Die.s unitD), D.int IntKind.i64 (Die.w unitD), D.int IntKind.i64 (Die.b unitD)]) (Cod.encs intC (digL l1)) [[D.int IntKind.i64 i4]] else none else none else none else none else none else none else none := by kernel_rfl
theorem spec_neBottoms.l13_eq (n : Nat) (m13 : Nat) (i0 : Int) (i1 : Int) (i2 : Int) (l3 : List (List D)) (l4 : List (List D)) (l5 : List (List D)) (l6 : List (List D)) (l7 : List (List D)) :
    spec_neBottoms.l13 n (m13 + 1) i0 i1 i2 l3 l4 l5 l6 l7 = bif decide (i0 < (↑(List.length l7) : Int)) then spec_neBottoms.l16 n m13 n i0 (0 : Int) i1 i2 l3 l4 l5 l6 l7 else spec_neBottoms.l25 n n (0 : Int) (↑(List.length l6) : Int) (0 : Int) l4 l6 := by kernel_rfl
theorem spec_neBottoms.l16_eq (n : Nat) (m13 : Nat) (m16 : Nat) (i0 : Int) (i1 : Int) (i2 : Int) (i3 : Int) (l4 : List (List D)) (l5 : List (List D)) (l6 : List (List D)) (l7 : List (List D)) (l8 : List (List D)) :
    spec_neBottoms.l16 n m13 (m16 + 1) i0 i1 i2 i3 l4 l5 l6 l7 l8 = bif decide (i1 < (4 : Int)) then bif decide ((0 : Int) ≤ i0) then bif decide (i0 < (↑(List.length l8) : Int)) then Option.bind (Option.bind (some (cellD l8 (Int.toNat i0) (0 : Nat))) (D.int? IntKind.i64)) fun (i5 : Int) => Option.bind (Cod.decs u8C l4) fun (l6_1 : List UInt8) => bif inR i2 (1 : Int) (6 : Int) then bif inR i3 (1 : Int) (6 : Int) then bif inR i5 (0 : Int) (i2 * i3 - (1 : Int)) then bif decide (List.length l6_1 = Int.toNat i2 * Int.toNat i3) then bif inR i1 (0 : Int) (3 : Int) then bif decide (stF i2 i3 l6_1 i5 (Int.toNat i1) ≥ (0 : Int)) then bif decide ((0 : Int) ≤ stF i2 i3 l6_1 i5 (Int.toNat i1)) then bif decide (stF i2 i3 l6_1 i5 (Int.toNat i1) < (↑(List.length l5) : Int)) then Option.bind (Option.bind (some (cellD l5 (Int.toNat (stF i2 i3 l6_1 i5 (Int.toNat i1))) (0 : Nat))) (D.int? IntKind.i64)) fun (i7 : Int) => bif decide (i7 < (0 : Int)) then bif decide ((0 : Int) ≤ i0) then bif decide (i0 < (↑(List.length l8) : Int)) then Option.bind (Option.bind (some (cellD l8 (Int.toNat i0) (0 : Nat))) (D.int? IntKind.i64)) fun (i8 : Int) => bif decide ((0 : Int) ≤ i8) then bif decide (i8 < (↑(List.length l6) : Int)) then Option.bind (Option.bind (some (cellD l6 (Int.toNat i8) (0 : Nat))) (D.int? IntKind.i64)) fun (i9 : Int) => Option.bind (Option.bind (some (cellD l6 (Int.toNat i8) (1 : Nat))) (D.int? IntKind.i64)) fun (i10 : Int) => Option.bind (Option.bind (some (cellD l6 (Int.toNat i8) (2 : Nat))) (D.int? IntKind.i64)) fun (i11 : Int) => Option.bind (Option.bind (some (cellD l6 (Int.toNat i8) (3 : Nat))) (D.int? IntKind.i64)) fun (i12 : Int) => Option.bind (Option.bind (some (cellD l6 (Int.toNat i8) (4 : Nat))) (D.int? IntKind.i64)) fun (i13 : Int) => Option.bind (Option.bind (some (cellD l6 (Int.toNat i8) (5 : Nat))) (D.int? IntKind.i64)) fun (i14 : Int) => bif decide ((0 : Int) ≤ stF i2 i3 l6_1 i5 (Int.toNat i1)) then bif decide (stF i2 i3 l6_1 i5 (Int.toNat i1) < (↑(List.length l6) : Int)) then bif decide ((0 : Int) ≤ stF i2 i3 l6_1 i5 (Int.toNat i1)) then bif decide (stF i2 i3 l6_1 i5 (Int.toNat i1) < (↑(List.length (setRow (6 : Nat) l6 (Int.toNat (stF i2 i3 l6_1 i5 (Int.toNat i1))) (0 : Nat) [D.int IntKind.i64 (Die.t (roll (Die.mk i9 i10 i11 i12 i13 i14) i1)), D.int IntKind.i64 (Die.n (roll (Die.mk i9 i10 i11 i12 i13 i14) i1)), D.int IntKind.i64 (Die.e (roll (Die.mk i9 i10 i11 i12 i13 i14) i1)), D.int IntKind.i64 (Die.s (roll (Die.mk i9 i10 i11 i12 i13 i14) i1)), D.int IntKind.i64 (Die.w (roll (Die.mk i9 i10 i11 i12 i13 i14) i1)), D.int IntKind.i64 (Die.b (roll (Die.mk i9 i10 i11 i12 i13 i14) i1))])) : Int)) then Option.bind (Option.bind (some (cellD (setRow (6 : Nat) l6 (Int.toNat (stF i2 i3 l6_1 i5 (Int.toNat i1))) (0 : Nat) [D.int IntKind.i64 (Die.t (roll (Die.mk i9 i10 i11 i12 i13 i14) i1)), D.int IntKind.i64 (Die.n (roll (Die.mk i9 i10 i11 i12 i13 i14) i1)), D.int IntKind.i64 (Die.e (roll (Die.mk i9 i10 i11 i12 i13 i14) i1)), D.int IntKind.i64 (Die.s (roll (Die.mk i9 i10 i11 i12 i13 i14) i1)), D.int IntKind.i64 (Die.w (roll (Die.mk i9 i10 i11 i12 i13 i14) i1)), D.int IntKind.i64 (Die.b (roll (Die.mk i9 i10 i11 i12 i13 i14) i1))]) (Int.toNat (stF i2 i3 l6_1 i5 (Int.toNat i1))) (5 : Nat))) (D.int? IntKind.i64)) fun (i15 : Int) => bif decide ((0 : Int) ≤ stF i2 i3 l6_1 i5 (Int.toNat i1)) then bif decide (stF i2 i3 l6_1 i5 (Int.toNat i1) < (↑(List.length l5) : Int)) then bif decide (List.length l8 + (1 : Nat) ≤ (17179869184 : Nat)) then spec_neBottoms.l16 n m13 m16 i0 (IntKind.wrap IntKind.i64 (i1 + (1 : Int))) i2 i3 l4 (setRow (1 : Nat) l5 (Int.toNat (stF i2 i3 l6_1 i5 (Int.toNat i1))) (0 : Nat) [D.int IntKind.i64 i15]) (setRow (6 : Nat) l6 (Int.toNat (stF i2 i3 l6_1 i5 (Int.toNat i1))) (0 : Nat) [D.int IntKind.i64 (Die.t (roll (Die.mk i9 i10 i11 i12 i13 i14) i1)), D.int IntKind.i64 (Die.n (roll (Die.mk i9 i10 i11 i12 i13 i14) i1)), D.int IntKind.i64 (Die.e (roll (Die.mk i9 i10 i11 i12 i13 i14) i1)), D.int IntKind.i64 (Die.s (roll (Die.mk i9 i10 i11 i12 i13 i14) i1)), D.int IntKind.i64 (Die.w (roll (Die.mk i9 i10 i11 i12 i13 i14) i1)), D.int IntKind.i64 (Die.b (roll (Die.mk i9 i10 i11 i12 i13 i14) i1))]) l7 (l8 ++ [[D.int IntKind.i64 (stF i2 i3 l6_1 i5 (Int.toNat i1))]]) else none else none else none else none else none else none else none else none else none else none else none else spec_neBottoms.l16 n m13 m16 i0 (IntKind.wrap IntKind.i64 (i1 + (1 : Int))) i2 i3 l4 l5 l6 l7 l8 else none else none else spec_neBottoms.l16 n m13 m16 i0 (IntKind.wrap IntKind.i64 (i1 + (1 : Int))) i2 i3 l4 l5 l6 l7 l8 else none else none else none else none else none else none else none else spec_neBottoms.l13 n m13 (IntKind.wrap IntKind.i64 (i0 + (1 : Int))) i2 i3 l4 l5 l6 l7 l8 := by kernel_rfl
theorem spec_neBottoms.l25_eq (n : Nat) (m25 : Nat) (i0 : Int) (i1 : Int) (i2 : Int) (l3 : List (List D)) (l4 : List (List D)) :
    spec_neBottoms.l25 n (m25 + 1) i0 i1 i2 l3 l4 = bif decide (i2 < i1) then bif decide ((0 : Int) ≤ i2) then bif decide (i2 < (↑(List.length l4) : Int)) then Option.bind (Option.bind (some (cellD l4 (Int.toNat i2) (0 : Nat))) (D.int? IntKind.i64)) fun (i16 : Int) => bif decide ((0 : Int) ≤ i16) then bif decide (i16 < (↑(List.length l3) : Int)) then Option.bind (Option.bind (some (cellD l3 (Int.toNat i16) (0 : Nat))) (D.int? IntKind.i64)) fun (i17 : Int) => bif decide ((0 : Int) ≤ i17) then bif Int.tmod (Int.fdiv i0 ((2 : Int) ^ min (Int.toNat i17) (64 : Nat))) (2 : Int) == (1 : Int) then some [Q.one (D.sl (1 : Nat) l3), Q.one (D.bool false)] else bif decide ((0 : Int) ≤ i16) then bif decide (i16 < (↑(List.length l3) : Int)) then Option.bind (Option.bind (some (cellD l3 (Int.toNat i16) (0 : Nat))) (D.int? IntKind.i64)) fun (i18 : Int) => bif decide ((0 : Int) ≤ i18) then spec_neBottoms.l25 n m25 (IntKind.wrap IntKind.i64 (↑(BitVec.toNat (BitVec.ofInt (64 : Nat) i0 ||| BitVec.ofInt (64 : Nat) (IntKind.wrap IntKind.i64 ((1 : Int) * (2 : Int) ^ min (Int.toNat i18) (64 : Nat))))) : Int)) i1 (IntKind.wrap IntKind.i64 (i2 + (1 : Int))) l3 l4 else none else none else none else none else none else none else none else none else some [Q.one (D.sl (1 : Nat) l3), Q.one (D.bool true)] := by kernel_rfl
noncomputable def spec_neBottoms.res (n : Nat) (a0_0 : Int) (a0_1 : Int) (a0_2 : List (List D)) : Option (List Q) :=
  bif decide ((↑(List.length a0_2) : Int) ≤ (↑(List.length a0_2) : Int)) then bif decide ((↑(List.length a0_2) : Int) ≤ (17179869184 : Int)) then bif decide ((↑(List.length a0_2) : Int) ≤ (↑(List.length a0_2) : Int)) then bif decide ((↑(List.length a0_2) : Int) ≤ (17179869184 : Int)) then spec_neBottoms.l4 n n (↑(List.length (List.replicate (Int.toNat (↑(List.length a0_2) : Int)) [D.int IntKind.i64 (0 : Int)])) : Int) (0 : Int) a0_0 a0_1 a0_2 (List.replicate (Int.toNat (↑(List.length a0_2) : Int)) [D.int IntKind.i64 (0 : Int)]) (List.replicate (Int.toNat (↑(List.length a0_2) : Int)) [D.int IntKind.i64 (0 : Int), D.int IntKind.i64 (0 : Int), D.int IntKind.i64 (0 : Int), D.int IntKind.i64 (0 : Int), D.int IntKind.i64 (0 : Int), D.int IntKind.i64 (0 : Int)]) else none else none else none else none
theorem spec_neBottoms.run (n : Nat) (a0_0 : Int) (a0_1 : Int) (a0_2 : List (List D)) :
    run1 spec_neBottoms.cfg [RK.own (1 : Nat), RK.one LK.bool] n Tryz.f50 [Q.agg [D.int IntKind.i64 a0_0, D.int IntKind.i64 a0_1, D.sl (1 : Nat) a0_2]] = spec_neBottoms.res n a0_0 a0_1 a0_2 := by kernel_rfl
theorem spec_neBottoms.ev {n : Nat} {a0_0 : Int} {a0_1 : Int} {a0_2 : List (List D)} {r : List Q} (h : spec_neBottoms.res n a0_0 a0_1 a0_2 = some r) : Snd Tryz.prog C0 50 [.agg [.int .i64 a0_0, .int .i64 a0_1, .sl 1 a0_2]] r :=
  snd_ev (C := spec_neBottoms.cfg) cfg0 mix rfl rfl rfl rfl rfl (.cons spec_neDigits.ok (.cons spec_neStep.ok (.cons spec_diUnit.ok (.cons spec_diRoll.ok .nil)))) .nil rfl Tryz.func50 (by kernel_rfl) (by kernel_rfl) rfl ((spec_neBottoms.run n a0_0 a0_1 a0_2).trans h)

theorem b_in {W H : Nat} {cs : List UInt8} {a : Nat} : ∀ (d dir : Nat) (s : Bo), BOk (W * H) s → a < s.q.length → BOk (W * H) (bIn (stF W H cs) (s.q.getD a 0) d dir s)
  | 0, _, _, h, _ => h
  | d + 1, dir, s, h, ha => by
    obtain ⟨b1, b2, b3⟩ := h.step ha (stF_in (W := W) (H := H) (cs := cs) (s.q.getD a 0) dir)
    have := b_in (cs := cs) (a := a) d (dir + 1) _ b1 b2
    rw [b3] at this
    exact this
section
variable {n : Nat} {W H : Nat} {cs : List UInt8} {Ds : List Int}
theorem spec_neBottoms.l16_run (hc : cs.length = W * H) (hW : 1 ≤ W ∧ W ≤ 6) (hH : 1 ≤ H ∧ H ≤ 6) {a m13 : Nat} : ∀ (d dir m : Nat) (s : Bo), dir + d = 4 → d < m → BOk (W * H) s → a < s.q.length →
    spec_neBottoms.l16 n m13 m (a : Int) (dir : Int) (W : Int) (H : Int) (u8C.encs cs) (intC.encs s.o) (dieC.encs s.di) (intC.encs Ds) (intC.encs s.q) = spec_neBottoms.l13 n m13 ((a + 1 : Nat) : Int) (W : Int) (H : Int) (u8C.encs cs) (intC.encs (bIn (stF W H cs) (s.q.getD a 0) d dir s).o) (dieC.encs (bIn (stF W H cs) (s.q.getD a 0) d dir s).di) (intC.encs Ds) (intC.encs (bIn (stF W H cs) (s.q.getD a 0) d dir s).q) := by
  have hWH : W * H ≤ 6 * 6 := Nat.mul_le_mul hW.2 hH.2
  intro d
  induction d with
  | zero =>
    intro dir m s hd hm hq ha
    obtain ⟨m, rfl⟩ : ∃ m', m = m' + 1 := ⟨m - 1, by omega⟩
    have h1 : ¬ (dir : Int) < 4 := by omega
    have hql := hq.qlen
    rw [spec_neBottoms.l16_eq, bIn]
    simp -implicitDefEqProofs only [h1, decide_false, cond_false, wrap_succ (show a ≤ LIM by unfold LIM; omega)]
  | succ d ih =>
    intro dir m s hd hm hq ha
    obtain ⟨m, rfl⟩ : ∃ m', m = m' + 1 := ⟨m - 1, by omega⟩
    have h1 : (dir : Int) < 4 := by omega
    have hql := hq.qlen
    have hai : (a : Int) < ((s.q.length : Nat) : Int) := by omega
    have hqm : s.q.getD a 0 ∈ s.q := by rw [gd_get ha]; exact List.getElem_mem ha
    obtain ⟨i1, i2, i3, i4⟩ := hq.qin _ hqm
    have hst := stF_in (W := W) (H := H) (cs := cs) (s.q.getD a 0) dir
    obtain ⟨b1, b2, b3⟩ := hq.step ha hst
    have step := ih (dir + 1) m (bStep (stF W H cs) (s.q.getD a 0) dir s) (by omega) (by omega) b1 b2
    rw [b3] at step
    have hdec : u8C.decs (u8C.encs cs) = some cs := Cod.decs_encs (by unfold LIM; omega)
    obtain ⟨I, hI⟩ : ∃ I : Nat, s.q.getD a 0 = (I : Int) := ⟨(s.q.getD a 0).toNat, by omega⟩
    rw [bIn, ← step, spec_neBottoms.l16_eq]
    unfold bStep
    rw [hI] at hst i1 i2 ⊢
    have hIl : I < s.di.length := by rw [hq.dl]; omega
    have hIi : (I : Int) < ((s.di.length : Nat) : Int) := by omega
    have hg0 : D.int? .i64 (cellD (intC.encs s.q) a 0) = some (I : Int) := by rw [intC_gd ha, hI]
    simp -implicitDefEqProofs only [h1, hai, hg0, hdec, hc, w_in hW, w_in hH, wh_in ⟨i1, i2⟩, d_in (show dir < 4 by omega), Cod.encs_len, Int.natCast_nonneg, Int.toNat_natCast, decide_true, cond_true, Option.bind_some, wrap_succ (show dir ≤ LIM by unfold LIM; omega), ge_iff_le]
    rcases hst with e | e
    · rw [e]
      have n1 : ¬ (0 : Int) ≤ -1 := by omega
      have n2 : (-1 : Int) < 0 := by omega
      simp -implicitDefEqProofs only [n1, n2, decide_false, decide_true, cond_false, cond_true, Bool.true_or]
    · obtain ⟨T, hT⟩ : ∃ T : Nat, stF W H cs (I : Int) dir = (T : Int) := ⟨(stF W H cs (I : Int) dir).toNat, by omega⟩
      rw [hT] at e ⊢
      have hTl : T < s.o.length := by rw [hq.ol]; omega
      have hTi : (T : Int) < ((s.o.length : Nat) : Int) := by omega
      have hTd : T < s.di.length := by rw [hq.dl]; omega
      have hTdi : (T : Int) < ((s.di.length : Nat) : Int) := by omega
      have n1 : ¬ (T : Int) < 0 := by omega
      have hq2 : s.q.length + 1 ≤ 17179869184 := by omega
      have hTs : ∀ x, T < (s.di.set T x).length := fun x => by rw [List.length_set]; exact hTd
      simp -implicitDefEqProofs only [n1, hTi, hIi, hTdi, hq2, intC_gd hTl, dieG_t hIl, dieG_n hIl, dieG_e hIl, dieG_s hIl, dieG_w hIl, dieG_b hIl, Die.eta, dieC_set, dieG_b (hTs _), set_get_same hTd, List.length_set, Cod.encs_len, Int.natCast_nonneg, Int.toNat_natCast, decide_false, decide_true, cond_false, cond_true, Option.bind_some, intC_set, intC_snoc, Bool.false_or]
      by_cases ho : s.o.getD T 0 < 0
      · have ho2 : ¬ 0 ≤ s.o.getD T 0 := by omega
        simp -implicitDefEqProofs only [ho, ho2, decide_true, decide_false, cond_true, cond_false]
      · have ho2 : 0 ≤ s.o.getD T 0 := by omega
        simp -implicitDefEqProofs only [ho, ho2, decide_true, decide_false, cond_true, cond_false]
/-- The last loop: whether a face lies on two. -/
theorem spec_neBottoms.l25_run {O : List Int} (hDl : Ds.length ≤ 36) (hO : ∀ j ∈ Ds, 0 ≤ j ∧ j < (O.length : Int) ∧ 0 ≤ O.getD j.toNat 0 ∧ O.getD j.toNat 0 ≤ 5) : ∀ (d k m M : Nat), k + d = Ds.length → d < m → M < 64 →
    spec_neBottoms.l25 n m (M : Int) ((Ds.length : Nat) : Int) (k : Int) (intC.encs O) (intC.encs Ds) = some [Q.one (D.sl 1 (intC.encs O)), Q.one (D.bool (seenB ((Ds.drop k).map fun i => (O.getD i.toNat 0).toNat) M))] := by
  intro d
  induction d with
  | zero =>
    intro k m M hk hm hM
    obtain ⟨m, rfl⟩ : ∃ m', m = m' + 1 := ⟨m - 1, by omega⟩
    have h1 : ¬ (k : Int) < ((Ds.length : Nat) : Int) := by omega
    rw [spec_neBottoms.l25_eq, List.drop_of_length_le (by omega), List.map_nil, seenB]
    simp -implicitDefEqProofs only [h1, decide_false, cond_false]
  | succ d ih =>
    intro k m M hk hm hM
    obtain ⟨m, rfl⟩ : ∃ m', m = m' + 1 := ⟨m - 1, by omega⟩
    have hkl : k < Ds.length := by omega
    have h1 : (k : Int) < ((Ds.length : Nat) : Int) := by omega
    obtain ⟨j1, j2, j3, j4⟩ := hO Ds[k] (List.getElem_mem hkl)
    obtain ⟨J, hJ⟩ : ∃ J : Nat, Ds[k] = (J : Int) := ⟨Ds[k].toNat, by omega⟩
    rw [hJ] at j1 j2 j3 j4
    rw [Int.toNat_natCast] at j3 j4
    have hJl : J < O.length := by omega
    obtain ⟨B, hB⟩ : ∃ B : Nat, O.getD J 0 = (B : Int) := ⟨(O.getD J 0).toNat, by omega⟩
    rw [hB] at j3 j4
    have hg0 : D.int? .i64 (cellD (intC.encs Ds) k 0) = some (J : Int) := by rw [intC_gd hkl, gd_get hkl, hJ]
    have hg1 : D.int? .i64 (cellD (intC.encs O) J 0) = some (B : Int) := by rw [intC_gd hJl, hB]
    have hB6 : B < 6 := by omega
    obtain ⟨o1, o2⟩ := orZ_eq hM hB6
    have hbit := bitZ_eq hM hB6
    have step := ih (k + 1) m (orB M B) (by omega) (by omega) o2
    unfold orZ at o1
    rw [Int.toNat_natCast] at o1 hbit
    rw [spec_neBottoms.l25_eq, List.drop_eq_getElem_cons hkl, List.map_cons, seenB, hJ]
    simp -implicitDefEqProofs only [h1, j2, hg0, hg1, hB, hbit, o1, Cod.encs_len, Int.natCast_nonneg, Int.toNat_natCast, decide_true, cond_true, Option.bind_some, wrap_succ (show k ≤ LIM by unfold LIM; omega)]
    cases decide ((M >>> B) % 2 = 1) with
    | true => simp -implicitDefEqProofs only [cond_true]
    | false =>
      simp -implicitDefEqProofs only [cond_false]
      exact step
theorem spec_neBottoms.l13_run {R : Bo} (hn : 100 ≤ n) (hDs : Ds = digL cs) (hc : cs.length = W * H) (hW : 1 ≤ W ∧ W ≤ 6) (hH : 1 ≤ H ∧ H ≤ 6) (h6 : (digL cs).length = 6) (hO : ∀ j ∈ Ds, 0 ≤ j ∧ j < ((R.o.length : Nat) : Int) ∧ 0 ≤ R.o.getD j.toNat 0 ∧ R.o.getD j.toNat 0 ≤ 5) : ∀ (f a m : Nat) (s : Bo), a + f = 100 → f < m → BOk (W * H) s → R = bAll (stF W H cs) f a s →
    spec_neBottoms.l13 n m (a : Int) (W : Int) (H : Int) (u8C.encs cs) (intC.encs s.o) (dieC.encs s.di) (intC.encs Ds) (intC.encs s.q) = some [Q.one (D.sl 1 (intC.encs R.o)), Q.one (D.bool (seenB (Ds.map fun i => (R.o.getD i.toNat 0).toNat) 0))] := by
  have hWH : W * H ≤ 6 * 6 := Nat.mul_le_mul hW.2 hH.2
  have hD6 : Ds.length = 6 := by rw [hDs]; exact h6
  have fin : ∀ (a m : Nat) (s : Bo), ¬ a < s.q.length → 0 < m → R = s → spec_neBottoms.l13 n m (a : Int) (W : Int) (H : Int) (u8C.encs cs) (intC.encs s.o) (dieC.encs s.di) (intC.encs Ds) (intC.encs s.q) = some [Q.one (D.sl 1 (intC.encs s.o)), Q.one (D.bool (seenB (Ds.map fun i => (s.o.getD i.toNat 0).toNat) 0))] := by
    intro a m s ha hm he
    obtain ⟨m, rfl⟩ : ∃ m', m = m' + 1 := ⟨m - 1, by omega⟩
    rw [he] at hO
    have h1 : ¬ (a : Int) < ((s.q.length : Nat) : Int) := by omega
    have key := spec_neBottoms.l25_run (n := n) (by omega) hO Ds.length 0 n 0 (by omega) (by omega) (by omega)
    rw [spec_neBottoms.l13_eq]
    simp -implicitDefEqProofs only [h1, Cod.encs_len, decide_false, cond_false]
    exact key
  intro f
  induction f with
  | zero =>
    intro a m s hf hm hq he
    have hql := hq.qlen
    rw [bAll] at he
    have := fin a m s (by omega) (by omega) he
    rw [he]
    exact this
  | succ f ih =>
    intro a m s hf hm hq he
    by_cases ha : a < s.q.length
    · obtain ⟨m, rfl⟩ : ∃ m', m = m' + 1 := ⟨m - 1, by omega⟩
      have h1 : (a : Int) < ((s.q.length : Nat) : Int) := by omega
      have key := spec_neBottoms.l16_run (n := n) (m13 := m) (Ds := Ds) hc hW hH 4 0 n s rfl (by omega) hq ha
      rw [bAll, decide_eq_true ha, cond_true] at he
      rw [spec_neBottoms.l13_eq]
      simp -implicitDefEqProofs only [h1, Cod.encs_len, decide_true, cond_true]
      refine Eq.trans key ?_
      exact ih (a + 1) m _ (by omega) (by omega) (b_in 4 0 s hq ha) he
    · rw [bAll, decide_eq_false ha, cond_false] at he
      have := fin a m s ha (by omega) he
      rw [he]
      exact this
theorem fill_rep (N k : Nat) (hk : k < N) (v w : Int) : (List.replicate k v ++ (List.replicate N w).drop k).set k v = List.replicate (k + 1) v ++ (List.replicate N w).drop (k + 1) := fill_run k (by simpa using hk) v
theorem spec_neBottoms.l4_run (hn : 200 ≤ n) (hc : cs.length = W * H) (hW : 1 ≤ W ∧ W ≤ 6) (hH : 1 ≤ H ∧ H ≤ 6) (h6 : (digL cs).length = 6) (hh : hangP (plcs (W : Int) (digL cs)) = true) : ∀ (d k m : Nat), k + d = W * H → d < m →
    spec_neBottoms.l4 n m ((W * H : Nat) : Int) (k : Int) (W : Int) (H : Int) (u8C.encs cs) (intC.encs (List.replicate k (-1) ++ (List.replicate (W * H) 0).drop k)) (dieC.encs (List.replicate (W * H) die0)) = some [Q.one (D.sl 1 (intC.encs (bGrid W H cs))), Q.one (D.bool (botB W H cs))] := by
  have hWH : W * H ≤ 6 * 6 := Nat.mul_le_mul hW.2 hH.2
  have hdec : u8C.decs (u8C.encs cs) = some cs := Cod.decs_encs (by unfold LIM; omega)
  intro d
  induction d with
  | zero =>
    intro k m hk hm
    obtain ⟨m, rfl⟩ : ∃ m', m = m' + 1 := ⟨m - 1, by omega⟩
    obtain rfl : k = W * H := by omega
    have h0 : 0 < (digL cs).length := by omega
    have h1 : ¬ ((W * H : Nat) : Int) < ((W * H : Nat) : Int) := by omega
    have hmem : (digL cs).getD 0 0 ∈ digL cs := by rw [gd_get h0]; exact List.getElem_mem h0
    obtain ⟨I, e1, e2, _⟩ := digL_mem.1 hmem
    have hI : (I : Int) < ((W * H : Nat) : Int) := by omega
    have hz2 : (0 : Int) < (((digL cs).length : Nat) : Int) := by omega
    have hg0 : D.int? .i64 (cellD (intC.encs (digL cs)) 0 0) = some (I : Int) := by rw [intC_gd h0, e1]
    have hdr : (List.replicate (W * H) (0 : Int)).drop (W * H) = [] := List.drop_of_length_le (by simp)
    have t0 : Int.toNat 0 = 0 := rfl
    have hgr : bGrid (W : Int) (H : Int) cs = (bAll (stF W H cs) 100 0 (bS0 cs.length (I : Int))).o := by unfold bGrid dAt; rw [show (0 : Int).toNat = 0 from rfl, e1]
    obtain ⟨q1, q2⟩ := bot_grid (by omega) hc h0 hh
    obtain ⟨p1, _, _, _⟩ := grid_fold (by omega) hc h0
    have hol : (bGrid (W : Int) (H : Int) cs).length = W * H := by
      have hb := bok0 (N := W * H) (i := (I : Int)) ⟨Int.natCast_nonneg _, hI⟩
      have : ∀ (f a : Nat) (s : Bo), BOk (W * H) s → BOk (W * H) (bAll (stF W H cs) f a s) := by
        intro f
        induction f with
        | zero => intro a s h; exact h
        | succ f ih =>
          intro a s h
          rw [bAll]
          by_cases ha : a < s.q.length
          · rw [decide_eq_true ha, cond_true]
            exact ih _ _ (b_in 4 0 s h ha)
          · rw [decide_eq_false ha]; exact h
      rw [hgr, hc]
      exact (this 100 0 _ hb).ol
    have hO : ∀ j ∈ digL cs, 0 ≤ j ∧ j < (((bGrid (W : Int) (H : Int) cs).length : Nat) : Int) ∧ 0 ≤ (bGrid (W : Int) (H : Int) cs).getD j.toNat 0 ∧ (bGrid (W : Int) (H : Int) cs).getD j.toNat 0 ≤ 5 := fun j hj => by
      obtain ⟨v, v1, v2, _⟩ := digL_mem.1 hj
      have hm2 : (bGrid (W : Int) (H : Int) cs).getD j.toNat 0 ∈ (digL cs).map fun i => (bGrid (W : Int) (H : Int) cs).getD i.toNat 0 := List.mem_map.2 ⟨j, hj, rfl⟩
      rw [q1] at hm2
      have := q2 _ hm2
      refine ⟨by omega, by rw [hol]; omega, this.1, this.2⟩
    rw [hgr] at hO
    rw [spec_neBottoms.l4_eq, hdr, List.append_nil]
    have hset : ∀ (l : List Die) (i : Nat), setRow 6 (dieC.encs l) i 0 [D.int .i64 (Die.t unitD), D.int .i64 (Die.n unitD), D.int .i64 (Die.e unitD), D.int .i64 (Die.s unitD), D.int .i64 (Die.w unitD), D.int .i64 (Die.b unitD)] = dieC.encs (l.set i unitD) := fun l i => dieC_set l i unitD
    simp -implicitDefEqProofs only [h1, hdec, hz2, hg0, hI, t0, hset, Cod.encs_len, List.length_replicate, Int.natCast_nonneg, Int.toNat_natCast, decide_false, decide_true, cond_false, cond_true, Option.bind_some, intC_set]
    have key := spec_neBottoms.l13_run (n := n) (W := W) (H := H) (cs := cs) (Ds := digL cs) (R := bAll (stF W H cs) 100 0 (bS0 cs.length (I : Int))) (by omega) rfl hc hW hH h6 hO 100 0 n (bS0 cs.length (I : Int)) (by omega) (by omega) (by rw [hc]; exact bok0 ⟨Int.natCast_nonneg _, hI⟩) rfl
    unfold botB
    rw [hgr]
    refine Eq.trans ?_ key
    unfold bS0
    rw [hc, Int.toNat_natCast]
    rfl
  | succ d ih =>
    intro k m hk hm
    obtain ⟨m, rfl⟩ : ∃ m', m = m' + 1 := ⟨m - 1, by omega⟩
    have h1 : (k : Int) < ((W * H : Nat) : Int) := by omega
    have hl : (List.replicate k (-1 : Int) ++ (List.replicate (W * H) 0).drop k).length = W * H := by simp; omega
    have step := ih (k + 1) m (by omega) (by omega)
    rw [← fill_rep (W * H) k (by omega) (-1) 0] at step
    rw [spec_neBottoms.l4_eq]
    simp -implicitDefEqProofs only [h1, hl, Cod.encs_len, Int.natCast_nonneg, Int.toNat_natCast, decide_true, cond_true, intC_set, wrap_succ (show k ≤ LIM by unfold LIM; omega)]
    exact step
end
def spec_neBottoms.stub : Stub
  | [.agg [.int .i64 w, .int .i64 h, .sl 1 es]] => .any (u8C.decs es) fun cs => .gd (Sp.inR w 1 6) (.gd (Sp.inR h 1 6) (.gd (decide (cs.length = w.toNat * h.toNat)) (.gd (decide ((Sp.digL cs).length = 6)) (.gd (Sp.hangP (Sp.plcs w (Sp.digL cs))) (.ret [.one (.sl 1 (intC.encs (Sp.bGrid w h cs))), .one (.bool (Sp.botB w.toNat h.toNat cs))])))))
  | _ => .fail
theorem spec_neBottoms.ok : StubOk Tryz.prog C0 50 spec_neBottoms.stub := by
  intro args res h
  unfold spec_neBottoms.stub at h
  split at h
  · rename_i w h' es
    obtain ⟨cs, h1, h0⟩ := any_out h
    obtain ⟨rfl, hl⟩ := Cod.decs_inv h1
    obtain ⟨k1, h0⟩ := gd_out h0
    obtain ⟨k2, h0⟩ := gd_out h0
    obtain ⟨k4, h0⟩ := gd_out h0
    obtain ⟨k5, h0⟩ := gd_out h0
    obtain ⟨k6, h0⟩ := gd_out h0
    cases h0
    have k4 := of_decide_eq_true k4
    have k5 := of_decide_eq_true k5
    unfold inR at k1 k2
    simp only [Bool.and_eq_true, decide_eq_true_eq] at k1 k2
    obtain ⟨W, rfl⟩ : ∃ W : Nat, w = (W : Int) := ⟨w.toNat, by omega⟩
    obtain ⟨H, rfl⟩ : ∃ H : Nat, h' = (H : Int) := ⟨h'.toNat, by omega⟩
    rw [Int.toNat_natCast, Int.toNat_natCast] at k4
    have hWH : W * H ≤ 6 * 6 := Nat.mul_le_mul (by omega) (by omega)
    obtain ⟨N, hN⟩ : ∃ N, 200 ≤ N := ⟨200, Nat.le_refl _⟩
    refine spec_neBottoms.ev (n := N) ?_
    unfold spec_neBottoms.res
    have h2 : ((W * H : Nat) : Int) ≤ 17179869184 := by omega
    simp -implicitDefEqProofs only [Cod.encs_len, k4, h2, List.length_replicate, Int.toNat_natCast, Int.le_refl, decide_true, cond_true, intC_rep, die_rep]
    exact spec_neBottoms.l4_run (n := N) hN k4 ⟨by omega, by omega⟩ ⟨by omega, by omega⟩ k5 k6 (W * H) 0 N (by omega) (by omega)
  · cases h
end Go.Proofs.EV.PL
set_option linter.unusedVariables false
set_option linter.unusedSimpArgs false
set_option maxHeartbeats 4000000
/-! The reference's nets, and a net turned. -/
namespace Go.Proofs.EV.PL
open Go Go.Proofs Go.Proofs.EV Sp
/-! spec_neSix -/
noncomputable def spec_neSix.cfg : Cfg := { C0 with keep := fun | 7 => some [1, 4, 5, 6, 26, 27, 28] | _ => none, nb := 0, M := tabM [(30, spec_neDigits.stub), (79, spec_neFar.stub)], MM := tabB [] }
noncomputable def spec_neSix.l7 (n : Nat) (m7 : Nat) (i0 : Int) (i1 : Int) (i2 : Int) (i3 : Int) (i4 : Int) (i5 : Int) (l6 : List (List D)) (l7 : List (List D)) (l8 : List (List D)) : Option (List Q) :=
  loopAt spec_neSix.cfg [RK.one LK.bool] n Tryz.f49 [1, 1, 1, 1, 1, 0, 1, 0] [] m7 (St.mk [V.undef, V.rp (0 : Nat) (0 : Nat), V.undef, V.undef, V.rw (1 : Nat), V.one true (D.int IntKind.i64 i0), V.one true (D.int IntKind.i64 i1), V.undef, V.undef, V.undef, V.undef, V.undef, V.undef, V.undef, V.undef, V.undef, V.undef, V.undef, V.undef, V.undef, V.undef, V.undef, V.undef, V.undef, V.undef, V.undef, V.rw (2 : Nat), V.one true (D.int IntKind.i64 i2), V.one true (D.int IntKind.i64 i3), V.undef, V.undef, V.undef, V.undef, V.undef, V.undef, V.undef, V.undef, V.undef, V.undef, V.undef, V.undef, V.undef, V.undef, V.undef, V.undef, V.undef, V.undef, V.undef, V.undef, V.undef, V.undef, V.undef, V.undef, V.undef, V.undef, V.undef, V.undef, V.undef, V.undef, V.undef, V.undef, V.undef, V.undef, V.undef, V.undef, V.undef] [Ob.box [V.one true (D.int IntKind.i64 i4), V.one true (D.int IntKind.i64 i5), V.one false (D.sl (1 : Nat) l6)], Ob.row false (1 : Nat) l7, Ob.row false (1 : Nat) l8])
theorem spec_neSix.l7_eq (n : Nat) (m7 : Nat) (i0 : Int) (i1 : Int) (i2 : Int) (i3 : Int) (i4 : Int) (i5 : Int) (l6 : List (List D)) (l7 : List (List D)) (l8 : List (List D)) :
    spec_neSix.l7 n (m7 + 1) i0 i1 i2 i3 i4 i5 l6 l7 l8 = bif decide (i3 < i2) then bif decide ((0 : Int) ≤ i3) then bif decide (i3 < (↑(List.length l8) : Int)) then Option.bind (Option.bind (some (cellD l8 (Int.toNat i3) (0 : Nat))) (D.int? IntKind.i64)) fun (i3_1 : Int) => bif decide ((0 : Int) ≤ i3_1) then bif decide (i3_1 < (↑(List.length l7) : Int)) then Option.bind (Option.bind (some (cellD l7 (Int.toNat i3_1) (0 : Nat))) (D.int? IntKind.i64)) fun (i4_1 : Int) => bif decide (i4_1 < (0 : Int)) then some [Q.one (D.bool false)] else bif !decide (i4 = (0 : Int)) then bif decide ((0 : Int) ≤ Int.tmod i3_1 i4) then bif !decide (i4 = (0 : Int)) then bif decide ((0 : Int) ≤ IntKind.wrap IntKind.i64 (Int.tdiv i3_1 i4)) then spec_neSix.l7 n m7 (IntKind.wrap IntKind.i64 (↑(BitVec.toNat (BitVec.ofInt (64 : Nat) i0 ||| BitVec.ofInt (64 : Nat) (IntKind.wrap IntKind.i64 ((1 : Int) * (2 : Int) ^ min (Int.toNat (Int.tmod i3_1 i4)) (64 : Nat))))) : Int)) (IntKind.wrap IntKind.i64 (↑(BitVec.toNat (BitVec.ofInt (64 : Nat) i1 ||| BitVec.ofInt (64 : Nat) (IntKind.wrap IntKind.i64 ((1 : Int) * (2 : Int) ^ min (Int.toNat (IntKind.wrap IntKind.i64 (Int.tdiv i3_1 i4))) (64 : Nat))))) : Int)) i2 (IntKind.wrap IntKind.i64 (i3 + (1 : Int))) i4 i5 l6 l7 l8 else none else none else none else none else none else none else none else none else bif decide ((0 : Int) ≤ i4) then bif i0 == IntKind.wrap IntKind.i64 (IntKind.wrap IntKind.i64 ((1 : Int) * (2 : Int) ^ min (Int.toNat i4) (64 : Nat)) - (1 : Int)) then bif decide ((0 : Int) ≤ i5) then some [Q.one (D.bool (i1 == IntKind.wrap IntKind.i64 (IntKind.wrap IntKind.i64 ((1 : Int) * (2 : Int) ^ min (Int.toNat i5) (64 : Nat)) - (1 : Int))))] else none else some [Q.one (D.bool false)] else none := by kernel_rfl
noncomputable def spec_neSix.res (n : Nat) (a0_0 : Int) (a0_1 : Int) (a0_2 : List (List D)) : Option (List Q) :=
  Option.bind (Cod.decs u8C a0_2) fun (l1 : List UInt8) => bif (↑(List.length (Cod.encs intC (digL l1))) : Int) != (6 : Int) then some [Q.one (D.bool false)] else bif decide (a0_0 > (6 : Int)) then some [Q.one (D.bool false)] else bif decide (a0_1 > (6 : Int)) then some [Q.one (D.bool false)] else Option.bind (Cod.decs u8C a0_2) fun (l2 : List UInt8) => bif inR a0_0 (1 : Int) (6 : Int) then bif inR a0_1 (1 : Int) (6 : Int) then bif decide (List.length l2 = Int.toNat a0_0 * Int.toNat a0_1) then bif decide ((0 : Nat) < List.length (digL l2)) then spec_neSix.l7 n n (0 : Int) (0 : Int) (↑(List.length (Cod.encs intC (digL l1))) : Int) (0 : Int) a0_0 a0_1 a0_2 (Cod.encs intC (fGrid a0_0 a0_1 l2)) (Cod.encs intC (digL l1)) else none else none else none else none
theorem spec_neSix.run (n : Nat) (a0_0 : Int) (a0_1 : Int) (a0_2 : List (List D)) :
    run1 spec_neSix.cfg [RK.one LK.bool] n Tryz.f49 [Q.agg [D.int IntKind.i64 a0_0, D.int IntKind.i64 a0_1, D.sl (1 : Nat) a0_2]] = spec_neSix.res n a0_0 a0_1 a0_2 := by kernel_rfl
theorem spec_neSix.ev {n : Nat} {a0_0 : Int} {a0_1 : Int} {a0_2 : List (List D)} {r : List Q} (h : spec_neSix.res n a0_0 a0_1 a0_2 = some r) : Snd Tryz.prog C0 49 [.agg [.int .i64 a0_0, .int .i64 a0_1, .sl 1 a0_2]] r :=
  snd_ev (C := spec_neSix.cfg) cfg0 mix rfl rfl rfl rfl rfl (.cons spec_neDigits.ok (.cons spec_neFar.ok .nil)) .nil rfl Tryz.func49 (by kernel_rfl) (by kernel_rfl) rfl ((spec_neSix.run n a0_0 a0_1 a0_2).trans h)

theorem nat_beq (a b : Nat) : ((a : Int) == (b : Int)) = decide (a = b) := by
  rw [Bool.eq_iff_iff, beq_iff_eq, decide_eq_true_eq]
  omega
section
variable {n : Nat} {W H : Nat} {Ds F : List Int} {es : List (List D)}
theorem spec_neSix.l7_run (hW : 1 ≤ W ∧ W ≤ 6) (hH : 1 ≤ H ∧ H ≤ 6) (hD : ∀ j ∈ Ds, 0 ≤ j ∧ j < ((W * H : Nat) : Int)) (hF : F.length = W * H) (hDl : Ds.length ≤ 36) : ∀ (d k m A B : Nat), k + d = Ds.length → d < m → A < 64 → B < 64 →
    spec_neSix.l7 n m (A : Int) (B : Int) ((Ds.length : Nat) : Int) (k : Int) (W : Int) (H : Int) es (intC.encs F) (intC.encs Ds) = some [Q.one (D.bool (((Ds.drop k).all fun i => decide (0 ≤ F.getD i.toNat 0)) && (decide (((Ds.drop k).map fun i => (i % (W : Int)).toNat).foldl orB A = 2 ^ W - 1) && decide (((Ds.drop k).map fun i => (i / (W : Int)).toNat).foldl orB B = 2 ^ H - 1))))] := by
  intro d
  induction d with
  | zero =>
    intro k m A B hk hm hA hB
    obtain ⟨m, rfl⟩ : ∃ m', m = m' + 1 := ⟨m - 1, by omega⟩
    have h1 : ¬ (k : Int) < ((Ds.length : Nat) : Int) := by omega
    have o1 := onesZ_eq hW.2
    have o2 := onesZ_eq hH.2
    unfold onesZ at o1 o2
    rw [Int.toNat_natCast] at o1 o2
    rw [spec_neSix.l7_eq, List.drop_of_length_le (by omega), List.map_nil, List.map_nil, List.foldl_nil, List.foldl_nil, List.all_nil]
    simp -implicitDefEqProofs only [h1, o1, o2, nat_beq, Int.natCast_nonneg, Int.toNat_natCast, decide_false, decide_true, cond_false, cond_true, Bool.true_and]
    cases decide (A = 2 ^ W - 1) with
    | true => simp only [cond_true, Bool.true_and]
    | false => simp only [cond_false, Bool.false_and]
  | succ d ih =>
    intro k m A B hk hm hA hB
    obtain ⟨m, rfl⟩ : ∃ m', m = m' + 1 := ⟨m - 1, by omega⟩
    have hkl : k < Ds.length := by omega
    have h1 : (k : Int) < ((Ds.length : Nat) : Int) := by omega
    obtain ⟨j1, j2⟩ := hD Ds[k] (List.getElem_mem hkl)
    obtain ⟨J, hJ⟩ : ∃ J : Nat, Ds[k] = (J : Int) := ⟨Ds[k].toNat, by omega⟩
    rw [hJ] at j1 j2
    have hJn : J < W * H := by omega
    have hJl : J < F.length := by omega
    have hJi : (J : Int) < ((F.length : Nat) : Int) := by omega
    have hg0 : D.int? .i64 (cellD (intC.encs Ds) k 0) = some (J : Int) := by rw [intC_gd hkl, gd_get hkl, hJ]
    have hx : J % W < 6 := Nat.lt_of_lt_of_le (Nat.mod_lt _ (by omega)) hW.2
    have hy : J / W < 6 := Nat.lt_of_lt_of_le (Nat.div_lt_of_lt_mul hJn) hH.2
    have e1 : Int.tmod (J : Int) (W : Int) = ((J % W : Nat) : Int) := by rw [Int.tmod_eq_emod_of_nonneg (Int.natCast_nonneg _), Int.natCast_emod]
    have e2 : IntKind.wrap .i64 (Int.tdiv (J : Int) (W : Int)) = ((J / W : Nat) : Int) := by
      have e3 : Int.tdiv (J : Int) (W : Int) = ((J / W : Nat) : Int) := by rw [Int.tdiv_eq_ediv_of_nonneg (Int.natCast_nonneg _), Int.natCast_ediv]
      have gen : ∀ q : Nat, q < 6 → IntKind.wrap .i64 (q : Int) = (q : Int) := fun q hq => wrap_in (by omega) (by omega)
      rw [e3]
      exact gen _ hy
    obtain ⟨a1, a2⟩ := orZ_eq hA hx
    obtain ⟨b1, b2⟩ := orZ_eq hB hy
    unfold orZ at a1 b1
    rw [Int.toNat_natCast] at a1 b1
    have z1 : ¬ (W : Int) = 0 := by omega
    have step := ih (k + 1) m (orB A (J % W)) (orB B (J / W)) (by omega) (by omega) a2 b2
    rw [spec_neSix.l7_eq, List.drop_eq_getElem_cons hkl, List.map_cons, List.map_cons, List.foldl_cons, List.foldl_cons, List.all_cons, hJ]
    rw [← Int.natCast_emod, ← Int.natCast_ediv, Int.toNat_natCast, Int.toNat_natCast]
    simp -implicitDefEqProofs only [h1, hJi, z1, e1, e2, a1, b1, hg0, intC_gd hJl, Cod.encs_len, Int.natCast_nonneg, Int.toNat_natCast, decide_false, decide_true, cond_true, Bool.not_false, Option.bind_some, wrap_succ (show k ≤ LIM by unfold LIM; omega), step]
    by_cases hf : F.getD J 0 < 0
    · have hf2 : ¬ 0 ≤ F.getD J 0 := by omega
      simp only [hf, hf2, decide_true, decide_false, cond_true, Bool.false_and]
    · have hf2 : 0 ≤ F.getD J 0 := by omega
      simp only [hf, hf2, decide_true, decide_false, cond_false, Bool.true_and]
end
def spec_neSix.stub : Stub
  | [.agg [.int .i64 w, .int .i64 h, .sl 1 es]] => .any (u8C.decs es) fun cs => .gd (decide (cs.length = w.toNat * h.toNat)) (.gd (decide (1 ≤ w)) (.gd (decide (1 ≤ h)) (.ret [.one (.bool (Sp.sixN w.toNat h.toNat cs))])))
  | _ => .fail
theorem fGrid_len {W H : Nat} {cs : List UInt8} (hc : cs.length = W * H) (hW : 0 < W) (h0 : 0 < (digL cs).length) : (fGrid W H cs).length = W * H := by
  have hD : ∀ j ∈ digL cs, 0 ≤ j ∧ j < (cs.length : Int) := fun j hj => by
    obtain ⟨k, k1, k2, _⟩ := digL_mem.1 hj
    omega
  have hpl : (plcs (W : Int) (digL cs)).length = (digL cs).length := by simp [plcs]
  have key := Sim.all (digGo_nodup cs 0) hD (nb := nbF (plcs W (digL cs))) (st := stF W H cs) (fun k dir => by have := nbF_in (plcs W (digL cs)) k dir; rw [hpl] at this; exact this) (fun k dir k1 k2 => st_nb hW hc k1 k2 dir) 100 0 (P := fS0 cs.length (dAt (digL cs) 0)) (sim0 (digGo_nodup cs 0) hD h0) (fo0_ok h0)
  rw [← hc]
  exact key.1.fl
theorem spec_neSix.ok : StubOk Tryz.prog C0 49 spec_neSix.stub := by
  intro args res h
  unfold spec_neSix.stub at h
  split at h
  · rename_i w h' es
    obtain ⟨cs, h1, h0⟩ := any_out h
    obtain ⟨rfl, hl⟩ := Cod.decs_inv h1
    obtain ⟨k4, h0⟩ := gd_out h0
    obtain ⟨k1, h0⟩ := gd_out h0
    obtain ⟨k2, h0⟩ := gd_out h0
    cases h0
    have k4 := of_decide_eq_true k4
    have k1 := of_decide_eq_true k1
    have k2 := of_decide_eq_true k2
    obtain ⟨W, rfl⟩ : ∃ W : Nat, w = (W : Int) := ⟨w.toNat, by omega⟩
    obtain ⟨H, rfl⟩ : ∃ H : Nat, h' = (H : Int) := ⟨h'.toNat, by omega⟩
    rw [Int.toNat_natCast, Int.toNat_natCast] at k4
    obtain ⟨N, hN⟩ : ∃ N, 100 ≤ N := ⟨100, Nat.le_refl _⟩
    refine spec_neSix.ev (n := N) ?_
    unfold spec_neSix.res sixN
    rw [h1, Int.toNat_natCast, Int.toNat_natCast]
    simp -implicitDefEqProofs only [Option.bind_some, Cod.encs_len]
    by_cases h6 : (digL cs).length = 6
    · have e6 : ((((digL cs).length : Nat) : Int) != 6) = false := by rw [h6]; rfl
      by_cases hW : W ≤ 6
      · have n1 : ¬ (W : Int) > 6 := by omega
        by_cases hH : H ≤ 6
        · have n2 : ¬ (H : Int) > 6 := by omega
          have n3 : 0 < (digL cs).length := by omega
          have hD : ∀ j ∈ digL cs, 0 ≤ j ∧ j < ((W * H : Nat) : Int) := fun j hj => by
            obtain ⟨k, q1, q2, _⟩ := digL_mem.1 hj
            omega
          have key := spec_neSix.l7_run (n := N) (es := u8C.encs cs) (F := fGrid W H cs) ⟨by omega, hW⟩ ⟨by omega, hH⟩ hD (fGrid_len k4 (by omega) n3) (by omega) (digL cs).length 0 N 0 0 (by omega) (by omega) (by omega) (by omega)
          simp -implicitDefEqProofs only [e6, n1, n2, n3, k4, w_in ⟨(show 1 ≤ W by omega), hW⟩, w_in ⟨(show 1 ≤ H by omega), hH⟩, h6, hW, hH, Int.toNat_natCast, decide_false, decide_true, cond_false, cond_true, Bool.true_and]
          rw [h6] at key
          rw [List.drop_zero] at key
          exact key
        · have n2 : (H : Int) > 6 := by omega
          simp -implicitDefEqProofs only [e6, n1, n2, hH, decide_false, decide_true, cond_false, cond_true, Bool.and_false, Bool.false_and]
      · have n1 : (W : Int) > 6 := by omega
        simp -implicitDefEqProofs only [e6, n1, hW, decide_false, decide_true, cond_false, cond_true, Bool.and_false, Bool.false_and]
    · have e6 : ((((digL cs).length : Nat) : Int) != 6) = true := by
        rw [bne, Bool.not_eq_true', beq_eq_false_iff_ne]; omega
      simp -implicitDefEqProofs only [e6, h6, decide_false, cond_true, Bool.and_false, Bool.false_and]
  · cases h
/-! spec_neNet -/
noncomputable def spec_neNet.cfg : Cfg := { C0 with keep := fun _ => none, nb := 0, M := tabM [(48, spec_neRead.stub), (49, spec_neSix.stub), (50, spec_neBottoms.stub)], MM := tabB [] }
noncomputable def spec_neNet.res (n : Nat) (a0 : ByteArray) : Option (List Q) :=
  bif !neB false a0 then some [Q.agg [D.int IntKind.i64 (↑(neW false a0) : Int), D.int IntKind.i64 (↑(neH false a0) : Int), D.sl (1 : Nat) (Cod.encs u8C (neC false a0))], Q.one (D.sl (1 : Nat) []), Q.one (D.bool false)] else Option.bind (Cod.decs u8C (Cod.encs u8C (neC false a0))) fun (l1 : List UInt8) => bif decide (List.length l1 = Int.toNat (↑(neW false a0) : Int) * Int.toNat (↑(neH false a0) : Int)) then bif decide ((1 : Int) ≤ (↑(neW false a0) : Int)) then bif decide ((1 : Int) ≤ (↑(neH false a0) : Int)) then bif !sixN (Int.toNat (↑(neW false a0) : Int)) (Int.toNat (↑(neH false a0) : Int)) l1 then some [Q.agg [D.int IntKind.i64 (↑(neW false a0) : Int), D.int IntKind.i64 (↑(neH false a0) : Int), D.sl (1 : Nat) (Cod.encs u8C (neC false a0))], Q.one (D.sl (1 : Nat) []), Q.one (D.bool false)] else Option.bind (Cod.decs u8C (Cod.encs u8C (neC false a0))) fun (l2 : List UInt8) => bif inR (↑(neW false a0) : Int) (1 : Int) (6 : Int) then bif inR (↑(neH false a0) : Int) (1 : Int) (6 : Int) then bif decide (List.length l2 = Int.toNat (↑(neW false a0) : Int) * Int.toNat (↑(neH false a0) : Int)) then bif decide (List.length (digL l2) = (6 : Nat)) then bif hangP (plcs (↑(neW false a0) : Int) (digL l2)) then some [Q.agg [D.int IntKind.i64 (↑(neW false a0) : Int), D.int IntKind.i64 (↑(neH false a0) : Int), D.sl (1 : Nat) (Cod.encs u8C (neC false a0))], Q.one (D.sl (1 : Nat) (Cod.encs intC (bGrid (↑(neW false a0) : Int) (↑(neH false a0) : Int) l2))), Q.one (D.bool (botB (Int.toNat (↑(neW false a0) : Int)) (Int.toNat (↑(neH false a0) : Int)) l2))] else none else none else none else none else none else none else none else none
theorem spec_neNet.run (n : Nat) (a0 : ByteArray) :
    run1 spec_neNet.cfg [RK.agg [LK.int IntKind.i64, LK.int IntKind.i64, LK.sl (1 : Nat)], RK.own (1 : Nat), RK.one LK.bool] n Tryz.f25 [Q.one (D.str a0)] = spec_neNet.res n a0 := by kernel_rfl
theorem spec_neNet.ev {n : Nat} {a0 : ByteArray} {r : List Q} (h : spec_neNet.res n a0 = some r) : Snd Tryz.prog C0 25 [.one (.str a0)] r :=
  snd_ev (C := spec_neNet.cfg) cfg0 mix rfl rfl rfl rfl rfl (.cons spec_neRead.ok (.cons spec_neSix.ok (.cons spec_neBottoms.ok .nil))) .nil rfl Tryz.func25 (by kernel_rfl) (by kernel_rfl) rfl ((spec_neNet.run n a0).trans h)

theorem neQ_okc : neQ false = okc := rfl
theorem sixS_neB (s : ByteArray) : sixS okc s = (neB false s && sixN (neW false s) (neH false s) (neC false s)) := by
  unfold sixS neW neH neC neB
  rw [neQ_okc]
  cases decide (s.size ≤ 41) with
  | false => rfl
  | true =>
    cases fine okc (rws s) && decide (0 < wOf (rws s)) with
    | false => rfl
    | true => rfl
theorem neB_out {m : Bool} {s : ByteArray} (h : neB m s = true) : neW m s = wOf (rws s) ∧ neH m s = (rws s).length ∧ neC m s = (rws s).flatten ∧ unif (rws s) = true ∧ 0 < wOf (rws s) ∧ 0 < (rws s).length ∧ (rws s).flatten.length = wOf (rws s) * (rws s).length := by
  have h' := h
  unfold neB fine at h'
  simp only [Bool.and_eq_true, decide_eq_true_eq] at h'
  obtain ⟨_, ⟨h1, _⟩, h2⟩ := h'
  unfold neW neH neC
  rw [h]
  exact ⟨rfl, rfl, rfl, h1, h2, by rw [rws, spl_count]; omega, flat_len h1⟩
def spec_neNet.stub : Stub
  | [.one (.str s)] => .ite (Sp.sixS okc s) (.ret [.agg [.int .i64 (Sp.neW false s : Nat), .int .i64 (Sp.neH false s : Nat), .sl 1 (u8C.encs (Sp.neC false s))], .one (.sl 1 (intC.encs (Sp.bGrid (Sp.neW false s : Nat) (Sp.neH false s : Nat) (Sp.neC false s)))), .one (.bool (Sp.netS okc s))]) (.ret [.agg [.int .i64 (Sp.neW false s : Nat), .int .i64 (Sp.neH false s : Nat), .sl 1 (u8C.encs (Sp.neC false s))], .one (.sl 1 []), .one (.bool false)])
  | _ => .fail
theorem spec_neNet.ok : StubOk Tryz.prog C0 25 spec_neNet.stub := by
  intro args res h
  unfold spec_neNet.stub at h
  split at h
  · rename_i s
    refine spec_neNet.ev (n := 0) ?_
    unfold spec_neNet.res
    have hsx := sixS_neB s
    cases hb : neB false s with
    | false =>
      rw [hb, Bool.false_and] at hsx
      rw [hsx] at h
      cases h
      simp only [Bool.not_false, cond_true]
    | true =>
      obtain ⟨e1, e2, e3, e4, e5, e6, e7⟩ := neB_out hb
      rw [hb, Bool.true_and] at hsx
      have hs41 : s.size ≤ 41 := by
        unfold neB at hb
        simp only [Bool.and_eq_true, decide_eq_true_eq] at hb
        exact hb.1
      have hsz := rws_size e4
      have hcl : (neC false s).length = neW false s * neH false s := by rw [e1, e2, e3]; exact e7
      have hcs : (neC false s).length ≤ 17179869184 := by
        rw [e3, e7]
        rw [Nat.mul_add, Nat.mul_comm] at hsz
        omega
      have hdec : u8C.decs (u8C.encs (neC false s)) = some (neC false s) := Cod.decs_encs hcs
      have g1 : (1 : Int) ≤ ((neW false s : Nat) : Int) := by rw [e1]; omega
      have g2 : (1 : Int) ≤ ((neH false s : Nat) : Int) := by rw [e2]; omega
      simp -implicitDefEqProofs only [Bool.not_true, cond_false, hdec, Option.bind_some, Int.toNat_natCast, hcl, g1, g2, decide_true, cond_true]
      cases hx : sixN (neW false s) (neH false s) (neC false s) with
      | false =>
        rw [hx] at hsx
        rw [hsx] at h
        cases h
        simp only [Bool.not_false, cond_true]
      | true =>
        rw [hx] at hsx
        have h' := h
        rw [hsx] at h
        cases h
        obtain ⟨f1, f2, f3, f4, f5, f6, f7, _⟩ := sixS_out hsx
        have w1 : inR ((neW false s : Nat) : Int) 1 6 = true := w_in ⟨by omega, by rw [e1]; exact f3⟩
        have w2 : inR ((neH false s : Nat) : Int) 1 6 = true := w_in ⟨by omega, by rw [e2]; exact f4⟩
        have d6 : (digL (neC false s)).length = 6 := by rw [e3]; exact f5
        have hh : hangP (plcs ((neW false s : Nat) : Int) (digL (neC false s))) = true := by rw [e1, e3]; exact f6
        have hnet : netS okc s = botB (neW false s) (neH false s) (neC false s) := by
          unfold netS
          rw [hsx, e1, e2, e3, Bool.true_and]
        simp -implicitDefEqProofs only [Bool.not_true, cond_false, w1, w2, d6, hh, decide_true, cond_true, hnet]
  · cases h
/-! spec_neTurn -/
noncomputable def spec_neTurn.cfg : Cfg := { C0 with keep := fun _ => none, nb := 0, M := tabM [(52, spec_boTurn.stub)], MM := tabB [] }
noncomputable def spec_neTurn.res (n : Nat) (a0_0 : Int) (a0_1 : Int) (a0_2 : List (List D)) : Option (List Q) :=
  Option.bind (Cod.decs u8C a0_2) fun (l1 : List UInt8) => bif inR a0_0 (0 : Int) (7 : Int) then bif inR a0_1 (0 : Int) (7 : Int) then bif decide (List.length l1 = Int.toNat a0_0 * Int.toNat a0_1) then some [Q.agg [D.int IntKind.i64 a0_1, D.int IntKind.i64 a0_0, D.sl (1 : Nat) (Cod.encs u8C (turnC (Int.toNat a0_0) (Int.toNat a0_1) l1))]] else none else none else none
theorem spec_neTurn.run (n : Nat) (a0_0 : Int) (a0_1 : Int) (a0_2 : List (List D)) :
    run1 spec_neTurn.cfg [RK.agg [LK.int IntKind.i64, LK.int IntKind.i64, LK.sl (1 : Nat)]] n Tryz.f27 [Q.agg [D.int IntKind.i64 a0_0, D.int IntKind.i64 a0_1, D.sl (1 : Nat) a0_2]] = spec_neTurn.res n a0_0 a0_1 a0_2 := by kernel_rfl
theorem spec_neTurn.ev {n : Nat} {a0_0 : Int} {a0_1 : Int} {a0_2 : List (List D)} {r : List Q} (h : spec_neTurn.res n a0_0 a0_1 a0_2 = some r) : Snd Tryz.prog C0 27 [.agg [.int .i64 a0_0, .int .i64 a0_1, .sl 1 a0_2]] r :=
  snd_ev (C := spec_neTurn.cfg) cfg0 mix rfl rfl rfl rfl rfl (.cons spec_boTurn.ok .nil) .nil rfl Tryz.func27 (by kernel_rfl) (by kernel_rfl) rfl ((spec_neTurn.run n a0_0 a0_1 a0_2).trans h)

def spec_neTurn.stub : Stub
  | [.agg [.int .i64 W, .int .i64 H, .sl 1 es]] => .any (u8C.decs es) fun cs => .gd (Sp.inR W 0 7) (.gd (Sp.inR H 0 7) (.gd (decide (cs.length = W.toNat * H.toNat)) (.ret [.agg [.int .i64 H, .int .i64 W, .sl 1 (u8C.encs (Sp.turnC W.toNat H.toNat cs))]])))
  | _ => .fail
theorem spec_neTurn.ok : StubOk Tryz.prog C0 27 spec_neTurn.stub := by
  intro args res h
  unfold spec_neTurn.stub at h
  split at h
  · rename_i W H es
    obtain ⟨cs, h1, h0⟩ := any_out h
    obtain ⟨k1, h0⟩ := gd_out h0
    obtain ⟨k2, h0⟩ := gd_out h0
    obtain ⟨k3, h0⟩ := gd_out h0
    cases h0
    refine spec_neTurn.ev (n := 0) ?_
    unfold spec_neTurn.res
    rw [h1, k1, k2]
    simp only [Option.bind_some, cond_true, k3]
  · cases h
/-! spec_neText -/
noncomputable def spec_neText.cfg : Cfg := { C0 with keep := fun _ => none, nb := 0, M := tabM [(51, spec_boText.stub)], MM := tabB [] }
noncomputable def spec_neText.res (n : Nat) (a0_0 : Int) (a0_1 : Int) (a0_2 : List (List D)) : Option (List Q) :=
  Option.bind (Cod.decs u8C a0_2) fun (l1 : List UInt8) => bif inR a0_0 (0 : Int) (7 : Int) then bif inR a0_1 (0 : Int) (7 : Int) then bif decide (List.length l1 = Int.toNat a0_0 * Int.toNat a0_1) then some [Q.one (D.str (mkB (jn (chunk (Int.toNat a0_0) (Int.toNat a0_1) l1))))] else none else none else none
theorem spec_neText.run (n : Nat) (a0_0 : Int) (a0_1 : Int) (a0_2 : List (List D)) :
    run1 spec_neText.cfg [RK.one LK.str] n Tryz.f26 [Q.agg [D.int IntKind.i64 a0_0, D.int IntKind.i64 a0_1, D.sl (1 : Nat) a0_2]] = spec_neText.res n a0_0 a0_1 a0_2 := by kernel_rfl
theorem spec_neText.ev {n : Nat} {a0_0 : Int} {a0_1 : Int} {a0_2 : List (List D)} {r : List Q} (h : spec_neText.res n a0_0 a0_1 a0_2 = some r) : Snd Tryz.prog C0 26 [.agg [.int .i64 a0_0, .int .i64 a0_1, .sl 1 a0_2]] r :=
  snd_ev (C := spec_neText.cfg) cfg0 mix rfl rfl rfl rfl rfl (.cons spec_boText.ok .nil) .nil rfl Tryz.func26 (by kernel_rfl) (by kernel_rfl) rfl ((spec_neText.run n a0_0 a0_1 a0_2).trans h)

def spec_neText.stub : Stub
  | [.agg [.int .i64 W, .int .i64 H, .sl 1 es]] => .any (u8C.decs es) fun cs => .gd (Sp.inR W 0 7) (.gd (Sp.inR H 0 7) (.gd (decide (cs.length = W.toNat * H.toNat)) (.ret [.one (.str (Sp.mkB (Sp.jn (Sp.chunk W.toNat H.toNat cs))))])))
  | _ => .fail
theorem spec_neText.ok : StubOk Tryz.prog C0 26 spec_neText.stub := by
  intro args res h
  unfold spec_neText.stub at h
  split at h
  · rename_i W H es
    obtain ⟨cs, h1, h0⟩ := any_out h
    obtain ⟨k1, h0⟩ := gd_out h0
    obtain ⟨k2, h0⟩ := gd_out h0
    obtain ⟨k3, h0⟩ := gd_out h0
    cases h0
    refine spec_neText.ev (n := 0) ?_
    unfold spec_neText.res
    rw [h1, k1, k2]
    simp only [Option.bind_some, cond_true, k3]
  · cases h
/-! spec_TurnNet -/
noncomputable def spec_TurnNet.cfg : Cfg := { C0 with keep := fun _ => none, nb := 0, M := tabM [(25, spec_neNet.stub), (27, spec_neTurn.stub), (26, spec_neText.stub)], MM := tabB [] }
noncomputable def spec_TurnNet.res (n : Nat) (a0 : ByteArray) : Option (List Q) :=
  bif sixS okc a0 then bif !netS okc a0 then some [Q.one (D.str (ByteArray.mk #[])), Q.one (D.bool false)] else Option.bind (Cod.decs u8C (Cod.encs u8C (neC false a0))) fun (l1 : List UInt8) => bif inR (↑(neW false a0) : Int) (0 : Int) (7 : Int) then bif inR (↑(neH false a0) : Int) (0 : Int) (7 : Int) then bif decide (List.length l1 = Int.toNat (↑(neW false a0) : Int) * Int.toNat (↑(neH false a0) : Int)) then Option.bind (Cod.decs u8C (Cod.encs u8C (turnC (Int.toNat (↑(neW false a0) : Int)) (Int.toNat (↑(neH false a0) : Int)) l1))) fun (l2 : List UInt8) => bif inR (↑(neH false a0) : Int) (0 : Int) (7 : Int) then bif inR (↑(neW false a0) : Int) (0 : Int) (7 : Int) then bif decide (List.length l2 = Int.toNat (↑(neH false a0) : Int) * Int.toNat (↑(neW false a0) : Int)) then some [Q.one (D.str (mkB (jn (chunk (Int.toNat (↑(neH false a0) : Int)) (Int.toNat (↑(neW false a0) : Int)) l2)))), Q.one (D.bool true)] else none else none else none else none else none else none else some [Q.one (D.str (ByteArray.mk #[])), Q.one (D.bool false)]
theorem spec_TurnNet.run (n : Nat) (a0 : ByteArray) :
    run1 spec_TurnNet.cfg [RK.one LK.str, RK.one LK.bool] n Tryz.f9 [Q.one (D.str a0)] = spec_TurnNet.res n a0 := by kernel_rfl
theorem spec_TurnNet.ev {n : Nat} {a0 : ByteArray} {r : List Q} (h : spec_TurnNet.res n a0 = some r) : Snd Tryz.prog C0 9 [.one (.str a0)] r :=
  snd_ev (C := spec_TurnNet.cfg) cfg0 mix rfl rfl rfl rfl rfl (.cons spec_neNet.ok (.cons spec_neTurn.ok (.cons spec_neText.ok .nil))) .nil rfl Tryz.func9 (by kernel_rfl) (by kernel_rfl) rfl ((spec_TurnNet.run n a0).trans h)

def spec_TurnNet.stub : Stub
  | [.one (.str s)] => .ret [.one (.str (Sp.onS (Sp.netS okc s) (Sp.mkB (Sp.jn (Sp.turnR (Sp.rws s)))))), .one (.bool (Sp.netS okc s))]
  | _ => .fail
theorem spec_TurnNet.ok : StubOk Tryz.prog C0 9 spec_TurnNet.stub := by
  intro args res h
  unfold spec_TurnNet.stub at h
  split at h
  · rename_i s
    cases h
    refine spec_TurnNet.ev (n := 0) ?_
    unfold spec_TurnNet.res
    have hnt : sixS okc s = false → netS okc s = false := fun e => by unfold netS; rw [e]; rfl
    cases hx : sixS okc s with
    | false =>
      rw [hnt hx]
      rfl
    | true =>
      obtain ⟨f1, f2, f3, f4, f5, f6, f7, f8⟩ := sixS_out hx
      have hb : neB false s = true := by
        have := sixS_neB s
        rw [hx] at this
        cases e : neB false s with
        | true => rfl
        | false => rw [e] at this; cases this
      obtain ⟨e1, e2, e3, e4, e5, e6, e7⟩ := neB_out hb
      have q1 : (neC false s).length = neW false s * neH false s := by rw [e1, e2, e3]; exact e7
      have hdec : u8C.decs (u8C.encs (neC false s)) = some (neC false s) := Cod.decs_encs (by
        have : neW false s * neH false s ≤ 6 * 6 := Nat.mul_le_mul (by rw [e1]; exact f3) (by rw [e2]; exact f4)
        unfold LIM; omega)
      have tl : (turnC (neW false s) (neH false s) (neC false s)).length = neH false s * neW false s := by rw [e1, e2, e3]; exact turnC_len f1
      have hdec2 : u8C.decs (u8C.encs (turnC (neW false s) (neH false s) (neC false s))) = some (turnC (neW false s) (neH false s) (neC false s)) := Cod.decs_encs (by
        have : neH false s * neW false s ≤ 6 * 6 := Nat.mul_le_mul (by rw [e2]; exact f4) (by rw [e1]; exact f3)
        unfold LIM; omega)
      have r1 : inR ((neW false s : Nat) : Int) 0 7 = true := by rw [e1]; unfold inR; simp; omega
      have r2 : inR ((neH false s : Nat) : Int) 0 7 = true := by rw [e2]; unfold inR; simp; omega
      have tt : mkB (jn (chunk (neH false s) (neW false s) (turnC (neW false s) (neH false s) (neC false s)))) = mkB (jn (turnR (rws s))) := by rw [e1, e2, e3, turn_text f1]
      simp -implicitDefEqProofs only [hdec, hdec2, r1, r2, q1, tl, tt, Int.toNat_natCast, decide_true, cond_true, Option.bind_some]
      cases netS okc s <;> rfl
  · cases h
end Go.Proofs.EV.PL
