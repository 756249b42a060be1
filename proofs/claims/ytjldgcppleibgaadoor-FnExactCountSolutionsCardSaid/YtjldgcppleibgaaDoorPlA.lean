import Derived.Test.YtjldgcppleibgaaDoorProg
import Derived.Test.YtjldgcppleibgaaDoorEvD
set_option linter.unusedVariables false
/-! The seat's types. -/
namespace Go.Proofs.EV.PL
open Go Go.Proofs Go.Proofs.EV
def tyl : List (TypeId × TI) := [
  (1, ⟨.func, 1, [.nl .nilf], false⟩),
  (2, ⟨.int .i64, 1, [.int .i64], false⟩),
  (3, ⟨.int .i64, 1, [.int .i64], false⟩),
  (4, ⟨.bool, 1, [.bool], false⟩),
  (5, ⟨.int .u8, 1, [.int .u8], false⟩),
  (6, ⟨.int .u8, 1, [.int .u8], false⟩),
  (7, ⟨.struct [(0, 2), (1, 3), (2, 4), (3, 6)], 4, [.int .i64, .int .i64, .bool, .int .u8], true⟩),
  (8, ⟨.struct [(0, 2), (1, 3), (2, 4), (3, 6)], 4, [.int .i64, .int .i64, .bool, .int .u8], true⟩),
  (9, ⟨.string, 1, [.str], false⟩),
  (10, ⟨.string, 1, [.str], false⟩),
  (11, ⟨.string, 1, [.str], false⟩),
  (12, ⟨.int .u64, 1, [.int .u64], false⟩),
  (13, ⟨.struct [(0, 9), (1, 12)], 2, [.str, .int .u64], false⟩),
  (14, ⟨.struct [(0, 9), (1, 12)], 2, [.str, .int .u64], false⟩),
  (15, ⟨.pointer 201, 1, [.nl .nilp], false⟩),
  (16, ⟨.pointer 204, 1, [.nl .nilp], false⟩),
  (17, ⟨.pointer 212, 1, [.nl .nilp], false⟩),
  (18, ⟨.struct [(0, 17)], 1, [.nl .nilp], false⟩),
  (19, ⟨.struct [(0, 17)], 1, [.nl .nilp], false⟩),
  (20, ⟨.iface, 1, [.nl .nili], false⟩),
  (21, ⟨.int .i32, 1, [.int .i32], false⟩),
  (22, ⟨.struct [(0, 3), (1, 3), (2, 3), (3, 3), (4, 3), (5, 3)], 6, [.int .i64, .int .i64, .int .i64, .int .i64, .int .i64, .int .i64], true⟩),
  (23, ⟨.struct [(0, 3), (1, 3), (2, 3), (3, 3), (4, 3), (5, 3)], 6, [.int .i64, .int .i64, .int .i64, .int .i64, .int .i64, .int .i64], true⟩),
  (24, ⟨.struct [(0, 3), (1, 3), (2, 23)], 8, [.int .i64, .int .i64, .int .i64, .int .i64, .int .i64, .int .i64, .int .i64, .int .i64], true⟩),
  (25, ⟨.struct [(0, 3), (1, 3), (2, 23)], 8, [.int .i64, .int .i64, .int .i64, .int .i64, .int .i64, .int .i64, .int .i64, .int .i64], true⟩),
  (26, ⟨.struct [(0, 9), (1, 25), (9, 3), (10, 3), (11, 3)], 12, [.str, .int .i64, .int .i64, .int .i64, .int .i64, .int .i64, .int .i64, .int .i64, .int .i64, .int .i64, .int .i64, .int .i64], true⟩),
  (27, ⟨.struct [(0, 9), (1, 25), (9, 3), (10, 3), (11, 3)], 12, [.str, .int .i64, .int .i64, .int .i64, .int .i64, .int .i64, .int .i64, .int .i64, .int .i64, .int .i64, .int .i64, .int .i64], true⟩),
  (28, ⟨.func, 1, [.nl .nilf], false⟩),
  (30, ⟨.func, 1, [.nl .nilf], false⟩),
  (31, ⟨.struct [(0, 3), (1, 3), (2, 3), (3, 3), (4, 3), (5, 3)], 6, [.int .i64, .int .i64, .int .i64, .int .i64, .int .i64, .int .i64], true⟩),
  (32, ⟨.struct [(0, 3), (1, 3), (2, 31)], 8, [.int .i64, .int .i64, .int .i64, .int .i64, .int .i64, .int .i64, .int .i64, .int .i64], true⟩),
  (33, ⟨.struct [(0, 3), (1, 3), (2, 31)], 8, [.int .i64, .int .i64, .int .i64, .int .i64, .int .i64, .int .i64, .int .i64, .int .i64], true⟩),
  (34, ⟨.struct [(0, 9), (1, 33), (9, 3), (10, 3), (11, 3)], 12, [.str, .int .i64, .int .i64, .int .i64, .int .i64, .int .i64, .int .i64, .int .i64, .int .i64, .int .i64, .int .i64, .int .i64], true⟩),
  (35, ⟨.struct [(0, 9), (1, 33), (9, 3), (10, 3), (11, 3)], 12, [.str, .int .i64, .int .i64, .int .i64, .int .i64, .int .i64, .int .i64, .int .i64, .int .i64, .int .i64, .int .i64, .int .i64], true⟩),
  (36, ⟨.func, 1, [.nl .nilf], false⟩),
  (37, ⟨.func, 1, [.nl .nilf], false⟩),
  (39, ⟨.func, 1, [.nl .nilf], false⟩),
  (41, ⟨.func, 1, [.nl .nilf], false⟩),
  (42, ⟨.func, 1, [.nl .nilf], false⟩),
  (43, ⟨.func, 1, [.nl .nilf], false⟩),
  (44, ⟨.func, 1, [.nl .nilf], false⟩),
  (45, ⟨.slice 3, 1, [.sl 1], false⟩),
  (47, ⟨.func, 1, [.nl .nilf], false⟩),
  (48, ⟨.func, 1, [.nl .nilf], false⟩),
  (49, ⟨.func, 1, [.nl .nilf], false⟩),
  (50, ⟨.slice 9, 1, [.sl 1], false⟩),
  (52, ⟨.func, 1, [.nl .nilf], false⟩),
  (53, ⟨.func, 1, [.nl .nilf], false⟩),
  (54, ⟨.func, 1, [.nl .nilf], false⟩),
  (56, ⟨.func, 1, [.nl .nilf], false⟩),
  (57, ⟨.func, 1, [.nl .nilf], false⟩),
  (58, ⟨.slice 82, 1, [.sl 16], false⟩),
  (60, ⟨.func, 1, [.nl .nilf], false⟩),
  (61, ⟨.func, 1, [.nl .nilf], false⟩),
  (62, ⟨.func, 1, [.nl .nilf], false⟩),
  (63, ⟨.func, 1, [.nl .nilf], false⟩),
  (64, ⟨.func, 1, [.nl .nilf], false⟩),
  (65, ⟨.slice 5, 1, [.sl 1], false⟩),
  (66, ⟨.struct [(0, 3), (1, 3), (2, 65)], 3, [.int .i64, .int .i64, .sl 1], false⟩),
  (67, ⟨.struct [(0, 3), (1, 3), (2, 65)], 3, [.int .i64, .int .i64, .sl 1], false⟩),
  (69, ⟨.func, 1, [.nl .nilf], false⟩),
  (71, ⟨.func, 1, [.nl .nilf], false⟩),
  (72, ⟨.func, 1, [.nl .nilf], false⟩),
  (73, ⟨.func, 1, [.nl .nilf], false⟩),
  (74, ⟨.func, 1, [.nl .nilf], false⟩),
  (75, ⟨.func, 1, [.nl .nilf], false⟩),
  (76, ⟨.slice 9, 1, [.sl 1], false⟩),
  (78, ⟨.func, 1, [.nl .nilf], false⟩),
  (79, ⟨.func, 1, [.nl .nilf], false⟩),
  (80, ⟨.array 4 3, 4, [.int .i64, .int .i64, .int .i64, .int .i64], false⟩),
  (81, ⟨.struct [(0, 33), (8, 3), (9, 3), (10, 3), (11, 3), (12, 80)], 16, [.int .i64, .int .i64, .int .i64, .int .i64, .int .i64, .int .i64, .int .i64, .int .i64, .int .i64, .int .i64, .int .i64, .int .i64, .int .i64, .int .i64, .int .i64, .int .i64], true⟩),
  (82, ⟨.struct [(0, 33), (8, 3), (9, 3), (10, 3), (11, 3), (12, 80)], 16, [.int .i64, .int .i64, .int .i64, .int .i64, .int .i64, .int .i64, .int .i64, .int .i64, .int .i64, .int .i64, .int .i64, .int .i64, .int .i64, .int .i64, .int .i64, .int .i64], true⟩),
  (83, ⟨.func, 1, [.nl .nilf], false⟩),
  (84, ⟨.pointer 90, 1, [.nl .nilp], false⟩),
  (86, ⟨.func, 1, [.nl .nilf], false⟩),
  (87, ⟨.slice 33, 1, [.sl 8], false⟩),
  (88, ⟨.map 33 3, 1, [.nl .nilm], false⟩),
  (89, ⟨.struct [(0, 87), (1, 45), (2, 65), (3, 45), (4, 88)], 5, [.sl 8, .sl 1, .sl 1, .sl 1, .nl .nilm], false⟩),
  (90, ⟨.struct [(0, 87), (1, 45), (2, 65), (3, 45), (4, 88)], 5, [.sl 8, .sl 1, .sl 1, .sl 1, .nl .nilm], false⟩),
  (91, ⟨.func, 1, [.nl .nilf], false⟩),
  (92, ⟨.func, 1, [.nl .nilf], false⟩),
  (93, ⟨.func, 1, [.nl .nilf], false⟩),
  (95, ⟨.func, 1, [.nl .nilf], false⟩),
  (96, ⟨.func, 1, [.nl .nilf], false⟩),
  (97, ⟨.func, 1, [.nl .nilf], false⟩),
  (98, ⟨.slice 4, 1, [.sl 1], false⟩),
  (99, ⟨.func, 1, [.nl .nilf], false⟩),
  (100, ⟨.func, 1, [.nl .nilf], false⟩),
  (101, ⟨.func, 1, [.nl .nilf], false⟩),
  (102, ⟨.func, 1, [.nl .nilf], false⟩),
  (103, ⟨.func, 1, [.nl .nilf], false⟩),
  (104, ⟨.func, 1, [.nl .nilf], false⟩),
  (105, ⟨.slice 65, 1, [.sl 1], false⟩),
  (106, ⟨.func, 1, [.nl .nilf], false⟩),
  (107, ⟨.func, 1, [.nl .nilf], false⟩),
  (108, ⟨.func, 1, [.nl .nilf], false⟩),
  (109, ⟨.func, 1, [.nl .nilf], false⟩),
  (111, ⟨.func, 1, [.nl .nilf], false⟩),
  (112, ⟨.func, 1, [.nl .nilf], false⟩),
  (113, ⟨.func, 1, [.nl .nilf], false⟩),
  (114, ⟨.func, 1, [.nl .nilf], false⟩),
  (115, ⟨.slice 45, 1, [.sl 1], false⟩),
  (116, ⟨.func, 1, [.nl .nilf], false⟩),
  (117, ⟨.map 118 4, 1, [.nl .nilm], false⟩),
  (118, ⟨.array 3 3, 3, [.int .i64, .int .i64, .int .i64], false⟩),
  (119, ⟨.func, 1, [.nl .nilf], false⟩),
  (120, ⟨.func, 1, [.nl .nilf], false⟩),
  (121, ⟨.func, 1, [.nl .nilf], false⟩),
  (123, ⟨.func, 1, [.nl .nilf], false⟩),
  (125, ⟨.func, 1, [.nl .nilf], false⟩),
  (126, ⟨.func, 1, [.nl .nilf], false⟩),
  (127, ⟨.func, 1, [.nl .nilf], false⟩),
  (128, ⟨.func, 1, [.nl .nilf], false⟩),
  (129, ⟨.pointer 131, 1, [.nl .nilp], false⟩),
  (130, ⟨.struct [(0, 129), (1, 65)], 2, [.nl .nilp, .sl 1], false⟩),
  (131, ⟨.struct [(0, 129), (1, 65)], 2, [.nl .nilp, .sl 1], false⟩),
  (132, ⟨.func, 1, [.nl .nilf], false⟩),
  (133, ⟨.iface, 1, [.nl .nili], false⟩),
  (134, ⟨.iface, 1, [.nl .nili], false⟩),
  (136, ⟨.func, 1, [.nl .nilf], false⟩),
  (137, ⟨.func, 1, [.nl .nilf], false⟩),
  (138, ⟨.func, 1, [.nl .nilf], false⟩),
  (139, ⟨.func, 1, [.nl .nilf], false⟩),
  (140, ⟨.func, 1, [.nl .nilf], false⟩),
  (141, ⟨.func, 1, [.nl .nilf], false⟩),
  (142, ⟨.func, 1, [.nl .nilf], false⟩),
  (143, ⟨.func, 1, [.nl .nilf], false⟩),
  (144, ⟨.func, 1, [.nl .nilf], false⟩),
  (145, ⟨.func, 1, [.nl .nilf], false⟩),
  (147, ⟨.func, 1, [.nl .nilf], false⟩),
  (148, ⟨.func, 1, [.nl .nilf], false⟩),
  (149, ⟨.func, 1, [.nl .nilf], false⟩),
  (150, ⟨.pointer 5, 1, [.nl .nilp], false⟩),
  (151, ⟨.func, 1, [.nl .nilf], false⟩),
  (152, ⟨.func, 1, [.nl .nilf], false⟩),
  (153, ⟨.func, 1, [.nl .nilf], false⟩),
  (154, ⟨.func, 1, [.nl .nilf], false⟩),
  (155, ⟨.func, 1, [.nl .nilf], false⟩),
  (156, ⟨.func, 1, [.nl .nilf], false⟩),
  (157, ⟨.func, 1, [.nl .nilf], false⟩),
  (158, ⟨.array 256 4, 256, [.bool, .bool, .bool, .bool, .bool, .bool, .bool, .bool, .bool, .bool, .bool, .bool, .bool, .bool, .bool, .bool, .bool, .bool, .bool, .bool, .bool, .bool, .bool, .bool, .bool, .bool, .bool, .bool, .bool, .bool, .bool, .bool, .bool, .bool, .bool, .bool, .bool, .bool, .bool, .bool, .bool, .bool, .bool, .bool, .bool, .bool, .bool, .bool, .bool, .bool, .bool, .bool, .bool, .bool, .bool, .bool, .bool, .bool, .bool, .bool, .bool, .bool, .bool, .bool, .bool, .bool, .bool, .bool, .bool, .bool, .bool, .bool, .bool, .bool, .bool, .bool, .bool, .bool, .bool, .bool, .bool, .bool, .bool, .bool, .bool, .bool, .bool, .bool, .bool, .bool, .bool, .bool, .bool, .bool, .bool, .bool, .bool, .bool, .bool, .bool, .bool, .bool, .bool, .bool, .bool, .bool, .bool, .bool, .bool, .bool, .bool, .bool, .bool, .bool, .bool, .bool, .bool, .bool, .bool, .bool, .bool, .bool, .bool, .bool, .bool, .bool, .bool, .bool, .bool, .bool, .bool, .bool, .bool, .bool, .bool, .bool, .bool, .bool, .bool, .bool, .bool, .bool, .bool, .bool, .bool, .bool, .bool, .bool, .bool, .bool, .bool, .bool, .bool, .bool, .bool, .bool, .bool, .bool, .bool, .bool, .bool, .bool, .bool, .bool, .bool, .bool, .bool, .bool, .bool, .bool, .bool, .bool, .bool, .bool, .bool, .bool, .bool, .bool, .bool, .bool, .bool, .bool, .bool, .bool, .bool, .bool, .bool, .bool, .bool, .bool, .bool, .bool, .bool, .bool, .bool, .bool, .bool, .bool, .bool, .bool, .bool, .bool, .bool, .bool, .bool, .bool, .bool, .bool, .bool, .bool, .bool, .bool, .bool, .bool, .bool, .bool, .bool, .bool, .bool, .bool, .bool, .bool, .bool, .bool, .bool, .bool, .bool, .bool, .bool, .bool, .bool, .bool, .bool, .bool, .bool, .bool, .bool, .bool, .bool, .bool, .bool, .bool, .bool, .bool, .bool, .bool, .bool, .bool, .bool, .bool, .bool, .bool, .bool, .bool, .bool, .bool], false⟩),
  (159, ⟨.array 256 4, 256, [.bool, .bool, .bool, .bool, .bool, .bool, .bool, .bool, .bool, .bool, .bool, .bool, .bool, .bool, .bool, .bool, .bool, .bool, .bool, .bool, .bool, .bool, .bool, .bool, .bool, .bool, .bool, .bool, .bool, .bool, .bool, .bool, .bool, .bool, .bool, .bool, .bool, .bool, .bool, .bool, .bool, .bool, .bool, .bool, .bool, .bool, .bool, .bool, .bool, .bool, .bool, .bool, .bool, .bool, .bool, .bool, .bool, .bool, .bool, .bool, .bool, .bool, .bool, .bool, .bool, .bool, .bool, .bool, .bool, .bool, .bool, .bool, .bool, .bool, .bool, .bool, .bool, .bool, .bool, .bool, .bool, .bool, .bool, .bool, .bool, .bool, .bool, .bool, .bool, .bool, .bool, .bool, .bool, .bool, .bool, .bool, .bool, .bool, .bool, .bool, .bool, .bool, .bool, .bool, .bool, .bool, .bool, .bool, .bool, .bool, .bool, .bool, .bool, .bool, .bool, .bool, .bool, .bool, .bool, .bool, .bool, .bool, .bool, .bool, .bool, .bool, .bool, .bool, .bool, .bool, .bool, .bool, .bool, .bool, .bool, .bool, .bool, .bool, .bool, .bool, .bool, .bool, .bool, .bool, .bool, .bool, .bool, .bool, .bool, .bool, .bool, .bool, .bool, .bool, .bool, .bool, .bool, .bool, .bool, .bool, .bool, .bool, .bool, .bool, .bool, .bool, .bool, .bool, .bool, .bool, .bool, .bool, .bool, .bool, .bool, .bool, .bool, .bool, .bool, .bool, .bool, .bool, .bool, .bool, .bool, .bool, .bool, .bool, .bool, .bool, .bool, .bool, .bool, .bool, .bool, .bool, .bool, .bool, .bool, .bool, .bool, .bool, .bool, .bool, .bool, .bool, .bool, .bool, .bool, .bool, .bool, .bool, .bool, .bool, .bool, .bool, .bool, .bool, .bool, .bool, .bool, .bool, .bool, .bool, .bool, .bool, .bool, .bool, .bool, .bool, .bool, .bool, .bool, .bool, .bool, .bool, .bool, .bool, .bool, .bool, .bool, .bool, .bool, .bool, .bool, .bool, .bool, .bool, .bool, .bool, .bool, .bool, .bool, .bool, .bool, .bool], false⟩),
  (161, ⟨.func, 1, [.nl .nilf], false⟩),
  (162, ⟨.func, 1, [.nl .nilf], false⟩),
  (163, ⟨.pointer 159, 1, [.nl .nilp], false⟩),
  (164, ⟨.func, 1, [.nl .nilf], false⟩),
  (166, ⟨.func, 1, [.nl .nilf], false⟩),
  (167, ⟨.func, 1, [.nl .nilf], false⟩),
  (168, ⟨.array 24 5, 24, [.int .u8, .int .u8, .int .u8, .int .u8, .int .u8, .int .u8, .int .u8, .int .u8, .int .u8, .int .u8, .int .u8, .int .u8, .int .u8, .int .u8, .int .u8, .int .u8, .int .u8, .int .u8, .int .u8, .int .u8, .int .u8, .int .u8, .int .u8, .int .u8], false⟩),
  (169, ⟨.int .u64, 1, [.int .u64], false⟩),
  (170, ⟨.func, 1, [.nl .nilf], false⟩),
  (171, ⟨.func, 1, [.nl .nilf], false⟩),
  (173, ⟨.func, 1, [.nl .nilf], false⟩),
  (174, ⟨.func, 1, [.nl .nilf], false⟩),
  (175, ⟨.func, 1, [.nl .nilf], false⟩),
  (176, ⟨.func, 1, [.nl .nilf], false⟩),
  (178, ⟨.func, 1, [.nl .nilf], false⟩),
  (179, ⟨.func, 1, [.nl .nilf], false⟩),
  (180, ⟨.func, 1, [.nl .nilf], false⟩),
  (181, ⟨.func, 1, [.nl .nilf], false⟩),
  (182, ⟨.array 20 169, 20, [.int .u64, .int .u64, .int .u64, .int .u64, .int .u64, .int .u64, .int .u64, .int .u64, .int .u64, .int .u64, .int .u64, .int .u64, .int .u64, .int .u64, .int .u64, .int .u64, .int .u64, .int .u64, .int .u64, .int .u64], false⟩),
  (183, ⟨.int .u32, 1, [.int .u32], false⟩),
  (184, ⟨.array 65 5, 65, [.int .u8, .int .u8, .int .u8, .int .u8, .int .u8, .int .u8, .int .u8, .int .u8, .int .u8, .int .u8, .int .u8, .int .u8, .int .u8, .int .u8, .int .u8, .int .u8, .int .u8, .int .u8, .int .u8, .int .u8, .int .u8, .int .u8, .int .u8, .int .u8, .int .u8, .int .u8, .int .u8, .int .u8, .int .u8, .int .u8, .int .u8, .int .u8, .int .u8, .int .u8, .int .u8, .int .u8, .int .u8, .int .u8, .int .u8, .int .u8, .int .u8, .int .u8, .int .u8, .int .u8, .int .u8, .int .u8, .int .u8, .int .u8, .int .u8, .int .u8, .int .u8, .int .u8, .int .u8, .int .u8, .int .u8, .int .u8, .int .u8, .int .u8, .int .u8, .int .u8, .int .u8, .int .u8, .int .u8, .int .u8, .int .u8], false⟩),
  (185, ⟨.int .u64, 1, [.int .u64], false⟩),
  (186, ⟨.func, 1, [.nl .nilf], false⟩),
  (187, ⟨.func, 1, [.nl .nilf], false⟩),
  (188, ⟨.func, 1, [.nl .nilf], false⟩),
  (189, ⟨.func, 1, [.nl .nilf], false⟩),
  (190, ⟨.func, 1, [.nl .nilf], false⟩),
  (191, ⟨.array 256 5, 256, [.int .u8, .int .u8, .int .u8, .int .u8, .int .u8, .int .u8, .int .u8, .int .u8, .int .u8, .int .u8, .int .u8, .int .u8, .int .u8, .int .u8, .int .u8, .int .u8, .int .u8, .int .u8, .int .u8, .int .u8, .int .u8, .int .u8, .int .u8, .int .u8, .int .u8, .int .u8, .int .u8, .int .u8, .int .u8, .int .u8, .int .u8, .int .u8, .int .u8, .int .u8, .int .u8, .int .u8, .int .u8, .int .u8, .int .u8, .int .u8, .int .u8, .int .u8, .int .u8, .int .u8, .int .u8, .int .u8, .int .u8, .int .u8, .int .u8, .int .u8, .int .u8, .int .u8, .int .u8, .int .u8, .int .u8, .int .u8, .int .u8, .int .u8, .int .u8, .int .u8, .int .u8, .int .u8, .int .u8, .int .u8, .int .u8, .int .u8, .int .u8, .int .u8, .int .u8, .int .u8, .int .u8, .int .u8, .int .u8, .int .u8, .int .u8, .int .u8, .int .u8, .int .u8, .int .u8, .int .u8, .int .u8, .int .u8, .int .u8, .int .u8, .int .u8, .int .u8, .int .u8, .int .u8, .int .u8, .int .u8, .int .u8, .int .u8, .int .u8, .int .u8, .int .u8, .int .u8, .int .u8, .int .u8, .int .u8, .int .u8, .int .u8, .int .u8, .int .u8, .int .u8, .int .u8, .int .u8, .int .u8, .int .u8, .int .u8, .int .u8, .int .u8, .int .u8, .int .u8, .int .u8, .int .u8, .int .u8, .int .u8, .int .u8, .int .u8, .int .u8, .int .u8, .int .u8, .int .u8, .int .u8, .int .u8, .int .u8, .int .u8, .int .u8, .int .u8, .int .u8, .int .u8, .int .u8, .int .u8, .int .u8, .int .u8, .int .u8, .int .u8, .int .u8, .int .u8, .int .u8, .int .u8, .int .u8, .int .u8, .int .u8, .int .u8, .int .u8, .int .u8, .int .u8, .int .u8, .int .u8, .int .u8, .int .u8, .int .u8, .int .u8, .int .u8, .int .u8, .int .u8, .int .u8, .int .u8, .int .u8, .int .u8, .int .u8, .int .u8, .int .u8, .int .u8, .int .u8, .int .u8, .int .u8, .int .u8, .int .u8, .int .u8, .int .u8, .int .u8, .int .u8, .int .u8, .int .u8, .int .u8, .int .u8, .int .u8, .int .u8, .int .u8, .int .u8, .int .u8, .int .u8, .int .u8, .int .u8, .int .u8, .int .u8, .int .u8, .int .u8, .int .u8, .int .u8, .int .u8, .int .u8, .int .u8, .int .u8, .int .u8, .int .u8, .int .u8, .int .u8, .int .u8, .int .u8, .int .u8, .int .u8, .int .u8, .int .u8, .int .u8, .int .u8, .int .u8, .int .u8, .int .u8, .int .u8, .int .u8, .int .u8, .int .u8, .int .u8, .int .u8, .int .u8, .int .u8, .int .u8, .int .u8, .int .u8, .int .u8, .int .u8, .int .u8, .int .u8, .int .u8, .int .u8, .int .u8, .int .u8, .int .u8, .int .u8, .int .u8, .int .u8, .int .u8, .int .u8, .int .u8, .int .u8, .int .u8, .int .u8, .int .u8, .int .u8, .int .u8, .int .u8, .int .u8, .int .u8, .int .u8, .int .u8, .int .u8, .int .u8, .int .u8, .int .u8, .int .u8, .int .u8, .int .u8, .int .u8], false⟩),
  (192, ⟨.struct [(0, 5), (1, 5)], 2, [.int .u8, .int .u8], true⟩),
  (193, ⟨.struct [(0, 5), (1, 5)], 2, [.int .u8, .int .u8], true⟩),
  (194, ⟨.array 16 193, 32, [.int .u8, .int .u8, .int .u8, .int .u8, .int .u8, .int .u8, .int .u8, .int .u8, .int .u8, .int .u8, .int .u8, .int .u8, .int .u8, .int .u8, .int .u8, .int .u8, .int .u8, .int .u8, .int .u8, .int .u8, .int .u8, .int .u8, .int .u8, .int .u8, .int .u8, .int .u8, .int .u8, .int .u8, .int .u8, .int .u8, .int .u8, .int .u8], false⟩),
  (195, ⟨.func, 1, [.nl .nilf], false⟩),
  (196, ⟨.array 32 5, 32, [.int .u8, .int .u8, .int .u8, .int .u8, .int .u8, .int .u8, .int .u8, .int .u8, .int .u8, .int .u8, .int .u8, .int .u8, .int .u8, .int .u8, .int .u8, .int .u8, .int .u8, .int .u8, .int .u8, .int .u8, .int .u8, .int .u8, .int .u8, .int .u8, .int .u8, .int .u8, .int .u8, .int .u8, .int .u8, .int .u8, .int .u8, .int .u8], false⟩),
  (197, ⟨.array 64 5, 64, [.int .u8, .int .u8, .int .u8, .int .u8, .int .u8, .int .u8, .int .u8, .int .u8, .int .u8, .int .u8, .int .u8, .int .u8, .int .u8, .int .u8, .int .u8, .int .u8, .int .u8, .int .u8, .int .u8, .int .u8, .int .u8, .int .u8, .int .u8, .int .u8, .int .u8, .int .u8, .int .u8, .int .u8, .int .u8, .int .u8, .int .u8, .int .u8, .int .u8, .int .u8, .int .u8, .int .u8, .int .u8, .int .u8, .int .u8, .int .u8, .int .u8, .int .u8, .int .u8, .int .u8, .int .u8, .int .u8, .int .u8, .int .u8, .int .u8, .int .u8, .int .u8, .int .u8, .int .u8, .int .u8, .int .u8, .int .u8, .int .u8, .int .u8, .int .u8, .int .u8, .int .u8, .int .u8, .int .u8, .int .u8], false⟩),
  (199, ⟨.func, 1, [.nl .nilf], false⟩),
  (200, ⟨.struct [(0, 17), (1, 17), (2, 17), (3, 9)], 4, [.nl .nilp, .nl .nilp, .nl .nilp, .str], false⟩),
  (201, ⟨.struct [(0, 17), (1, 17), (2, 17), (3, 9)], 4, [.nl .nilp, .nl .nilp, .nl .nilp, .str], false⟩),
  (205, ⟨.func, 1, [.nl .nilf], false⟩),
  (206, ⟨.int .u8, 1, [.int .u8], false⟩),
  (207, ⟨.int .u8, 1, [.int .u8], false⟩),
  (208, ⟨.func, 1, [.nl .nilf], false⟩),
  (209, ⟨.int .i32, 1, [.int .i32], false⟩),
  (210, ⟨.int .i32, 1, [.int .i32], false⟩),
  (211, ⟨.struct [(0, 12), (1, 12), (2, 183), (3, 206), (4, 5), (5, 5), (6, 207), (7, 208), (8, 150), (9, 209), (10, 210)], 11, [.int .u64, .int .u64, .int .u32, .int .u8, .int .u8, .int .u8, .int .u8, .nl .nilf, .nl .nilp, .int .i32, .int .i32], false⟩),
  (212, ⟨.struct [(0, 12), (1, 12), (2, 183), (3, 206), (4, 5), (5, 5), (6, 207), (7, 208), (8, 150), (9, 209), (10, 210)], 11, [.int .u64, .int .u64, .int .u32, .int .u8, .int .u8, .int .u8, .int .u8, .nl .nilf, .nl .nilp, .int .i32, .int .i32], false⟩),
  (213, ⟨.func, 1, [.nl .nilf], false⟩)]
def sigF : Nat → List RK
  | 0 => []
  | 1 => []
  | 2 => []
  | 3 => [.one (.bool)]
  | 4 => [.one (.bool)]
  | 5 => [.one (.bool)]
  | 6 => [.one (.bool)]
  | 7 => [.one (.bool)]
  | 8 => [.one (.bool)]
  | 9 => [.one (.bool)]
  | 10 => [.one (.bool)]
  | 11 => [.one (.int .i64)]
  | 12 => [.one (.int .i64), .one (.bool)]
  | 13 => [.agg [.str, .int .i64, .int .i64, .int .i64, .int .i64, .int .i64, .int .i64, .int .i64, .int .i64, .int .i64, .int .i64, .int .i64]]
  | 14 => [.one (.int .i64), .one (.bool)]
  | 15 => [.one (.str), .one (.bool)]
  | 16 => [.one (.str), .one (.bool)]
  | 17 => [.agg [.str, .int .i64, .int .i64, .int .i64, .int .i64, .int .i64, .int .i64, .int .i64, .int .i64, .int .i64, .int .i64, .int .i64], .one (.int .i64), .one (.bool)]
  | 18 => [.agg [.int .i64, .int .i64, .int .i64, .int .i64, .int .i64, .int .i64, .int .i64, .int .i64]]
  | 19 => [.agg [.str, .int .i64, .int .i64, .int .i64, .int .i64, .int .i64, .int .i64, .int .i64, .int .i64, .int .i64, .int .i64, .int .i64], .one (.int .i64), .one (.bool)]
  | 20 => [.one (.bool)]
  | 21 => [.own 1, .one (.bool)]
  | 22 => [.own 1, .one (.bool)]
  | 23 => [.one (.bool)]
  | 24 => [.one (.int .i64)]
  | 25 => [.one (.int .i64)]
  | 26 => [.one (.int .i64), .one (.bool)]
  | 27 => [.one (.int .i64), .one (.bool)]
  | 28 => [.one (.str), .one (.bool)]
  | 29 => [.one (.str), .one (.bool)]
  | 30 => [.own 1, .one (.bool)]
  | 31 => [.own 1, .one (.bool)]
  | 32 => [.one (.bool)]
  | 33 => [.one (.int .i64)]
  | 34 => [.one (.int .i64)]
  | 35 => [.agg [.str, .int .i64, .int .i64, .int .i64, .int .i64, .int .i64, .int .i64, .int .i64, .int .i64, .int .i64, .int .i64, .int .i64], .one (.bool)]
  | 36 => [.agg [.str, .int .i64, .int .i64, .int .i64, .int .i64, .int .i64, .int .i64, .int .i64, .int .i64, .int .i64, .int .i64, .int .i64], .one (.bool)]
  | 37 => [.own 16, .one (.int .i64), .one (.bool)]
  | 38 => [.one (.int .i64), .one (.bool)]
  | 39 => [.one (.str), .one (.bool)]
  | 40 => [.one (.bool)]
  | 41 => [.one (.str), .one (.bool)]
  | 42 => [.agg [.int .i64, .int .i64, .sl 1], .one (.bool)]
  | 43 => [.agg [.str, .int .i64, .int .i64, .int .i64, .int .i64, .int .i64, .int .i64, .int .i64, .int .i64, .int .i64, .int .i64, .int .i64], .one (.int .i64)]
  | 44 => [.agg [.int .i64, .int .i64, .int .i64, .int .i64, .int .i64, .int .i64]]
  | 45 => [.agg [.str, .int .i64, .int .i64, .int .i64, .int .i64, .int .i64, .int .i64, .int .i64, .int .i64, .int .i64, .int .i64, .int .i64], .one (.int .i64), .one (.bool)]
  | 46 => [.one (.bool)]
  | 47 => [.agg [.int .i64, .int .i64, .sl 1], .one (.bool)]
  | 48 => [.one (.str)]
  | 49 => [.own 1, .one (.bool)]
  | 50 => [.one (.int .u8)]
  | 51 => [.one (.bool)]
  | 52 => [.one (.nl .nilp), .own 1]
  | 53 => [.one (.bool)]
  | 54 => [.one (.int .i64), .one (.bool)]
  | 55 => [.one (.bool)]
  | 56 => [.one (.str)]
  | 57 => [.one (.str), .one (.str), .one (.str)]
  | 58 => [.one (.str)]
  | 59 => [.one (.str)]
  | 60 => [.one (.str)]
  | 61 => [.one (.bool)]
  | 62 => [.one (.bool)]
  | 63 => [.one (.str)]
  | 64 => [.one (.bool)]
  | 65 => [.agg [.int .i64, .int .i64, .int .i64, .int .i64, .int .i64, .int .i64]]
  | 66 => [.agg [.int .i64, .int .i64, .int .i64, .int .i64, .int .i64, .int .i64]]
  | 67 => [.one (.bool)]
  | 68 => [.one (.int .i64)]
  | 69 => [.agg [.int .i64, .int .i64, .int .i64, .int .i64, .int .i64, .int .i64]]
  | 70 => [.one (.str)]
  | 71 => [.own 16]
  | 72 => [.one (.str)]
  | 73 => [.own 1, .one (.bool)]
  | 74 => [.one (.nl .nilp), .one (.bool)]
  | 75 => [.one (.str), .one (.bool)]
  | 76 => [.one (.bool)]
  | 77 => [.one (.bool)]
  | 78 => [.one (.bool)]
  | 79 => [.one (.bool)]
  | 80 => [.one (.bool)]
  | 81 => [.one (.nl .nilp), .one (.bool)]
  | 82 => [.one (.int .i64)]
  | 83 => [.one (.bool)]
  | 84 => [.own 1, .one (.bool)]
  | 85 => [.one (.bool)]
  | 86 => [.agg [.int .i64, .int .i64, .int .i64, .int .i64, .int .i64, .int .i64, .int .i64, .int .i64], .one (.bool)]
  | 87 => [.one (.nl .nilp), .one (.int .i64), .one (.bool)]
  | 88 => [.one (.bool)]
  | 89 => [.one (.str)]
  | 90 => [.one (.str)]
  | 91 => [.one (.str), .one (.bool)]
  | 92 => []
  | 93 => [.one (.int .i64), .one (.nl .nili)]
  | 94 => [.one (.str)]
  | 95 => [.one (.str)]
  | 96 => [.one (.int .i64)]
  | 97 => [.agg [.int .i64, .int .i64, .int .i64, .int .i64, .int .i64, .int .i64, .int .i64, .int .i64], .one (.bool)]
  | 98 => [.one (.int .i64)]
  | 99 => [.one (.bool)]
  | 100 => [.one (.int .i64)]
  | 101 => [.one (.str), .one (.bool)]
  | 102 => [.one (.bool)]
  | 103 => [.one (.nl .nilp)]
  | 104 => [.one (.int .i64)]
  | 105 => [.own 1]
  | 106 => [.one (.str)]
  | 107 => [.one (.int .i64), .one (.int .i64)]
  | 108 => [.one (.bool)]
  | 109 => [.own 1]
  | 110 => [.one (.bool)]
  | 111 => [.own 1]
  | 112 => []
  | 113 => []
  | 114 => [.one (.str)]
  | 115 => [.one (.int .i64), .one (.int .i64)]
  | 116 => []
  | 117 => [.one (.bool)]
  | 118 => [.one (.bool)]
  | 119 => [.own 1]
  | 120 => [.one (.str)]
  | 121 => [.one (.str)]
  | 122 => [.agg [.bool, .bool, .bool, .bool, .bool, .bool, .bool, .bool, .bool, .bool, .bool, .bool, .bool, .bool, .bool, .bool, .bool, .bool, .bool, .bool, .bool, .bool, .bool, .bool, .bool, .bool, .bool, .bool, .bool, .bool, .bool, .bool, .bool, .bool, .bool, .bool, .bool, .bool, .bool, .bool, .bool, .bool, .bool, .bool, .bool, .bool, .bool, .bool, .bool, .bool, .bool, .bool, .bool, .bool, .bool, .bool, .bool, .bool, .bool, .bool, .bool, .bool, .bool, .bool, .bool, .bool, .bool, .bool, .bool, .bool, .bool, .bool, .bool, .bool, .bool, .bool, .bool, .bool, .bool, .bool, .bool, .bool, .bool, .bool, .bool, .bool, .bool, .bool, .bool, .bool, .bool, .bool, .bool, .bool, .bool, .bool, .bool, .bool, .bool, .bool, .bool, .bool, .bool, .bool, .bool, .bool, .bool, .bool, .bool, .bool, .bool, .bool, .bool, .bool, .bool, .bool, .bool, .bool, .bool, .bool, .bool, .bool, .bool, .bool, .bool, .bool, .bool, .bool, .bool, .bool, .bool, .bool, .bool, .bool, .bool, .bool, .bool, .bool, .bool, .bool, .bool, .bool, .bool, .bool, .bool, .bool, .bool, .bool, .bool, .bool, .bool, .bool, .bool, .bool, .bool, .bool, .bool, .bool, .bool, .bool, .bool, .bool, .bool, .bool, .bool, .bool, .bool, .bool, .bool, .bool, .bool, .bool, .bool, .bool, .bool, .bool, .bool, .bool, .bool, .bool, .bool, .bool, .bool, .bool, .bool, .bool, .bool, .bool, .bool, .bool, .bool, .bool, .bool, .bool, .bool, .bool, .bool, .bool, .bool, .bool, .bool, .bool, .bool, .bool, .bool, .bool, .bool, .bool, .bool, .bool, .bool, .bool, .bool, .bool, .bool, .bool, .bool, .bool, .bool, .bool, .bool, .bool, .bool, .bool, .bool, .bool, .bool, .bool, .bool, .bool, .bool, .bool, .bool, .bool, .bool, .bool, .bool, .bool, .bool, .bool, .bool, .bool, .bool, .bool, .bool, .bool, .bool, .bool, .bool, .bool, .bool, .bool, .bool, .bool, .bool, .bool], .one (.bool)]
  | 123 => [.one (.str)]
  | 124 => [.one (.str)]
  | 125 => [.one (.str)]
  | 126 => [.one (.str)]
  | 127 => [.one (.bool)]
  | 128 => [.one (.bool)]
  | 129 => [.one (.nl .nilp)]
  | 130 => [.own 1]
  | 131 => [.one (.str)]
  | 132 => [.one (.int .i64)]
  | 133 => []
  | 134 => [.own 1, .one (.str)]
  | 135 => [.own 1]
  | 136 => [.one (.int .i64)]
  | 137 => [.one (.int .i64)]
  | 138 => [.one (.bool)]
  | 139 => [.one (.int .i32), .one (.int .i64)]
  | 140 => [.one (.bool)]
  | 141 => [.one (.int .i32), .one (.int .i64)]
  | 142 => [.one (.int .i64)]
  | 143 => [.one (.int .i64)]
  | 144 => [.one (.int .i64)]
  | 145 => [.one (.int .i64)]
  | 146 => [.one (.bool)]
  | 147 => [.one (.int .i64)]
  | 148 => [.one (.int .i64)]
  | 149 => [.one (.int .i64)]
  | 150 => [.one (.int .i64)]
  | 151 => [.one (.int .i32), .one (.int .i64)]
  | 152 => [.one (.int .i64)]
  | 153 => [.one (.bool)]
  | 154 => [.one (.int .i64)]
  | 155 => [.one (.int .i64)]
  | 156 => [.one (.int .i64)]
  | 157 => [.one (.int .i64)]
  | 158 => [.one (.int .i64)]
  | 159 => [.one (.int .i64)]
  | 160 => [.one (.int .i64)]
  | 161 => [.one (.bool)]
  | 162 => [.one (.int .i64)]
  | 163 => [.one (.int .u32), .one (.int .u32)]
  | 164 => [.one (.str)]
  | 165 => []
  | 166 => [.one (.str)]
  | 167 => []
  | 168 => [.one (.str)]
  | 169 => []
  | 170 => [.one (.str)]
  | 171 => []
  | 172 => [.one (.str)]
  | 173 => []
  | 174 => [.one (.str)]
  | 175 => []
  | 176 => [.one (.int .i64)]
  | 177 => [.one (.str)]
  | 178 => []
  | 179 => [.one (.bool)]
  | 180 => [.one (.str)]
  | 181 => []
  | 182 => [.one (.str)]
  | 183 => []
  | 184 => []
  | 185 => []
  | 186 => []
  | 187 => []
  | 188 => []
  | 189 => []
  | 190 => []
  | _ => []
def borF : Nat → Bool
  | 24 => true
  | 33 => true
  | _ => false
def newsF : Nat → Nat
  | _ => 0
instance : Dr := ⟨⟨False⟩⟩
def C0 : Cfg := { ty := tysOf tyl, M := fun _ _ => .fail, sig := sigF, glob := fun _ => .undef, keep := fun _ => none, nb := 0, bor := borF, news := newsF, MM := fun _ _ _ => .fail }
theorem cfg0 : CfgOk Tryd.prog C0 := cfgOk_tys rfl (by kernel_rfl)
theorem mix : Tryd.prog.follows .mixedOrders = true := by kernel_rfl
end Go.Proofs.EV.PL
set_option linter.unusedVariables false
set_option linter.unusedSimpArgs false
/-! Dice: what they are, in both packages. -/
namespace Go.Proofs.EV.PL
open Go Go.Proofs Go.Proofs.EV Sp
/-! spec_l1In -/
noncomputable def spec_l1In.cfg : Cfg := { C0 with keep := fun _ => none, nb := 0, M := tabM [], MM := tabB [] }
noncomputable def spec_l1In.res (n : Nat) (a0 : Int) (a1 : Int) (a2 : Int) : Option (List Q) :=
  bif decide (a0 ≥ a1) then some [Q.one (D.bool (decide (a0 ≤ a2)))] else some [Q.one (D.bool false)]
theorem spec_l1In.run (n : Nat) (a0 : Int) (a1 : Int) (a2 : Int) :
    run1 spec_l1In.cfg [RK.one LK.bool] n Tryd.f64 [Q.one (D.int IntKind.i64 a0), Q.one (D.int IntKind.i64 a1), Q.one (D.int IntKind.i64 a2)] = spec_l1In.res n a0 a1 a2 := by kernel_rfl
theorem spec_l1In.ev {n : Nat} {a0 : Int} {a1 : Int} {a2 : Int} {r : List Q} (h : spec_l1In.res n a0 a1 a2 = some r) : Snd Tryd.prog C0 64 [.one (.int .i64 a0), .one (.int .i64 a1), .one (.int .i64 a2)] r :=
  snd_ev (C := spec_l1In.cfg) cfg0 mix rfl rfl rfl rfl rfl .nil .nil rfl Tryd.func64 (by kernel_rfl) (by kernel_rfl) rfl ((spec_l1In.run n a0 a1 a2).trans h)

def spec_l1In.stub : Stub
  | [.one (.int .i64 a), .one (.int .i64 b), .one (.int .i64 c)] => .ret [.one (.bool (Sp.inR a b c))]
  | _ => .fail
theorem spec_l1In.ok : StubOk Tryd.prog C0 64 spec_l1In.stub := by
  intro args res h
  unfold spec_l1In.stub at h
  split at h
  · rename_i a b c
    cases h
    refine spec_l1In.ev (n := 0) ?_
    unfold spec_l1In.res Sp.inR
    by_cases h1 : b ≤ a <;> simp [h1]
  · cases h
/-! impl_in -/
noncomputable def impl_in.cfg : Cfg := { C0 with keep := fun _ => none, nb := 0, M := tabM [], MM := tabB [] }
noncomputable def impl_in.res (n : Nat) (a0 : Int) (a1 : Int) (a2 : Int) : Option (List Q) :=
  bif decide (a1 ≤ a0) then some [Q.one (D.bool (decide (a0 ≤ a2)))] else some [Q.one (D.bool false)]
theorem impl_in.run (n : Nat) (a0 : Int) (a1 : Int) (a2 : Int) :
    run1 impl_in.cfg [RK.one LK.bool] n Tryd.f67 [Q.one (D.int IntKind.i64 a0), Q.one (D.int IntKind.i64 a1), Q.one (D.int IntKind.i64 a2)] = impl_in.res n a0 a1 a2 := by kernel_rfl
theorem impl_in.ev {n : Nat} {a0 : Int} {a1 : Int} {a2 : Int} {r : List Q} (h : impl_in.res n a0 a1 a2 = some r) : Snd Tryd.prog C0 67 [.one (.int .i64 a0), .one (.int .i64 a1), .one (.int .i64 a2)] r :=
  snd_ev (C := impl_in.cfg) cfg0 mix rfl rfl rfl rfl rfl .nil .nil rfl Tryd.func67 (by kernel_rfl) (by kernel_rfl) rfl ((impl_in.run n a0 a1 a2).trans h)

def impl_in.stub : Stub
  | [.one (.int .i64 a), .one (.int .i64 b), .one (.int .i64 c)] => .ret [.one (.bool (Sp.inR a b c))]
  | _ => .fail
theorem impl_in.ok : StubOk Tryd.prog C0 67 impl_in.stub := by
  intro args res h
  unfold impl_in.stub at h
  split at h
  · rename_i a b c
    cases h
    refine impl_in.ev (n := 0) ?_
    unfold impl_in.res Sp.inR
    by_cases h1 : b ≤ a <;> simp [h1]
  · cases h
/-! spec_diFaces -/
noncomputable def spec_diFaces.cfg : Cfg := { C0 with keep := fun _ => none, nb := 0, M := tabM [], MM := tabB [] }
noncomputable def spec_diFaces.res (n : Nat) (a0_0 : Int) (a0_1 : Int) (a0_2 : Int) (a0_3 : Int) (a0_4 : Int) (a0_5 : Int) : Option (List Q) :=
  some [Q.one (D.sl (1 : Nat) [[D.int IntKind.i64 a0_0], [D.int IntKind.i64 a0_1], [D.int IntKind.i64 a0_2], [D.int IntKind.i64 a0_3], [D.int IntKind.i64 a0_4], [D.int IntKind.i64 a0_5]])]
theorem spec_diFaces.run (n : Nat) (a0_0 : Int) (a0_1 : Int) (a0_2 : Int) (a0_3 : Int) (a0_4 : Int) (a0_5 : Int) :
    run1 spec_diFaces.cfg [RK.own (1 : Nat)] n Tryd.f109 [Q.agg [D.int IntKind.i64 a0_0, D.int IntKind.i64 a0_1, D.int IntKind.i64 a0_2, D.int IntKind.i64 a0_3, D.int IntKind.i64 a0_4, D.int IntKind.i64 a0_5]] = spec_diFaces.res n a0_0 a0_1 a0_2 a0_3 a0_4 a0_5 := by kernel_rfl
theorem spec_diFaces.ev {n : Nat} {a0_0 : Int} {a0_1 : Int} {a0_2 : Int} {a0_3 : Int} {a0_4 : Int} {a0_5 : Int} {r : List Q} (h : spec_diFaces.res n a0_0 a0_1 a0_2 a0_3 a0_4 a0_5 = some r) : Snd Tryd.prog C0 109 [.agg [.int .i64 a0_0, .int .i64 a0_1, .int .i64 a0_2, .int .i64 a0_3, .int .i64 a0_4, .int .i64 a0_5]] r :=
  snd_ev (C := spec_diFaces.cfg) cfg0 mix rfl rfl rfl rfl rfl .nil .nil rfl Tryd.func109 (by kernel_rfl) (by kernel_rfl) rfl ((spec_diFaces.run n a0_0 a0_1 a0_2 a0_3 a0_4 a0_5).trans h)

def spec_diFaces.stub : Stub
  | [.agg [.int .i64 t, .int .i64 n, .int .i64 e, .int .i64 s, .int .i64 w, .int .i64 b]] => .ret [.one (.sl 1 [[.int .i64 t], [.int .i64 n], [.int .i64 e], [.int .i64 s], [.int .i64 w], [.int .i64 b]])]
  | _ => .fail
theorem spec_diFaces.ok : StubOk Tryd.prog C0 109 spec_diFaces.stub := by
  intro args res h
  unfold spec_diFaces.stub at h
  split at h
  · cases h; exact spec_diFaces.ev (n := 0) rfl
  · cases h
/-! impl_Die_faces -/
noncomputable def impl_Die_faces.cfg : Cfg := { C0 with keep := fun _ => none, nb := 0, M := tabM [], MM := tabB [] }
noncomputable def impl_Die_faces.res (n : Nat) (a0_0 : Int) (a0_1 : Int) (a0_2 : Int) (a0_3 : Int) (a0_4 : Int) (a0_5 : Int) : Option (List Q) :=
  some [Q.one (D.sl (1 : Nat) [[D.int IntKind.i64 a0_0], [D.int IntKind.i64 a0_1], [D.int IntKind.i64 a0_2], [D.int IntKind.i64 a0_3], [D.int IntKind.i64 a0_4], [D.int IntKind.i64 a0_5]])]
theorem impl_Die_faces.run (n : Nat) (a0_0 : Int) (a0_1 : Int) (a0_2 : Int) (a0_3 : Int) (a0_4 : Int) (a0_5 : Int) :
    run1 impl_Die_faces.cfg [RK.own (1 : Nat)] n Tryd.f111 [Q.agg [D.int IntKind.i64 a0_0, D.int IntKind.i64 a0_1, D.int IntKind.i64 a0_2, D.int IntKind.i64 a0_3, D.int IntKind.i64 a0_4, D.int IntKind.i64 a0_5]] = impl_Die_faces.res n a0_0 a0_1 a0_2 a0_3 a0_4 a0_5 := by kernel_rfl
theorem impl_Die_faces.ev {n : Nat} {a0_0 : Int} {a0_1 : Int} {a0_2 : Int} {a0_3 : Int} {a0_4 : Int} {a0_5 : Int} {r : List Q} (h : impl_Die_faces.res n a0_0 a0_1 a0_2 a0_3 a0_4 a0_5 = some r) : Snd Tryd.prog C0 111 [.agg [.int .i64 a0_0, .int .i64 a0_1, .int .i64 a0_2, .int .i64 a0_3, .int .i64 a0_4, .int .i64 a0_5]] r :=
  snd_ev (C := impl_Die_faces.cfg) cfg0 mix rfl rfl rfl rfl rfl .nil .nil rfl Tryd.func111 (by kernel_rfl) (by kernel_rfl) rfl ((impl_Die_faces.run n a0_0 a0_1 a0_2 a0_3 a0_4 a0_5).trans h)

def impl_Die_faces.stub : Stub
  | [.agg [.int .i64 t, .int .i64 n, .int .i64 e, .int .i64 s, .int .i64 w, .int .i64 b]] => .ret [.one (.sl 1 [[.int .i64 t], [.int .i64 n], [.int .i64 e], [.int .i64 s], [.int .i64 w], [.int .i64 b]])]
  | _ => .fail
theorem impl_Die_faces.ok : StubOk Tryd.prog C0 111 impl_Die_faces.stub := by
  intro args res h
  unfold impl_Die_faces.stub at h
  split at h
  · cases h; exact impl_Die_faces.ev (n := 0) rfl
  · cases h
/-! spec_l1All -/
noncomputable def spec_l1All.cfg : Cfg := { C0 with keep := fun | 2 => some [1, 2, 9, 10, 11] | _ => none, nb := 0, M := tabM [(64, spec_l1In.stub)], MM := tabB [] }
noncomputable def spec_l1All.l2 (n : Nat) (m2 : Nat) (i0 : Int) (i1 : Int) (l2 : List (List D)) (i3 : Int) (i4 : Int) : Option (List Q) :=
  loopAt spec_l1All.cfg [RK.one LK.bool] n Tryd.f117 [1, 0, 1, 0] [] m2 (St.mk [V.undef, V.one true (D.int IntKind.i64 i0), V.one true (D.int IntKind.i64 i1), V.undef, V.undef, V.undef, V.undef, V.undef, V.undef, V.one false (D.sl (1 : Nat) l2), V.one true (D.int IntKind.i64 i3), V.one true (D.int IntKind.i64 i4), V.undef, V.undef, V.undef, V.undef, V.undef, V.undef, V.undef, V.undef, V.undef] [])
theorem spec_l1All.l2_eq (n : Nat) (m2 : Nat) (i0 : Int) (i1 : Int) (l2 : List (List D)) (i3 : Int) (i4 : Int) :
    spec_l1All.l2 n (m2 + 1) i0 i1 l2 i3 i4 = bif decide (i4 < i3) then bif decide ((0 : Int) ≤ i4) then bif decide (i4 < (↑(List.length l2) : Int)) then Option.bind (Option.bind (some (cellD l2 (Int.toNat i4) (0 : Nat))) (D.int? IntKind.i64)) fun (i1_1 : Int) => bif !inR i1_1 i0 i1 then some [Q.one (D.bool false)] else spec_l1All.l2 n m2 i0 i1 l2 i3 (IntKind.wrap IntKind.i64 (i4 + (1 : Int))) else none else none else some [Q.one (D.bool true)] := by kernel_rfl
noncomputable def spec_l1All.res (n : Nat) (a0 : List (List D)) (a1 : Int) (a2 : Int) : Option (List Q) :=
  spec_l1All.l2 n n a1 a2 a0 (↑(List.length a0) : Int) (0 : Int)
theorem spec_l1All.run (n : Nat) (a0 : List (List D)) (a1 : Int) (a2 : Int) :
    run1 spec_l1All.cfg [RK.one LK.bool] n Tryd.f117 [Q.one (D.sl (1 : Nat) a0), Q.one (D.int IntKind.i64 a1), Q.one (D.int IntKind.i64 a2)] = spec_l1All.res n a0 a1 a2 := by kernel_rfl
theorem spec_l1All.ev {n : Nat} {a0 : List (List D)} {a1 : Int} {a2 : Int} {r : List Q} (h : spec_l1All.res n a0 a1 a2 = some r) : Snd Tryd.prog C0 117 [.one (.sl 1 a0), .one (.int .i64 a1), .one (.int .i64 a2)] r :=
  snd_ev (C := spec_l1All.cfg) cfg0 mix rfl rfl rfl rfl rfl (.cons spec_l1In.ok .nil) .nil rfl Tryd.func117 (by kernel_rfl) (by kernel_rfl) rfl ((spec_l1All.run n a0 a1 a2).trans h)

theorem spec_l1All.loop {n : Nat} {lo hi : Int} {l : List Int} (hl : l.length ≤ LIM) : ∀ (d k m : Nat), k + d = l.length → d < m → spec_l1All.l2 n m lo hi (intC.encs l) l.length k = some [Q.one (.bool (Sp.allR (l.drop k) lo hi))] := by
  intro d
  induction d with
  | zero =>
    intro k m hk hm
    obtain ⟨m, rfl⟩ : ∃ m', m = m' + 1 := ⟨m - 1, by omega⟩
    obtain rfl : k = l.length := by omega
    simp [spec_l1All.l2_eq, Sp.allR]
  | succ d ih =>
    intro k m hk hm
    obtain ⟨m, rfl⟩ : ∃ m', m = m' + 1 := ⟨m - 1, by omega⟩
    have hlt : k < l.length := by omega
    rw [spec_l1All.l2_eq, List.drop_eq_getElem_cons hlt]
    simp only [Cod.encs_len, Int.ofNat_lt, hlt, decide_true, cond_true, Int.natCast_nonneg, Int.toNat_natCast, intC_int hlt, Option.bind_some, wrap_succ (show k ≤ LIM by omega), ih (k + 1) m (by omega) (by omega)]
    cases h : Sp.inR l[k] lo hi <;> simp only [Sp.allR, List.all_cons, h, Bool.not_true, Bool.not_false, cond_true, cond_false, Bool.true_and, Bool.false_and]
def spec_l1All.stub : Stub
  | [.one (.sl 1 es), .one (.int .i64 lo), .one (.int .i64 hi)] => .any (intC.decs es) fun l => .ret [.one (.bool (Sp.allR l lo hi))]
  | _ => .fail
theorem spec_l1All.ok : StubOk Tryd.prog C0 117 spec_l1All.stub := by
  intro args res h
  unfold spec_l1All.stub at h
  split at h
  · obtain ⟨l, h1, h2⟩ := any_out h
    obtain ⟨rfl, hl⟩ := Cod.decs_inv h1
    cases h2
    refine spec_l1All.ev (n := l.length + 1) ?_
    unfold spec_l1All.res
    simpa using spec_l1All.loop (n := l.length + 1) hl l.length 0 (l.length + 1) (by omega) (by omega)
  · cases h
/-! spec_diGood -/
noncomputable def spec_diGood.cfg : Cfg := { C0 with keep := fun _ => none, nb := 0, M := tabM [(109, spec_diFaces.stub), (117, spec_l1All.stub)], MM := tabB [] }
noncomputable def spec_diGood.res (n : Nat) (a0_0 : Int) (a0_1 : Int) (a0_2 : Int) (a0_3 : Int) (a0_4 : Int) (a0_5 : Int) : Option (List Q) :=
  some [Q.one (D.bool (allR [a0_0, a0_1, a0_2, a0_3, a0_4, a0_5] (0 : Int) (9 : Int)))]
theorem spec_diGood.run (n : Nat) (a0_0 : Int) (a0_1 : Int) (a0_2 : Int) (a0_3 : Int) (a0_4 : Int) (a0_5 : Int) :
    run1 spec_diGood.cfg [RK.one LK.bool] n Tryd.f102 [Q.agg [D.int IntKind.i64 a0_0, D.int IntKind.i64 a0_1, D.int IntKind.i64 a0_2, D.int IntKind.i64 a0_3, D.int IntKind.i64 a0_4, D.int IntKind.i64 a0_5]] = spec_diGood.res n a0_0 a0_1 a0_2 a0_3 a0_4 a0_5 := by kernel_rfl
theorem spec_diGood.ev {n : Nat} {a0_0 : Int} {a0_1 : Int} {a0_2 : Int} {a0_3 : Int} {a0_4 : Int} {a0_5 : Int} {r : List Q} (h : spec_diGood.res n a0_0 a0_1 a0_2 a0_3 a0_4 a0_5 = some r) : Snd Tryd.prog C0 102 [.agg [.int .i64 a0_0, .int .i64 a0_1, .int .i64 a0_2, .int .i64 a0_3, .int .i64 a0_4, .int .i64 a0_5]] r :=
  snd_ev (C := spec_diGood.cfg) cfg0 mix rfl rfl rfl rfl rfl (.cons spec_diFaces.ok (.cons spec_l1All.ok .nil)) .nil rfl Tryd.func102 (by kernel_rfl) (by kernel_rfl) rfl ((spec_diGood.run n a0_0 a0_1 a0_2 a0_3 a0_4 a0_5).trans h)

def spec_diGood.stub : Stub
  | [.agg [.int .i64 t, .int .i64 n, .int .i64 e, .int .i64 s, .int .i64 w, .int .i64 b]] => .ret [.one (.bool (Sp.Die.good ⟨t, n, e, s, w, b⟩))]
  | _ => .fail
theorem spec_diGood.ok : StubOk Tryd.prog C0 102 spec_diGood.stub := by
  intro args res h
  unfold spec_diGood.stub at h
  split at h
  · cases h; exact spec_diGood.ev (n := 0) rfl
  · cases h
/-! impl_IsDie_1 -/
noncomputable def impl_IsDie_1.cfg : Cfg := { C0 with keep := fun _ => none, nb := 0, M := tabM [(67, impl_in.stub)], MM := tabB [] }
noncomputable def impl_IsDie_1.res (n : Nat) (a0 : Int) : Option (List Q) :=
  some [Q.one (D.bool !inR a0 (0 : Int) (9 : Int))]
theorem impl_IsDie_1.run (n : Nat) (a0 : Int) :
    run1 impl_IsDie_1.cfg [RK.one LK.bool] n Tryd.f128 [Q.one (D.int IntKind.i64 a0)] = impl_IsDie_1.res n a0 := by kernel_rfl
theorem impl_IsDie_1.ev {n : Nat} {a0 : Int} {r : List Q} (h : impl_IsDie_1.res n a0 = some r) : Snd Tryd.prog C0 128 [.one (.int .i64 a0)] r :=
  snd_ev (C := impl_IsDie_1.cfg) cfg0 mix rfl rfl rfl rfl rfl (.cons impl_in.ok .nil) .nil rfl Tryd.func128 (by kernel_rfl) (by kernel_rfl) rfl ((impl_IsDie_1.run n a0).trans h)

def impl_IsDie_1.stub : Stub
  | [.one (.int .i64 a)] => .ret [.one (.bool (!Sp.inR a 0 9))]
  | _ => .fail
theorem impl_IsDie_1.ok : StubOk Tryd.prog C0 128 impl_IsDie_1.stub := by
  intro args res h
  unfold impl_IsDie_1.stub at h
  split at h
  · cases h; exact impl_IsDie_1.ev (n := 0) rfl
  · cases h
/-! idx_isDie -/
noncomputable def idx_isDie.cfg : Cfg := { C0 with keep := fun | 2 => some [0, 1, 7, 8] | _ => none, nb := 0, M := tabM [(128, impl_IsDie_1.stub)], MM := tabB [] }
noncomputable def idx_isDie.l2 (n : Nat) (m2 : Nat) (l0 : List (List D)) (i1 : Int) (i2 : Int) : Option (List Q) :=
  loopAt idx_isDie.cfg [RK.one (LK.int IntKind.i64)] n Tryd.f142 [1, 0, 1, 0] [] m2 (St.mk [V.one false (D.sl (1 : Nat) l0), V.one false (D.fn (128 : Nat) [] []), V.undef, V.undef, V.undef, V.undef, V.undef, V.one true (D.int IntKind.i64 i1), V.one true (D.int IntKind.i64 i2), V.undef, V.undef, V.undef, V.undef, V.undef, V.undef, V.undef, V.undef, V.undef, V.undef] [])
theorem idx_isDie.l2_eq (n : Nat) (m2 : Nat) (l0 : List (List D)) (i1 : Int) (i2 : Int) :
    idx_isDie.l2 n (m2 + 1) l0 i1 i2 = bif decide (i2 < i1) then bif decide ((0 : Int) ≤ i2) then bif decide (i2 < (↑(List.length l0) : Int)) then Option.bind (Option.bind (some (cellD l0 (Int.toNat i2) (0 : Nat))) (D.int? IntKind.i64)) fun (i1_1 : Int) => bif !inR i1_1 (0 : Int) (9 : Int) then some [Q.one (D.int IntKind.i64 i2)] else idx_isDie.l2 n m2 l0 i1 (IntKind.wrap IntKind.i64 (i2 + (1 : Int))) else none else none else some [Q.one (D.int IntKind.i64 (-1 : Int))] := by kernel_rfl
noncomputable def idx_isDie.res (n : Nat) (a0 : List (List D)) : Option (List Q) :=
  idx_isDie.l2 n n a0 (↑(List.length a0) : Int) (0 : Int)
theorem idx_isDie.run (n : Nat) (a0 : List (List D)) :
    run1 idx_isDie.cfg [RK.one (LK.int IntKind.i64)] n Tryd.f142 [Q.one (D.sl (1 : Nat) a0), Q.one (D.fn (128 : FuncId) [] [])] = idx_isDie.res n a0 := by kernel_rfl
theorem idx_isDie.ev {n : Nat} {a0 : List (List D)} {r : List Q} (h : idx_isDie.res n a0 = some r) : Snd Tryd.prog C0 142 [.one (.sl 1 a0), .one (.fn 128 [] [])] r :=
  snd_ev (C := idx_isDie.cfg) cfg0 mix rfl rfl rfl rfl rfl (.cons impl_IsDie_1.ok .nil) .nil rfl Tryd.func142 (by kernel_rfl) (by kernel_rfl) rfl ((idx_isDie.run n a0).trans h)

theorem idx_isDie.loop {n : Nat} {l : List Int} (hl : l.length ≤ LIM) : ∀ (d k m : Nat), k + d = l.length → d < m → idx_isDie.l2 n m (intC.encs l) l.length k = some [Q.one (.int .i64 (Sp.idxFrom (fun x => !Sp.inR x 0 9) (l.drop k) k))] := by
  intro d
  induction d with
  | zero =>
    intro k m hk hm
    obtain ⟨m, rfl⟩ : ∃ m', m = m' + 1 := ⟨m - 1, by omega⟩
    obtain rfl : k = l.length := by omega
    simp [idx_isDie.l2_eq, Sp.idxFrom]
  | succ d ih =>
    intro k m hk hm
    obtain ⟨m, rfl⟩ : ∃ m', m = m' + 1 := ⟨m - 1, by omega⟩
    have hlt : k < l.length := by omega
    rw [idx_isDie.l2_eq, List.drop_eq_getElem_cons hlt]
    simp only [Cod.encs_len, Int.ofNat_lt, hlt, decide_true, cond_true, Int.natCast_nonneg, Int.toNat_natCast, intC_int hlt, Option.bind_some, wrap_succ (show k ≤ LIM by omega), ih (k + 1) m (by omega) (by omega), Sp.idxFrom]
    rcases Bool.eq_false_or_eq_true ((fun x => !Sp.inR x 0 9) l[k]) with h | h <;> (try dsimp only at h) <;> simp only [h, cond_true, cond_false, Die.eta]
def idx_isDie.stub : Stub
  | [.one (.sl 1 es), .one (.fn 128 [] [])] => .any (intC.decs es) fun l => .ret [.one (.int .i64 (Sp.idxFrom (fun x => !Sp.inR x 0 9) l 0))]
  | _ => .fail
theorem idx_isDie.ok : StubOk Tryd.prog C0 142 idx_isDie.stub := by
  intro args res h
  unfold idx_isDie.stub at h
  split at h
  · obtain ⟨l, h1, h2⟩ := any_out h
    obtain ⟨rfl, hl⟩ := Cod.decs_inv h1
    cases h2
    refine idx_isDie.ev (n := l.length + 1) ?_
    unfold idx_isDie.res
    simpa using idx_isDie.loop (n := l.length + 1) hl l.length 0 (l.length + 1) (by omega) (by omega)
  · cases h
/-! con_isDie -/
noncomputable def con_isDie.cfg : Cfg := { C0 with keep := fun _ => none, nb := 0, M := tabM [(142, idx_isDie.stub)], MM := tabB [] }
noncomputable def con_isDie.res (n : Nat) (a0 : List (List D)) : Option (List Q) :=
  Option.bind (Cod.decs intC a0) fun (l1 : List Int) => some [Q.one (D.bool (decide (idxFrom (fun (x : Int) => !inR x (0 : Int) (9 : Int)) l1 (0 : Nat) ≥ (0 : Int))))]
theorem con_isDie.run (n : Nat) (a0 : List (List D)) :
    run1 con_isDie.cfg [RK.one LK.bool] n Tryd.f127 [Q.one (D.sl (1 : Nat) a0), Q.one (D.fn (128 : FuncId) [] [])] = con_isDie.res n a0 := by kernel_rfl
theorem con_isDie.ev {n : Nat} {a0 : List (List D)} {r : List Q} (h : con_isDie.res n a0 = some r) : Snd Tryd.prog C0 127 [.one (.sl 1 a0), .one (.fn 128 [] [])] r :=
  snd_ev (C := con_isDie.cfg) cfg0 mix rfl rfl rfl rfl rfl (.cons idx_isDie.ok .nil) .nil rfl Tryd.func127 (by kernel_rfl) (by kernel_rfl) rfl ((con_isDie.run n a0).trans h)

def con_isDie.stub : Stub
  | [.one (.sl 1 es), .one (.fn 128 [] [])] => .any (intC.decs es) fun l => .ret [.one (.bool (Sp.anyB (fun x => !Sp.inR x 0 9) l))]
  | _ => .fail
theorem con_isDie.ok : StubOk Tryd.prog C0 127 con_isDie.stub := by
  intro args res h
  unfold con_isDie.stub at h
  split at h
  · obtain ⟨l, h1, h2⟩ := any_out h
    obtain ⟨rfl, hl⟩ := Cod.decs_inv h1
    cases h2
    refine con_isDie.ev (n := 0) ?_
    unfold con_isDie.res
    simp only [Cod.decs_encs hl, Option.bind_some]
    rw [Sp.anyB, ← Sp.idxFrom_any l (fun x => !Sp.inR x 0 9) 0]
  · cases h
/-! impl_IsDie -/
noncomputable def impl_IsDie.cfg : Cfg := { C0 with keep := fun _ => none, nb := 0, M := tabM [(111, impl_Die_faces.stub), (127, con_isDie.stub)], MM := tabB [] }
noncomputable def impl_IsDie.res (n : Nat) (a0_0 : Int) (a0_1 : Int) (a0_2 : Int) (a0_3 : Int) (a0_4 : Int) (a0_5 : Int) : Option (List Q) :=
  some [Q.one (D.bool !anyB (fun (x : Int) => !inR x (0 : Int) (9 : Int)) [a0_0, a0_1, a0_2, a0_3, a0_4, a0_5])]
theorem impl_IsDie.run (n : Nat) (a0_0 : Int) (a0_1 : Int) (a0_2 : Int) (a0_3 : Int) (a0_4 : Int) (a0_5 : Int) :
    run1 impl_IsDie.cfg [RK.one LK.bool] n Tryd.f110 [Q.agg [D.int IntKind.i64 a0_0, D.int IntKind.i64 a0_1, D.int IntKind.i64 a0_2, D.int IntKind.i64 a0_3, D.int IntKind.i64 a0_4, D.int IntKind.i64 a0_5]] = impl_IsDie.res n a0_0 a0_1 a0_2 a0_3 a0_4 a0_5 := by kernel_rfl
theorem impl_IsDie.ev {n : Nat} {a0_0 : Int} {a0_1 : Int} {a0_2 : Int} {a0_3 : Int} {a0_4 : Int} {a0_5 : Int} {r : List Q} (h : impl_IsDie.res n a0_0 a0_1 a0_2 a0_3 a0_4 a0_5 = some r) : Snd Tryd.prog C0 110 [.agg [.int .i64 a0_0, .int .i64 a0_1, .int .i64 a0_2, .int .i64 a0_3, .int .i64 a0_4, .int .i64 a0_5]] r :=
  snd_ev (C := impl_IsDie.cfg) cfg0 mix rfl rfl rfl rfl rfl (.cons impl_Die_faces.ok (.cons con_isDie.ok .nil)) .nil rfl Tryd.func110 (by kernel_rfl) (by kernel_rfl) rfl ((impl_IsDie.run n a0_0 a0_1 a0_2 a0_3 a0_4 a0_5).trans h)

def impl_IsDie.stub : Stub
  | [.agg [.int .i64 t, .int .i64 n, .int .i64 e, .int .i64 s, .int .i64 w, .int .i64 b]] => .ret [.one (.bool (Sp.Die.good ⟨t, n, e, s, w, b⟩))]
  | _ => .fail
theorem impl_IsDie.ok : StubOk Tryd.prog C0 110 impl_IsDie.stub := by
  intro args res h
  unfold impl_IsDie.stub at h
  split at h
  · cases h
    refine impl_IsDie.ev (n := 0) ?_
    simp [impl_IsDie.res, Sp.Die.good, Sp.allR, Sp.Die.faces, Sp.anyB]
  · cases h
end Go.Proofs.EV.PL
set_option linter.unusedVariables false
set_option linter.unusedSimpArgs false
/-! Texts: trimmed, searched, split. -/
namespace Go.Proofs.EV.PL
open Go Go.Proofs Go.Proofs.EV Sp
/-! strings_asciiSet_contains -/
noncomputable def strings_asciiSet_contains.cfg : Cfg := { C0 with keep := fun _ => none, nb := 0, M := tabM [], MM := tabB [] }
noncomputable def strings_asciiSet_contains.res (n : Nat) (cs : List D) (a1 : Int) : Option (List Q) :=
  bif decide ((0 : Int) ≤ a1) then bif decide (a1 < (256 : Int)) then bif decide (Int.toNat a1 * (1 : Nat) + (1 : Nat) ≤ List.length cs) then Option.bind (Option.bind (some (cellD [cs] (0 : Nat) (Int.toNat a1 * (1 : Nat)))) D.bool?) fun (b1 : Bool) => some [Q.one (D.bool b1)] else none else none else none
theorem strings_asciiSet_contains.run (n : Nat) (cs : List D) (a1 : Int) :
    run1 strings_asciiSet_contains.cfg [RK.one LK.bool] n Tryd.f138 [Q.one (D.pt cs), Q.one (D.int IntKind.u8 a1)] = strings_asciiSet_contains.res n cs a1 := by kernel_rfl
theorem strings_asciiSet_contains.ev {n : Nat} {cs : List D} {a1 : Int} {r : List Q} (h : strings_asciiSet_contains.res n cs a1 = some r) : Snd Tryd.prog C0 138 [.one (.pt cs), .one (.int .u8 a1)] r :=
  snd_ev (C := strings_asciiSet_contains.cfg) cfg0 mix rfl rfl rfl rfl rfl .nil .nil rfl Tryd.func138 (by kernel_rfl) (by kernel_rfl) rfl ((strings_asciiSet_contains.run n cs a1).trans h)

def strings_asciiSet_contains.stub : Stub
  | [.one (.pt cs), .one (.int .u8 c)] => .any (Sp.setOf cs) fun t => .gd (decide (0 ≤ c ∧ c < 256)) (.ret [.one (.bool (Sp.inSet t c))])
  | _ => .fail
theorem strings_asciiSet_contains.ok : StubOk Tryd.prog C0 138 strings_asciiSet_contains.stub := by
  intro args res h
  unfold strings_asciiSet_contains.stub at h
  split at h
  · rename_i cs c
    obtain ⟨t, h1, h2⟩ := any_out h
    obtain ⟨h3, h4⟩ := gd_out h2
    obtain ⟨h5, h6⟩ := of_decide_eq_true h3
    cases h4
    obtain ⟨k1, k2⟩ := TQ.isSet_get _ (setOf_is h1)
    obtain ⟨i, rfl⟩ : ∃ i : Nat, c = (i : Int) := ⟨c.toNat, by omega⟩
    have hi : i < 256 := by omega
    have g1 : i * 1 + 1 ≤ cs.length := by omega
    refine strings_asciiSet_contains.ev (n := 0) ?_
    have e : D.bool? (cellD [cs] 0 (i * 1)) = some (inSet t (i : Nat)) := by
      unfold cellD
      rw [Nat.mul_one]
      show D.bool? (cs.getD i .nilp) = _
      rw [k2 i hi]; rfl
    unfold strings_asciiSet_contains.res
    simp only [h5, h6, Int.toNat_natCast, g1, decide_true, cond_true, e, Option.bind_some]
  · cases h
/-! strings_trimLeftASCII -/
noncomputable def strings_trimLeftASCII.cfg : Cfg := { C0 with keep := fun | 1 => some [0, 1] | _ => none, nb := 0, M := tabM [(138, strings_asciiSet_contains.stub)], MM := tabB [] }
noncomputable def strings_trimLeftASCII.l1 (n : Nat) (m1 : Nat) (s0 : ByteArray) (l1 : List D) : Option (List Q) :=
  loopAt strings_trimLeftASCII.cfg [RK.one LK.str] n Tryd.f123 [1, 0, 0] [] m1 (St.mk [V.one true (D.str s0), V.one false (D.pt l1), V.undef, V.undef, V.undef, V.undef, V.undef, V.undef, V.undef, V.undef, V.undef, V.undef, V.undef, V.undef, V.undef, V.undef] [])
theorem strings_trimLeftASCII.l1_eq (n : Nat) (m1 : Nat) (s0 : ByteArray) (l1 : List D) :
    strings_trimLeftASCII.l1 n (m1 + 1) s0 l1 = bif decide ((↑(ByteArray.size s0) : Int) > (0 : Int)) then bif decide ((0 : Int) < (↑(ByteArray.size s0) : Int)) then Option.bind (setOf l1) fun (s1 : ByteArray) => bif decide ((0 : Int) ≤ byteAt s0 (Int.toNat (0 : Int)) ∧ byteAt s0 (Int.toNat (0 : Int)) < (256 : Int)) then bif !inSet s1 (byteAt s0 (Int.toNat (0 : Int))) then some [Q.one (D.str s0)] else bif decide ((1 : Int) ≤ (↑(ByteArray.size s0) : Int)) then strings_trimLeftASCII.l1 n m1 (ByteArray.extract s0 (Int.toNat (1 : Int)) (ByteArray.size s0)) l1 else none else none else none else some [Q.one (D.str s0)] := by kernel_rfl
noncomputable def strings_trimLeftASCII.res (n : Nat) (a0 : ByteArray) (cs : List D) : Option (List Q) :=
  strings_trimLeftASCII.l1 n n a0 cs
theorem strings_trimLeftASCII.run (n : Nat) (a0 : ByteArray) (cs : List D) :
    run1 strings_trimLeftASCII.cfg [RK.one LK.str] n Tryd.f123 [Q.one (D.str a0), Q.one (D.pt cs)] = strings_trimLeftASCII.res n a0 cs := by kernel_rfl
theorem strings_trimLeftASCII.ev {n : Nat} {a0 : ByteArray} {cs : List D} {r : List Q} (h : strings_trimLeftASCII.res n a0 cs = some r) : Snd Tryd.prog C0 123 [.one (.str a0), .one (.pt cs)] r :=
  snd_ev (C := strings_trimLeftASCII.cfg) cfg0 mix rfl rfl rfl rfl rfl (.cons strings_asciiSet_contains.ok .nil) .nil rfl Tryd.func123 (by kernel_rfl) (by kernel_rfl) rfl ((strings_trimLeftASCII.run n a0 cs).trans h)

theorem byteAt_in (s : ByteArray) (i : Nat) : 0 ≤ byteAt s i ∧ byteAt s i < 256 := by
  unfold byteAt
  have := (s.data.toList.getD i 0).toNat_lt
  omega
theorem strings_trimLeftASCII.l1_run {n : Nat} {cs : List D} {t : ByteArray} (hc : setOf cs = some t) : ∀ (d m : Nat) (s : ByteArray), s.size ≤ d → d < m →
    strings_trimLeftASCII.l1 n m s cs = some [Q.one (.str (TQ.trimLnQ (inSet t) d s))] := by
  intro d
  induction d with
  | zero =>
    intro m s hs hm
    obtain ⟨m, rfl⟩ : ∃ m', m = m' + 1 := ⟨m - 1, by omega⟩
    have h1 : ¬ ((s.size : Nat) : Int) > 0 := by omega
    rw [strings_trimLeftASCII.l1_eq]
    simp only [h1, decide_false, cond_false, TQ.trimLnQ]
  | succ d ih =>
    intro m s hs hm
    obtain ⟨m, rfl⟩ : ∃ m', m = m' + 1 := ⟨m - 1, by omega⟩
    rw [strings_trimLeftASCII.l1_eq, TQ.trimLnQ]
    by_cases h0 : 0 < s.size
    · have h1 : ((s.size : Nat) : Int) > 0 := by omega
      have h2 : (0 : Int) < ((s.size : Nat) : Int) := by omega
      have h3 : (1 : Int) ≤ ((s.size : Nat) : Int) := by omega
      have hb := byteAt_in s 0
      have hsz : (s.extract 1 s.size).size ≤ d := by rw [ByteArray.size_extract]; omega
      simp only [h0, h1, h2, h3, hc, hb, and_self, decide_true, cond_true, Option.bind_some, Int.toNat_zero, show Int.toNat (1 : Int) = 1 from rfl, ih m _ hsz (by omega)]
      cases inSet t (byteAt s 0) <;> rfl
    · have h1 : ¬ ((s.size : Nat) : Int) > 0 := by omega
      simp only [h0, h1, decide_false, cond_false]
def strings_trimLeftASCII.stub : Stub
  | [.one (.str s), .one (.pt cs)] => .any (Sp.setOf cs) fun t => .ret [.one (.str (Sp.TQ.trimLQ (Sp.inSet t) s))]
  | _ => .fail
theorem strings_trimLeftASCII.ok : StubOk Tryd.prog C0 123 strings_trimLeftASCII.stub := by
  intro args res h
  unfold strings_trimLeftASCII.stub at h
  split at h
  · rename_i s cs
    obtain ⟨t, h1, h2⟩ := any_out h
    cases h2
    refine strings_trimLeftASCII.ev (n := s.size + 1) ?_
    exact strings_trimLeftASCII.l1_run (n := s.size + 1) h1 s.size (s.size + 1) s (Nat.le_refl _) (by omega)
  · cases h
/-! strings_trimRightASCII -/
noncomputable def strings_trimRightASCII.cfg : Cfg := { C0 with keep := fun | 1 => some [0, 1] | _ => none, nb := 0, M := tabM [(138, strings_asciiSet_contains.stub)], MM := tabB [] }
noncomputable def strings_trimRightASCII.l1 (n : Nat) (m1 : Nat) (s0 : ByteArray) (l1 : List D) : Option (List Q) :=
  loopAt strings_trimRightASCII.cfg [RK.one LK.str] n Tryd.f124 [1, 0, 0] [] m1 (St.mk [V.one true (D.str s0), V.one false (D.pt l1), V.undef, V.undef, V.undef, V.undef, V.undef, V.undef, V.undef, V.undef, V.undef, V.undef, V.undef, V.undef, V.undef, V.undef, V.undef, V.undef, V.undef, V.undef, V.undef, V.undef] [])
theorem strings_trimRightASCII.l1_eq (n : Nat) (m1 : Nat) (s0 : ByteArray) (l1 : List D) :
    strings_trimRightASCII.l1 n (m1 + 1) s0 l1 = bif decide ((↑(ByteArray.size s0) : Int) > (0 : Int)) then bif decide ((0 : Int) ≤ IntKind.wrap IntKind.i64 ((↑(ByteArray.size s0) : Int) - (1 : Int))) then bif decide (IntKind.wrap IntKind.i64 ((↑(ByteArray.size s0) : Int) - (1 : Int)) < (↑(ByteArray.size s0) : Int)) then Option.bind (setOf l1) fun (s1 : ByteArray) => bif decide ((0 : Int) ≤ byteAt s0 (Int.toNat (IntKind.wrap IntKind.i64 ((↑(ByteArray.size s0) : Int) - (1 : Int)))) ∧ byteAt s0 (Int.toNat (IntKind.wrap IntKind.i64 ((↑(ByteArray.size s0) : Int) - (1 : Int)))) < (256 : Int)) then bif !inSet s1 (byteAt s0 (Int.toNat (IntKind.wrap IntKind.i64 ((↑(ByteArray.size s0) : Int) - (1 : Int))))) then some [Q.one (D.str s0)] else bif decide ((0 : Int) ≤ IntKind.wrap IntKind.i64 ((↑(ByteArray.size s0) : Int) - (1 : Int))) then bif decide (IntKind.wrap IntKind.i64 ((↑(ByteArray.size s0) : Int) - (1 : Int)) ≤ (↑(ByteArray.size s0) : Int)) then strings_trimRightASCII.l1 n m1 (ByteArray.extract s0 (0 : Nat) (Int.toNat (IntKind.wrap IntKind.i64 ((↑(ByteArray.size s0) : Int) - (1 : Int))))) l1 else none else none else none else none else none else some [Q.one (D.str s0)] := by kernel_rfl
noncomputable def strings_trimRightASCII.res (n : Nat) (a0 : ByteArray) (cs : List D) : Option (List Q) :=
  strings_trimRightASCII.l1 n n a0 cs
theorem strings_trimRightASCII.run (n : Nat) (a0 : ByteArray) (cs : List D) :
    run1 strings_trimRightASCII.cfg [RK.one LK.str] n Tryd.f124 [Q.one (D.str a0), Q.one (D.pt cs)] = strings_trimRightASCII.res n a0 cs := by kernel_rfl
theorem strings_trimRightASCII.ev {n : Nat} {a0 : ByteArray} {cs : List D} {r : List Q} (h : strings_trimRightASCII.res n a0 cs = some r) : Snd Tryd.prog C0 124 [.one (.str a0), .one (.pt cs)] r :=
  snd_ev (C := strings_trimRightASCII.cfg) cfg0 mix rfl rfl rfl rfl rfl (.cons strings_asciiSet_contains.ok .nil) .nil rfl Tryd.func124 (by kernel_rfl) (by kernel_rfl) rfl ((strings_trimRightASCII.run n a0 cs).trans h)

theorem strings_trimRightASCII.l1_run {n : Nat} {cs : List D} {t : ByteArray} (hc : setOf cs = some t) : ∀ (d m : Nat) (s : ByteArray), s.size ≤ d → s.size ≤ LIM → d < m →
    strings_trimRightASCII.l1 n m s cs = some [Q.one (.str (TQ.trimRnQ (inSet t) d s))] := by
  intro d
  induction d with
  | zero =>
    intro m s hs hl hm
    obtain ⟨m, rfl⟩ : ∃ m', m = m' + 1 := ⟨m - 1, by omega⟩
    have h1 : ¬ ((s.size : Nat) : Int) > 0 := by omega
    rw [strings_trimRightASCII.l1_eq]
    simp only [h1, decide_false, cond_false, TQ.trimRnQ]
  | succ d ih =>
    intro m s hs hl hm
    obtain ⟨m, rfl⟩ : ∃ m', m = m' + 1 := ⟨m - 1, by omega⟩
    rw [strings_trimRightASCII.l1_eq, TQ.trimRnQ]
    by_cases h0 : 0 < s.size
    · have h1 : ((s.size : Nat) : Int) > 0 := by omega
      have hw : IntKind.wrap .i64 (((s.size : Nat) : Int) - 1) = ((s.size - 1 : Nat) : Int) := by unfold LIM at hl; rw [wrap_in (by omega) (by omega)]; omega
      have h2 : ((s.size - 1 : Nat) : Int) < ((s.size : Nat) : Int) := by omega
      have h3 : ((s.size - 1 : Nat) : Int) ≤ ((s.size : Nat) : Int) := by omega
      have hb := byteAt_in s (s.size - 1)
      have hsz : (s.extract 0 (s.size - 1)).size ≤ d := by rw [ByteArray.size_extract]; omega
      have hsl : (s.extract 0 (s.size - 1)).size ≤ LIM := by rw [ByteArray.size_extract]; omega
      simp only [h0, h1, hw, h2, h3, hc, hb, and_self, decide_true, cond_true, Option.bind_some, Int.natCast_nonneg, Int.toNat_natCast, ih m _ hsz hsl (by omega)]
      cases inSet t (byteAt s (s.size - 1)) <;> rfl
    · have h1 : ¬ ((s.size : Nat) : Int) > 0 := by omega
      simp only [h0, h1, decide_false, cond_false]
def strings_trimRightASCII.stub : Stub
  | [.one (.str s), .one (.pt cs)] => .any (Sp.setOf cs) fun t => .gd (decide (s.size ≤ LIM)) (.ret [.one (.str (Sp.TQ.trimRQ (Sp.inSet t) s))])
  | _ => .fail
theorem strings_trimRightASCII.ok : StubOk Tryd.prog C0 124 strings_trimRightASCII.stub := by
  intro args res h
  unfold strings_trimRightASCII.stub at h
  split at h
  · rename_i s cs
    obtain ⟨t, h1, h2⟩ := any_out h
    obtain ⟨h3, h4⟩ := gd_out h2
    cases h4
    refine strings_trimRightASCII.ev (n := s.size + 1) ?_
    exact strings_trimRightASCII.l1_run (n := s.size + 1) h1 s.size (s.size + 1) s (Nat.le_refl _) (of_decide_eq_true h3) (by omega)
  · cases h
noncomputable def mkc : Cfg := { C0 with nb := 0, M := tabM [], MM := tabB [] }
def mkR (s : ByteArray) : List Q := [.agg ((List.range 256).map fun i => D.bool (Sp.inSet s (i : Nat))), .one (.bool true)]
theorem mkr0 : run1 mkc (C0.sig 122) 20 Tryd.f122 [.one (.str lit0)] = some (mkR lit0) := by kernel_rfl
theorem mkr1 : run1 mkc (C0.sig 122) 20 Tryd.f122 [.one (.str lit1)] = some (mkR lit1) := by kernel_rfl
theorem mkr2 : run1 mkc (C0.sig 122) 20 Tryd.f122 [.one (.str lit2)] = some (mkR lit2) := by kernel_rfl
theorem mkr3 : run1 mkc (C0.sig 122) 20 Tryd.f122 [.one (.str lit3)] = some (mkR lit3) := by kernel_rfl
def strings_makeASCIISet.stub : Stub
  | [.one (.str s)] => .gd (Sp.isLit s) (.ret [.agg ((List.range 256).map fun i => D.bool (Sp.inSet s (i : Nat))), .one (.bool true)])
  | _ => .fail
theorem strings_makeASCIISet.ok : StubOk Tryd.prog C0 122 strings_makeASCIISet.stub := by
  intro args res h
  unfold strings_makeASCIISet.stub at h
  split at h
  · rename_i s
    obtain ⟨h1, h2⟩ := gd_out h
    cases h2
    have key : ∀ t, run1 mkc (C0.sig 122) 20 Tryd.f122 [.one (.str t)] = some (mkR t) → Snd Tryd.prog C0 122 [.one (.str t)] (mkR t) := fun t ht =>
      snd_ev (C := mkc) cfg0 mix rfl rfl rfl rfl rfl .nil .nil rfl Tryd.func122 (by kernel_rfl) (by kernel_rfl) rfl ht
    rcases isLit_or h1 with rfl | rfl | rfl | rfl
    · exact key _ mkr0
    · exact key _ mkr1
    · exact key _ mkr2
    · exact key _ mkr3
  · cases h
/-! strings_Trim0 -/
noncomputable def strings_Trim0.cfg : Cfg := { C0 with keep := fun _ => none, nb := 0, M := tabM [(122, strings_makeASCIISet.stub), (123, strings_trimLeftASCII.stub), (124, strings_trimRightASCII.stub)], MM := tabB [] }
noncomputable def strings_Trim0.res (n : Nat) (a0 : ByteArray) : Option (List Q) :=
  bif strEq a0 (ByteArray.mk #[]) then some [Q.one (D.str a0)] else bif decide (ByteArray.size a0 ≤ (17179869184 : Nat)) then some [Q.one (D.str (TQ.trimLQ (inSet lit0) (TQ.trimRQ (inSet lit0) a0)))] else none
theorem strings_Trim0.run (n : Nat) (a0 : ByteArray) :
    run1 strings_Trim0.cfg [RK.one LK.str] n Tryd.f106 [Q.one (D.str a0), Q.one (D.str (ByteArray.mk #[(110 : UInt8), (101 : UInt8), (115 : UInt8), (119 : UInt8)]))] = strings_Trim0.res n a0 := by kernel_rfl
theorem strings_Trim0.ev {n : Nat} {a0 : ByteArray} {r : List Q} (h : strings_Trim0.res n a0 = some r) : Snd Tryd.prog C0 106 [.one (.str a0), .one (.str ⟨#[110, 101, 115, 119]⟩)] r :=
  snd_ev (C := strings_Trim0.cfg) cfg0 mix rfl rfl rfl rfl rfl (.cons strings_makeASCIISet.ok (.cons strings_trimLeftASCII.ok (.cons strings_trimRightASCII.ok .nil))) .nil rfl Tryd.func106 (by kernel_rfl) (by kernel_rfl) rfl ((strings_Trim0.run n a0).trans h)

/-! strings_Trim1 -/
noncomputable def strings_Trim1.cfg : Cfg := { C0 with keep := fun _ => none, nb := 0, M := tabM [(122, strings_makeASCIISet.stub), (123, strings_trimLeftASCII.stub), (124, strings_trimRightASCII.stub)], MM := tabB [] }
noncomputable def strings_Trim1.res (n : Nat) (a0 : ByteArray) : Option (List Q) :=
  bif strEq a0 (ByteArray.mk #[]) then some [Q.one (D.str a0)] else bif decide (ByteArray.size a0 ≤ (17179869184 : Nat)) then some [Q.one (D.str (TQ.trimLQ (inSet lit1) (TQ.trimRQ (inSet lit1) a0)))] else none
theorem strings_Trim1.run (n : Nat) (a0 : ByteArray) :
    run1 strings_Trim1.cfg [RK.one LK.str] n Tryd.f106 [Q.one (D.str a0), Q.one (D.str (ByteArray.mk #[(46 : UInt8), (35 : UInt8)]))] = strings_Trim1.res n a0 := by kernel_rfl
theorem strings_Trim1.ev {n : Nat} {a0 : ByteArray} {r : List Q} (h : strings_Trim1.res n a0 = some r) : Snd Tryd.prog C0 106 [.one (.str a0), .one (.str ⟨#[46, 35]⟩)] r :=
  snd_ev (C := strings_Trim1.cfg) cfg0 mix rfl rfl rfl rfl rfl (.cons strings_makeASCIISet.ok (.cons strings_trimLeftASCII.ok (.cons strings_trimRightASCII.ok .nil))) .nil rfl Tryd.func106 (by kernel_rfl) (by kernel_rfl) rfl ((strings_Trim1.run n a0).trans h)

/-! strings_Trim2 -/
noncomputable def strings_Trim2.cfg : Cfg := { C0 with keep := fun _ => none, nb := 0, M := tabM [(122, strings_makeASCIISet.stub), (123, strings_trimLeftASCII.stub), (124, strings_trimRightASCII.stub)], MM := tabB [] }
noncomputable def strings_Trim2.res (n : Nat) (a0 : ByteArray) : Option (List Q) :=
  bif strEq a0 (ByteArray.mk #[]) then some [Q.one (D.str a0)] else bif decide (ByteArray.size a0 ≤ (17179869184 : Nat)) then some [Q.one (D.str (TQ.trimLQ (inSet lit2) (TQ.trimRQ (inSet lit2) a0)))] else none
theorem strings_Trim2.run (n : Nat) (a0 : ByteArray) :
    run1 strings_Trim2.cfg [RK.one LK.str] n Tryd.f106 [Q.one (D.str a0), Q.one (D.str (ByteArray.mk #[(46 : UInt8), (35 : UInt8), (45 : UInt8), (111 : UInt8)]))] = strings_Trim2.res n a0 := by kernel_rfl
theorem strings_Trim2.ev {n : Nat} {a0 : ByteArray} {r : List Q} (h : strings_Trim2.res n a0 = some r) : Snd Tryd.prog C0 106 [.one (.str a0), .one (.str ⟨#[46, 35, 45, 111]⟩)] r :=
  snd_ev (C := strings_Trim2.cfg) cfg0 mix rfl rfl rfl rfl rfl (.cons strings_makeASCIISet.ok (.cons strings_trimLeftASCII.ok (.cons strings_trimRightASCII.ok .nil))) .nil rfl Tryd.func106 (by kernel_rfl) (by kernel_rfl) rfl ((strings_Trim2.run n a0).trans h)

/-! strings_Trim3 -/
noncomputable def strings_Trim3.cfg : Cfg := { C0 with keep := fun _ => none, nb := 0, M := tabM [(122, strings_makeASCIISet.stub), (123, strings_trimLeftASCII.stub), (124, strings_trimRightASCII.stub)], MM := tabB [] }
noncomputable def strings_Trim3.res (n : Nat) (a0 : ByteArray) : Option (List Q) :=
  bif strEq a0 (ByteArray.mk #[]) then some [Q.one (D.str a0)] else bif decide (ByteArray.size a0 ≤ (17179869184 : Nat)) then some [Q.one (D.str (TQ.trimLQ (inSet lit3) (TQ.trimRQ (inSet lit3) a0)))] else none
theorem strings_Trim3.run (n : Nat) (a0 : ByteArray) :
    run1 strings_Trim3.cfg [RK.one LK.str] n Tryd.f106 [Q.one (D.str a0), Q.one (D.str (ByteArray.mk #[(46 : UInt8), (35 : UInt8), (48 : UInt8), (49 : UInt8), (50 : UInt8), (51 : UInt8), (52 : UInt8), (53 : UInt8), (54 : UInt8), (55 : UInt8), (56 : UInt8), (57 : UInt8)]))] = strings_Trim3.res n a0 := by kernel_rfl
theorem strings_Trim3.ev {n : Nat} {a0 : ByteArray} {r : List Q} (h : strings_Trim3.res n a0 = some r) : Snd Tryd.prog C0 106 [.one (.str a0), .one (.str ⟨#[46, 35, 48, 49, 50, 51, 52, 53, 54, 55, 56, 57]⟩)] r :=
  snd_ev (C := strings_Trim3.cfg) cfg0 mix rfl rfl rfl rfl rfl (.cons strings_makeASCIISet.ok (.cons strings_trimLeftASCII.ok (.cons strings_trimRightASCII.ok .nil))) .nil rfl Tryd.func106 (by kernel_rfl) (by kernel_rfl) rfl ((strings_Trim3.run n a0).trans h)

def strings_Trim.stub : Stub
  | [.one (.str s), .one (.str t)] => .gd (Sp.isLit t) (.gd (decide (s.size ≤ LIM)) (.ret [.one (.str (Sp.TQ.trimDQ (Sp.inSet t) s))]))
  | _ => .fail
theorem strings_Trim.ok : StubOk Tryd.prog C0 106 strings_Trim.stub := by
  intro args res h
  unfold strings_Trim.stub at h
  split at h
  · rename_i s t
    obtain ⟨h1, h2⟩ := gd_out h
    obtain ⟨h3, h4⟩ := gd_out h2
    cases h4
    have h3 : s.size ≤ 17179869184 := of_decide_eq_true h3
    rcases isLit_or h1 with rfl | rfl | rfl | rfl
    · refine strings_Trim0.ev (n := 0) ?_
      unfold strings_Trim0.res TQ.trimDQ
      simp only [h3, decide_true, cond_true]
      cases strEq s ⟨#[]⟩ <;> rfl
    · refine strings_Trim1.ev (n := 0) ?_
      unfold strings_Trim1.res TQ.trimDQ
      simp only [h3, decide_true, cond_true]
      cases strEq s ⟨#[]⟩ <;> rfl
    · refine strings_Trim2.ev (n := 0) ?_
      unfold strings_Trim2.res TQ.trimDQ
      simp only [h3, decide_true, cond_true]
      cases strEq s ⟨#[]⟩ <;> rfl
    · refine strings_Trim3.ev (n := 0) ?_
      unfold strings_Trim3.res TQ.trimDQ
      simp only [h3, decide_true, cond_true]
      cases strEq s ⟨#[]⟩ <;> rfl
  · cases h
end Go.Proofs.EV.PL
set_option linter.unusedVariables false
set_option linter.unusedSimpArgs false
/-! Texts split; words of rolls. -/
namespace Go.Proofs.EV.PL
open Go Go.Proofs Go.Proofs.EV Sp
def i_bytealg_CountString.stub : Stub
  | [.one (.str s), .one (.int .u8 c)] => .ret [.one (.int .i64 (Sp.ctB s (Sp.toU8 c) : Nat))]
  | _ => .fail
theorem i_bytealg_CountString.ok : StubOk Tryd.prog C0 149 i_bytealg_CountString.stub := by
  intro args res h
  unfold i_bytealg_CountString.stub at h
  split at h
  · rename_i s c
    cases h
    exact countByte_ok Tryd.func149 (by kernel_rfl) rfl rfl rfl rfl s c
  · cases h
def i_bytealg_IndexByteString.stub : Stub
  | [.one (.str s), .one (.int .u8 c)] => .ret [.one (.int .i64 (Sp.ixB s (Sp.toU8 c)))]
  | _ => .fail
theorem i_bytealg_IndexByteString.ok : StubOk Tryd.prog C0 162 i_bytealg_IndexByteString.stub := by
  intro args res h
  unfold i_bytealg_IndexByteString.stub at h
  split at h
  · rename_i s c
    cases h
    exact indexByte_ok Tryd.func162 (by kernel_rfl) rfl rfl rfl rfl s c
  · cases h
/-! i_stringslite_IndexByte -/
noncomputable def i_stringslite_IndexByte.cfg : Cfg := { C0 with keep := fun _ => none, nb := 0, M := tabM [(162, i_bytealg_IndexByteString.stub)], MM := tabB [] }
noncomputable def i_stringslite_IndexByte.res (n : Nat) (a0 : ByteArray) (a1 : Int) : Option (List Q) :=
  some [Q.one (D.int IntKind.i64 (ixB a0 (toU8 a1)))]
theorem i_stringslite_IndexByte.run (n : Nat) (a0 : ByteArray) (a1 : Int) :
    run1 i_stringslite_IndexByte.cfg [RK.one (LK.int IntKind.i64)] n Tryd.f156 [Q.one (D.str a0), Q.one (D.int IntKind.u8 a1)] = i_stringslite_IndexByte.res n a0 a1 := by kernel_rfl
theorem i_stringslite_IndexByte.ev {n : Nat} {a0 : ByteArray} {a1 : Int} {r : List Q} (h : i_stringslite_IndexByte.res n a0 a1 = some r) : Snd Tryd.prog C0 156 [.one (.str a0), .one (.int .u8 a1)] r :=
  snd_ev (C := i_stringslite_IndexByte.cfg) cfg0 mix rfl rfl rfl rfl rfl (.cons i_bytealg_IndexByteString.ok .nil) .nil rfl Tryd.func156 (by kernel_rfl) (by kernel_rfl) rfl ((i_stringslite_IndexByte.run n a0 a1).trans h)

def i_stringslite_IndexByte.stub : Stub
  | [.one (.str s), .one (.int .u8 c)] => .ret [.one (.int .i64 (Sp.ixB s (Sp.toU8 c)))]
  | _ => .fail
theorem i_stringslite_IndexByte.ok : StubOk Tryd.prog C0 156 i_stringslite_IndexByte.stub := by
  intro args res h
  unfold i_stringslite_IndexByte.stub at h
  split at h
  · cases h
    exact i_stringslite_IndexByte.ev (n := 0) rfl
  · cases h
theorem one_byte {t : ByteArray} (h : t.size = 1) : t = ⟨#[hd8 t]⟩ := by
  obtain ⟨⟨l⟩⟩ := t
  match l, h with
  | [c], _ => rfl
theorem byte_one (c : UInt8) : toU8 (byteAt ⟨#[c]⟩ 0) = c := by
  show UInt8.ofNat (Int.toNat (c.toNat : Int)) = c
  rw [Int.toNat_natCast, UInt8.ofNat_toNat]
/-! strings_Count -/
noncomputable def strings_Count.cfg : Cfg := { C0 with keep := fun | 6 => some [0, 1, 5] | _ => none, nb := 0, M := tabM [(149, i_bytealg_CountString.stub)], MM := tabB [] }
noncomputable def strings_Count.res (n : Nat) (a0 : ByteArray) (c : UInt8) : Option (List Q) :=
  some [Q.one (D.int IntKind.i64 (↑(ctB a0 (toU8 (byteAt (ByteArray.mk #[c]) (Int.toNat (0 : Int))))) : Int))]
theorem strings_Count.run (n : Nat) (a0 : ByteArray) (c : UInt8) :
    run1 strings_Count.cfg [RK.one (LK.int IntKind.i64)] n Tryd.f136 [Q.one (D.str a0), Q.one (D.str (ByteArray.mk #[c]))] = strings_Count.res n a0 c := by kernel_rfl
theorem strings_Count.ev {n : Nat} {a0 : ByteArray} {c : UInt8} {r : List Q} (h : strings_Count.res n a0 c = some r) : Snd Tryd.prog C0 136 [.one (.str a0), .one (.str ⟨#[c]⟩)] r :=
  snd_ev (C := strings_Count.cfg) cfg0 mix rfl rfl rfl rfl rfl (.cons i_bytealg_CountString.ok .nil) .nil rfl Tryd.func136 (by kernel_rfl) (by kernel_rfl) rfl ((strings_Count.run n a0 c).trans h)

def strings_Count.stub : Stub
  | [.one (.str s), .one (.str t)] => .gd (decide (t.size = 1)) (.ret [.one (.int .i64 (Sp.ctB s (Sp.hd8 t) : Nat))])
  | _ => .fail
theorem strings_Count.ok : StubOk Tryd.prog C0 136 strings_Count.stub := by
  intro args res h
  unfold strings_Count.stub at h
  split at h
  · rename_i s t
    obtain ⟨h1, h2⟩ := gd_out h
    cases h2
    have h1 := one_byte (of_decide_eq_true h1)
    generalize hd8 t = c at h1 ⊢
    subst h1
    refine strings_Count.ev (n := 0) ?_
    unfold strings_Count.res
    rw [show Int.toNat (0 : Int) = 0 from rfl, byte_one]
  · cases h
/-! i_stringslite_Index -/
noncomputable def i_stringslite_Index.cfg : Cfg := { C0 with keep := fun | 15 => some [0, 1, 5, 6, 7, 8, 9, 10] | _ => none, nb := 0, M := tabM [(156, i_stringslite_IndexByte.stub)], MM := tabB [] }
noncomputable def i_stringslite_Index.res (n : Nat) (a0 : ByteArray) (c : UInt8) : Option (List Q) :=
  bif strEq (ByteArray.mk #[c]) a0 then some [Q.one (D.int IntKind.i64 (0 : Int))] else some [Q.one (D.int IntKind.i64 (ixB a0 (toU8 (byteAt (ByteArray.mk #[c]) (Int.toNat (0 : Int))))))]
theorem i_stringslite_Index.run (n : Nat) (a0 : ByteArray) (c : UInt8) :
    run1 i_stringslite_Index.cfg [RK.one (LK.int IntKind.i64)] n Tryd.f150 [Q.one (D.str a0), Q.one (D.str (ByteArray.mk #[c]))] = i_stringslite_Index.res n a0 c := by kernel_rfl
theorem i_stringslite_Index.ev {n : Nat} {a0 : ByteArray} {c : UInt8} {r : List Q} (h : i_stringslite_Index.res n a0 c = some r) : Snd Tryd.prog C0 150 [.one (.str a0), .one (.str ⟨#[c]⟩)] r :=
  snd_ev (C := i_stringslite_Index.cfg) cfg0 mix rfl rfl rfl rfl rfl (.cons i_stringslite_IndexByte.ok .nil) .nil rfl Tryd.func150 (by kernel_rfl) (by kernel_rfl) rfl ((i_stringslite_Index.run n a0 c).trans h)

def i_stringslite_Index.stub : Stub
  | [.one (.str s), .one (.str t)] => .gd (decide (t.size = 1)) (.ret [.one (.int .i64 (Sp.ixB s (Sp.hd8 t)))])
  | _ => .fail
theorem i_stringslite_Index.ok : StubOk Tryd.prog C0 150 i_stringslite_Index.stub := by
  intro args res h
  unfold i_stringslite_Index.stub at h
  split at h
  · rename_i s t
    obtain ⟨h1, h2⟩ := gd_out h
    cases h2
    have h1 := one_byte (of_decide_eq_true h1)
    generalize hd8 t = c at h1 ⊢
    subst h1
    refine i_stringslite_Index.ev (n := 0) ?_
    unfold i_stringslite_Index.res
    rw [show Int.toNat (0 : Int) = 0 from rfl, byte_one]
    cases hs : strEq ⟨#[c]⟩ s with
    | false => rfl
    | true =>
      obtain rfl := strEq_eq hs
      have : ixB ⟨#[c]⟩ c = 0 := by
        show (if c == c then (0 : Int) else _) = 0
        simp
      rw [this]; rfl
  · cases h
/-! strings_Index -/
noncomputable def strings_Index.cfg : Cfg := { C0 with keep := fun _ => none, nb := 0, M := tabM [(150, i_stringslite_Index.stub)], MM := tabB [] }
noncomputable def strings_Index.res (n : Nat) (a0 : ByteArray) (a1 : ByteArray) : Option (List Q) :=
  bif decide (ByteArray.size a1 = (1 : Nat)) then some [Q.one (D.int IntKind.i64 (ixB a0 (hd8 a1)))] else none
theorem strings_Index.run (n : Nat) (a0 : ByteArray) (a1 : ByteArray) :
    run1 strings_Index.cfg [RK.one (LK.int IntKind.i64)] n Tryd.f137 [Q.one (D.str a0), Q.one (D.str a1)] = strings_Index.res n a0 a1 := by kernel_rfl
theorem strings_Index.ev {n : Nat} {a0 : ByteArray} {a1 : ByteArray} {r : List Q} (h : strings_Index.res n a0 a1 = some r) : Snd Tryd.prog C0 137 [.one (.str a0), .one (.str a1)] r :=
  snd_ev (C := strings_Index.cfg) cfg0 mix rfl rfl rfl rfl rfl (.cons i_stringslite_Index.ok .nil) .nil rfl Tryd.func137 (by kernel_rfl) (by kernel_rfl) rfl ((strings_Index.run n a0 a1).trans h)

def strings_Index.stub : Stub
  | [.one (.str s), .one (.str t)] => .gd (decide (t.size = 1)) (.ret [.one (.int .i64 (Sp.ixB s (Sp.hd8 t)))])
  | _ => .fail
theorem strings_Index.ok : StubOk Tryd.prog C0 137 strings_Index.stub := by
  intro args res h
  unfold strings_Index.stub at h
  split at h
  · rename_i s t
    obtain ⟨h1, h2⟩ := gd_out h
    cases h2
    refine strings_Index.ev (n := 0) ?_
    unfold strings_Index.res
    rw [h1]; rfl
  · cases h
/-! strings_genSplit -/
noncomputable def strings_genSplit.cfg : Cfg := { C0 with keep := fun | 11 => some [0, 1, 2, 3, 9, 10] | _ => none, nb := 0, M := tabM [(136, strings_Count.stub), (137, strings_Index.stub)], MM := tabB [] }
noncomputable def strings_genSplit.l11 (n : Nat) (m11 : Nat) (s0 : ByteArray) (s1 : ByteArray) (i2 : Int) (i3 : Int) (i4 : Int) (l5 : List (List D)) : Option (List Q) :=
  loopAt strings_genSplit.cfg [RK.own (1 : Nat)] n Tryd.f119 [1, 1, 1, 1, 1, 1, 1, 1, 0, 0] [] m11 (St.mk [V.one true (D.str s0), V.one true (D.str s1), V.one true (D.int IntKind.i64 i2), V.one true (D.int IntKind.i64 i3), V.undef, V.undef, V.undef, V.undef, V.undef, V.rw (0 : Nat), V.one true (D.int IntKind.i64 i4), V.undef, V.undef, V.undef, V.undef, V.undef, V.undef, V.undef, V.undef, V.undef, V.undef, V.undef, V.undef, V.undef, V.undef, V.undef, V.undef, V.undef, V.undef, V.undef, V.undef, V.undef, V.undef, V.undef, V.undef, V.undef, V.undef, V.undef, V.undef, V.undef, V.undef, V.undef, V.undef, V.undef, V.undef, V.undef, V.undef, V.undef, V.undef, V.undef, V.undef, V.undef, V.undef, V.undef, V.undef, V.undef, V.undef, V.undef, V.undef, V.undef, V.undef, V.undef, V.undef, V.undef, V.undef, V.undef] [Ob.row false (1 : Nat) l5])
theorem strings_genSplit.l11_eq (n : Nat) (m11 : Nat) (s0 : ByteArray) (s1 : ByteArray) (i2 : Int) (i3 : Int) (i4 : Int) (l5 : List (List D)) :
    strings_genSplit.l11 n (m11 + 1) s0 s1 i2 i3 i4 l5 = bif decide (i4 < i3) then bif decide (ByteArray.size s1 = (1 : Nat)) then bif decide (ixB s0 (hd8 s1) < (0 : Int)) then bif decide ((0 : Int) ≤ i4) then bif decide (i4 < (↑(List.length l5) : Int)) then bif decide ((0 : Int) ≤ IntKind.wrap IntKind.i64 (i4 + (1 : Int))) then bif decide (IntKind.wrap IntKind.i64 (i4 + (1 : Int)) ≤ (↑(List.length (setRow (1 : Nat) l5 (Int.toNat i4) (0 : Nat) [D.str s0])) : Int)) then some [Q.one (D.sl (1 : Nat) (List.take (Int.toNat (IntKind.wrap IntKind.i64 (i4 + (1 : Int))) - (0 : Nat)) (setRow (1 : Nat) l5 (Int.toNat i4) (0 : Nat) [D.str s0])))] else none else none else none else none else bif decide ((0 : Int) ≤ IntKind.wrap IntKind.i64 (ixB s0 (hd8 s1) + i2)) then bif decide (IntKind.wrap IntKind.i64 (ixB s0 (hd8 s1) + i2) ≤ (↑(ByteArray.size s0) : Int)) then bif decide ((0 : Int) ≤ i4) then bif decide (i4 < (↑(List.length l5) : Int)) then bif decide ((0 : Int) ≤ IntKind.wrap IntKind.i64 (ixB s0 (hd8 s1) + (↑(ByteArray.size s1) : Int))) then bif decide (IntKind.wrap IntKind.i64 (ixB s0 (hd8 s1) + (↑(ByteArray.size s1) : Int)) ≤ (↑(ByteArray.size s0) : Int)) then strings_genSplit.l11 n m11 (ByteArray.extract s0 (Int.toNat (IntKind.wrap IntKind.i64 (ixB s0 (hd8 s1) + (↑(ByteArray.size s1) : Int)))) (ByteArray.size s0)) s1 i2 i3 (IntKind.wrap IntKind.i64 (i4 + (1 : Int))) (setRow (1 : Nat) l5 (Int.toNat i4) (0 : Nat) [D.str (ByteArray.extract s0 (0 : Nat) (Int.toNat (IntKind.wrap IntKind.i64 (ixB s0 (hd8 s1) + i2))))]) else none else none else none else none else none else none else none else bif decide ((0 : Int) ≤ i4) then bif decide (i4 < (↑(List.length l5) : Int)) then bif decide ((0 : Int) ≤ IntKind.wrap IntKind.i64 (i4 + (1 : Int))) then bif decide (IntKind.wrap IntKind.i64 (i4 + (1 : Int)) ≤ (↑(List.length (setRow (1 : Nat) l5 (Int.toNat i4) (0 : Nat) [D.str s0])) : Int)) then some [Q.one (D.sl (1 : Nat) (List.take (Int.toNat (IntKind.wrap IntKind.i64 (i4 + (1 : Int))) - (0 : Nat)) (setRow (1 : Nat) l5 (Int.toNat i4) (0 : Nat) [D.str s0])))] else none else none else none else none := by kernel_rfl
noncomputable def strings_genSplit.res (n : Nat) (a0 : ByteArray) (c : UInt8) : Option (List Q) :=
  bif decide ((0 : Int) ≤ min (IntKind.wrap IntKind.i64 ((↑(ctB a0 (hd8 (ByteArray.mk #[c]))) : Int) + (1 : Int))) (IntKind.wrap IntKind.i64 ((↑(ByteArray.size a0) : Int) + (1 : Int)))) then bif decide (min (IntKind.wrap IntKind.i64 ((↑(ctB a0 (hd8 (ByteArray.mk #[c]))) : Int) + (1 : Int))) (IntKind.wrap IntKind.i64 ((↑(ByteArray.size a0) : Int) + (1 : Int))) ≤ min (IntKind.wrap IntKind.i64 ((↑(ctB a0 (hd8 (ByteArray.mk #[c]))) : Int) + (1 : Int))) (IntKind.wrap IntKind.i64 ((↑(ByteArray.size a0) : Int) + (1 : Int)))) then bif decide (min (IntKind.wrap IntKind.i64 ((↑(ctB a0 (hd8 (ByteArray.mk #[c]))) : Int) + (1 : Int))) (IntKind.wrap IntKind.i64 ((↑(ByteArray.size a0) : Int) + (1 : Int))) ≤ (17179869184 : Int)) then strings_genSplit.l11 n n a0 (ByteArray.mk #[c]) (0 : Int) (IntKind.wrap IntKind.i64 (min (IntKind.wrap IntKind.i64 ((↑(ctB a0 (hd8 (ByteArray.mk #[c]))) : Int) + (1 : Int))) (IntKind.wrap IntKind.i64 ((↑(ByteArray.size a0) : Int) + (1 : Int))) - (1 : Int))) (0 : Int) (List.replicate (Int.toNat (min (IntKind.wrap IntKind.i64 ((↑(ctB a0 (hd8 (ByteArray.mk #[c]))) : Int) + (1 : Int))) (IntKind.wrap IntKind.i64 ((↑(ByteArray.size a0) : Int) + (1 : Int))))) [D.str (ByteArray.mk #[])]) else none else none else none
theorem strings_genSplit.run (n : Nat) (a0 : ByteArray) (c : UInt8) :
    run1 strings_genSplit.cfg [RK.own (1 : Nat)] n Tryd.f119 [Q.one (D.str a0), Q.one (D.str (ByteArray.mk #[c])), Q.one (D.int IntKind.i64 (0 : Int)), Q.one (D.int IntKind.i64 (-1 : Int))] = strings_genSplit.res n a0 c := by kernel_rfl
theorem strings_genSplit.ev {n : Nat} {a0 : ByteArray} {c : UInt8} {r : List Q} (h : strings_genSplit.res n a0 c = some r) : Snd Tryd.prog C0 119 [.one (.str a0), .one (.str ⟨#[c]⟩), .one (.int .i64 0), .one (.int .i64 (-1))] r :=
  snd_ev (C := strings_genSplit.cfg) cfg0 mix rfl rfl rfl rfl rfl (.cons strings_Count.ok (.cons strings_Index.ok .nil)) .nil rfl Tryd.func119 (by kernel_rfl) (by kernel_rfl) rfl ((strings_genSplit.run n a0 c).trans h)

theorem strings_genSplit.l11_run {n : Nat} {c : UInt8} {t : ByteArray} (ht : t.size = 1) (hc : hd8 t = c) : ∀ (d m : Nat) (s : ByteArray) (done : List ByteArray) (k : Nat), s.size ≤ d → d < m → s.size ≤ LIM → done.length + s.size ≤ LIM → k + 1 = (spl c (bl s)).length →
    strings_genSplit.l11 n m s t 0 ((done.length + k : Nat) : Int) (done.length : Int) (strC.encs (done ++ List.replicate (k + 1) ⟨#[]⟩)) = some [Q.one (.sl 1 (strC.encs (done ++ (spl c (bl s)).map mkB)))] := by
  intro d
  induction d with
  | zero =>
    intro m s done k hd hm hl hl2 hk
    obtain ⟨m, rfl⟩ : ∃ m', m = m' + 1 := ⟨m - 1, by omega⟩
    have hs : bl s = [] := List.eq_nil_of_length_eq_zero (by rw [bl_len]; omega)
    rw [hs] at hk ⊢
    obtain rfl : k = 0 := by simpa [spl] using hk
    have h1 : ¬ ((done.length : Nat) : Int) < ((done.length + 0 : Nat) : Int) := by omega
    have h2 : ((done.length : Nat) : Int) < ((done.length + (0 + 1) : Nat) : Int) := by omega
    have hss : s = mkB [] := by rw [← mkB_bl s, hs]
    rw [strings_genSplit.l11_eq]
    simp only [h1, h2, decide_false, cond_false, decide_true, cond_true, wrap_succ (show done.length ≤ LIM by omega), Int.natCast_nonneg, Int.toNat_natCast, strC_set, set_fill, Cod.encs_len, List.length_append, List.length_singleton, List.length_replicate, List.replicate_zero, List.append_nil, Nat.le_refl, Nat.sub_zero, Cod.encs_take, Int.le_refl]
    rw [List.take_of_length_le (by simp), hss]
    rfl
  | succ d ih =>
    intro m s done k hd hm hl hl2 hk
    obtain ⟨m, rfl⟩ : ∃ m', m = m' + 1 := ⟨m - 1, by omega⟩
    rcases idx_spl c (bl s) with ⟨e1, e2⟩ | ⟨j, e1, e2, e3⟩
    · rw [e2] at hk ⊢
      obtain rfl : k = 0 := by simpa using hk
      have h1 : ¬ ((done.length : Nat) : Int) < ((done.length + 0 : Nat) : Int) := by omega
      have h2 : ((done.length : Nat) : Int) < ((done.length + (0 + 1) : Nat) : Int) := by omega
      rw [strings_genSplit.l11_eq]
      simp only [h1, h2, decide_false, cond_false, decide_true, cond_true, wrap_succ (show done.length ≤ LIM by omega), Int.natCast_nonneg, Int.toNat_natCast, strC_set, set_fill, Cod.encs_len, List.length_append, List.length_singleton, List.length_replicate, List.replicate_zero, List.append_nil, Nat.le_refl, Nat.sub_zero, Cod.encs_take, Int.le_refl]
      rw [List.take_of_length_le (by simp)]
      simp only [List.map_cons, List.map_nil, mkB_bl]
    · rw [e3] at hk ⊢
      rw [bl_len] at e2
      rw [List.length_cons] at hk
      obtain ⟨k, rfl⟩ : ∃ k', k = k' + 1 := ⟨k - 1, by have := spl_count c ((bl s).drop (j + 1)); omega⟩
      have h1 : ((done.length : Nat) : Int) < ((done.length + (k + 1) : Nat) : Int) := by omega
      have h2 : ((done.length : Nat) : Int) < ((done.length + (k + 1 + 1) : Nat) : Int) := by omega
      have hix : ixB s c = (j : Int) := e1
      have h3 : ¬ ((j : Nat) : Int) < 0 := by omega
      have hw : IntKind.wrap .i64 ((j : Int) + 0) = (j : Int) := by unfold LIM at hl; rw [wrap_in (by omega) (by omega)]; omega
      have hw2 : IntKind.wrap .i64 ((j : Int) + ((1 : Nat) : Int)) = ((j + 1 : Nat) : Int) := by unfold LIM at hl; rw [wrap_in (by omega) (by omega)]; omega
      have h4 : ((j : Nat) : Int) ≤ ((s.size : Nat) : Int) := by omega
      have h5 : ((j + 1 : Nat) : Int) ≤ ((s.size : Nat) : Int) := by omega
      have hsz : (s.extract (j + 1) s.size).size = s.size - (j + 1) := by rw [ByteArray.size_extract]; omega
      have hb : bl (s.extract (j + 1) s.size) = (bl s).drop (j + 1) := by rw [bl_ext, List.take_of_length_le (by rw [List.length_drop, bl_len]; omega)]
      have step := ih m (s.extract (j + 1) s.size) (done ++ [mkB ((bl s).take j)]) k (by omega) (by omega) (by omega) (by rw [List.length_append, List.length_singleton]; omega) (by rw [hb]; omega)
      rw [hb, List.length_append, List.length_singleton, show done.length + 1 + k = done.length + (k + 1) by omega] at step
      rw [strings_genSplit.l11_eq]
      simp only [ht, hc, hix, h1, h2, h3, h4, h5, hw, hw2, decide_false, cond_false, decide_true, cond_true, wrap_succ (show done.length ≤ LIM by omega), Int.natCast_nonneg, Int.toNat_natCast, strC_set, set_fill, Cod.encs_len, List.length_append, List.length_replicate, show s.extract 0 j = mkB ((bl s).take j) from by rw [ext_mkB, List.drop_zero, Nat.sub_zero], step]
      rw [List.map_cons, List.append_assoc]; rfl
def strings_genSplit.stub : Stub
  | [.one (.str s), .one (.str t), .one (.int .i64 a), .one (.int .i64 b)] => .gd (decide (a = 0)) (.gd (decide (b = -1)) (.gd (decide (t.size = 1)) (.gd (decide (s.size < LIM)) (.ret [.one (.sl 1 (strC.encs (Sp.rowsB (Sp.hd8 t) s)))]))))
  | _ => .fail
theorem strings_genSplit.ok : StubOk Tryd.prog C0 119 strings_genSplit.stub := by
  intro args res h
  unfold strings_genSplit.stub at h
  split at h
  · rename_i s t a b
    obtain ⟨h1, h⟩ := gd_out h
    obtain ⟨h2, h⟩ := gd_out h
    obtain ⟨h3, h⟩ := gd_out h
    obtain ⟨h4, h⟩ := gd_out h
    cases h
    obtain rfl := of_decide_eq_true h1
    obtain rfl := of_decide_eq_true h2
    have h3 := of_decide_eq_true h3
    have h4 := of_decide_eq_true h4
    have h5 := one_byte h3
    have hcc : hd8 t = hd8 t := rfl
    generalize hd8 t = c at h5 ⊢
    subst h5
    have hcc : hd8 ⟨#[c]⟩ = c := rfl
    refine strings_genSplit.ev (n := s.size + 1) ?_
    have hct : ctB s c ≤ s.size := by unfold ctB; rw [← bl_len]; exact List.count_le_length
    have hsp : ctB s c + 1 = (spl c (bl s)).length := (spl_count c (bl s)).symm
    have hmin : min (IntKind.wrap .i64 ((ctB s c : Int) + 1)) (IntKind.wrap .i64 ((s.size : Int) + 1)) = ((ctB s c + 1 : Nat) : Int) := by
      rw [wrap_succ (by omega), wrap_succ (by omega)]; omega
    have hw : IntKind.wrap .i64 (((ctB s c + 1 : Nat) : Int) - 1) = ((ctB s c : Nat) : Int) := by unfold LIM at h4; rw [wrap_in (by omega) (by omega)]; omega
    have hl : ((ctB s c + 1 : Nat) : Int) ≤ 17179869184 := by unfold LIM at h4; omega
    have key := strings_genSplit.l11_run (n := s.size + 1) h3 hcc s.size (s.size + 1) s [] (ctB s c) (Nat.le_refl _) (by omega) (by omega) (by simp; omega) hsp
    unfold strings_genSplit.res
    simp only [hcc, hmin, hw, hl, Int.natCast_nonneg, Int.le_refl, decide_true, cond_true, Int.toNat_natCast, strC_rep]
    rw [show rowsB c s = (spl c (bl s)).map mkB from rfl]
    simpa using key
  · cases h
/-! strings_Split -/
noncomputable def strings_Split.cfg : Cfg := { C0 with keep := fun _ => none, nb := 0, M := tabM [(119, strings_genSplit.stub)], MM := tabB [] }
noncomputable def strings_Split.res (n : Nat) (a0 : ByteArray) (a1 : ByteArray) : Option (List Q) :=
  bif decide (ByteArray.size a1 = (1 : Nat)) then bif decide (ByteArray.size a0 < (17179869184 : Nat)) then some [Q.one (D.sl (1 : Nat) (Cod.encs strC (rowsB (hd8 a1) a0)))] else none else none
theorem strings_Split.run (n : Nat) (a0 : ByteArray) (a1 : ByteArray) :
    run1 strings_Split.cfg [RK.own (1 : Nat)] n Tryd.f105 [Q.one (D.str a0), Q.one (D.str a1)] = strings_Split.res n a0 a1 := by kernel_rfl
theorem strings_Split.ev {n : Nat} {a0 : ByteArray} {a1 : ByteArray} {r : List Q} (h : strings_Split.res n a0 a1 = some r) : Snd Tryd.prog C0 105 [.one (.str a0), .one (.str a1)] r :=
  snd_ev (C := strings_Split.cfg) cfg0 mix rfl rfl rfl rfl rfl (.cons strings_genSplit.ok .nil) .nil rfl Tryd.func105 (by kernel_rfl) (by kernel_rfl) rfl ((strings_Split.run n a0 a1).trans h)

def strings_Split.stub : Stub
  | [.one (.str s), .one (.str t)] => .gd (decide (t.size = 1)) (.gd (decide (s.size < LIM)) (.ret [.one (.sl 1 (strC.encs (Sp.rowsB (Sp.hd8 t) s)))]))
  | _ => .fail
theorem strings_Split.ok : StubOk Tryd.prog C0 105 strings_Split.stub := by
  intro args res h
  unfold strings_Split.stub at h
  split at h
  · rename_i s t
    obtain ⟨h1, h⟩ := gd_out h
    obtain ⟨h2, h⟩ := gd_out h
    cases h
    refine strings_Split.ev (n := 0) ?_
    unfold strings_Split.res
    have h2 : s.size < 17179869184 := of_decide_eq_true h2
    simp only [of_decide_eq_true h1, h2, decide_true, cond_true]
  · cases h
/-! spec_diDirs -/
end Go.Proofs.EV.PL
set_option linter.unusedVariables false
set_option linter.unusedSimpArgs false
/-! Boards read by the program. -/
namespace Go.Proofs.EV.PL
open Go Go.Proofs Go.Proofs.EV Sp
/-! impl_rowsOf -/
noncomputable def impl_rowsOf.cfg : Cfg := { C0 with keep := fun | 4 => some [1, 6, 7, 16, 17, 18] | _ => none, nb := 0, M := tabM [(105, strings_Split.stub), (106, strings_Trim.stub), (67, impl_in.stub)], MM := tabB [] }
noncomputable def impl_rowsOf.l4 (n : Nat) (m4 : Nat) (s0 : ByteArray) (i1 : Int) (i2 : Int) (i3 : Int) (l4 : List (List D)) : Option (List Q) :=
  loopAt impl_rowsOf.cfg [RK.own (1 : Nat), RK.one LK.bool] n Tryd.f84 [1, 1, 1, 0, 1, 0] [] m4 (St.mk [V.undef, V.one true (D.str s0), V.undef, V.undef, V.undef, V.undef, V.rw (0 : Nat), V.one true (D.int IntKind.i64 i1), V.undef, V.undef, V.undef, V.undef, V.undef, V.undef, V.undef, V.undef, V.rw (0 : Nat), V.one true (D.int IntKind.i64 i2), V.one true (D.int IntKind.i64 i3), V.undef, V.undef, V.undef, V.undef, V.undef, V.undef, V.undef, V.undef, V.undef, V.undef, V.undef, V.undef, V.undef, V.undef, V.undef, V.undef, V.undef, V.undef, V.undef, V.undef, V.undef, V.undef, V.undef, V.undef, V.undef, V.undef, V.undef, V.undef, V.undef] [Ob.row false (1 : Nat) l4])
theorem impl_rowsOf.l4_eq (n : Nat) (m4 : Nat) (s0 : ByteArray) (i1 : Int) (i2 : Int) (i3 : Int) (l4 : List (List D)) :
    impl_rowsOf.l4 n (m4 + 1) s0 i1 i2 i3 l4 = bif decide (i3 < i2) then bif decide ((0 : Int) ≤ i3) then bif decide (i3 < (↑(List.length l4) : Int)) then Option.bind (Option.bind (some (cellD l4 (Int.toNat i3) (0 : Nat))) D.str?) fun (s2 : ByteArray) => bif (↑(ByteArray.size s2) : Int) != i1 then some [Q.one (D.sl (1 : Nat) []), Q.one (D.bool false)] else bif isLit s0 then bif decide (ByteArray.size s2 ≤ (17179869184 : Nat)) then bif !strEq (TQ.trimDQ (inSet s0) s2) (ByteArray.mk #[]) then some [Q.one (D.sl (1 : Nat) []), Q.one (D.bool false)] else impl_rowsOf.l4 n m4 s0 i1 i2 (IntKind.wrap IntKind.i64 (i3 + (1 : Int))) l4 else none else none else none else none else bif inR (↑(List.length l4) : Int) (1 : Int) (7 : Int) then bif inR i1 (1 : Int) (7 : Int) then some [Q.one (D.sl (1 : Nat) l4), Q.one (D.bool (decide (IntKind.wrap IntKind.i64 (i1 * (↑(List.length l4) : Int)) ≤ (36 : Int))))] else some [Q.one (D.sl (1 : Nat) l4), Q.one (D.bool false)] else some [Q.one (D.sl (1 : Nat) l4), Q.one (D.bool false)] := by kernel_rfl
noncomputable def impl_rowsOf.res (n : Nat) (a0 : ByteArray) (a1 : ByteArray) : Option (List Q) :=
  bif decide (ByteArray.size a0 < (17179869184 : Nat)) then bif decide ((0 : Int) < (↑(List.length (Cod.encs strC (rowsB (hd8 (ByteArray.mk #[(47 : UInt8)])) a0))) : Int)) then Option.bind (Option.bind (some (cellD (Cod.encs strC (rowsB (hd8 (ByteArray.mk #[(47 : UInt8)])) a0)) (Int.toNat (0 : Int)) (0 : Nat))) D.str?) fun (s1 : ByteArray) => impl_rowsOf.l4 n n a1 (↑(ByteArray.size s1) : Int) (↑(List.length (Cod.encs strC (rowsB (hd8 (ByteArray.mk #[(47 : UInt8)])) a0))) : Int) (0 : Int) (Cod.encs strC (rowsB (hd8 (ByteArray.mk #[(47 : UInt8)])) a0)) else none else none
theorem impl_rowsOf.run (n : Nat) (a0 : ByteArray) (a1 : ByteArray) :
    run1 impl_rowsOf.cfg [RK.own (1 : Nat), RK.one LK.bool] n Tryd.f84 [Q.one (D.str a0), Q.one (D.str a1)] = impl_rowsOf.res n a0 a1 := by kernel_rfl
theorem impl_rowsOf.ev {n : Nat} {a0 : ByteArray} {a1 : ByteArray} {r : List Q} (h : impl_rowsOf.res n a0 a1 = some r) : Snd Tryd.prog C0 84 [.one (.str a0), .one (.str a1)] r :=
  snd_ev (C := impl_rowsOf.cfg) cfg0 mix rfl rfl rfl rfl rfl (.cons strings_Split.ok (.cons strings_Trim.ok (.cons impl_in.ok .nil))) .nil rfl Tryd.func84 (by kernel_rfl) (by kernel_rfl) rfl ((impl_rowsOf.run n a0 a1).trans h)

theorem impl_rowsOf.l4_run {n : Nat} {t : ByteArray} {l : List ByteArray} (ht : isLit t = true) (hx : ∀ x ∈ l, x.size ≤ LIM) (hl : l.length ≤ LIM) (h0 : 0 < l.length) : ∀ (d i m : Nat), i + d = l.length → d < m →
    impl_rowsOf.l4 n m t ((wOf (lb l) : Nat) : Int) ((l.length : Nat) : Int) (i : Int) (strC.encs l) = bif okRows (inSet t) (wOf (lb l)) (l.drop i) then some [Q.one (.sl 1 (strC.encs l)), Q.one (.bool (sizeOk (lb l)))] else some [Q.one (.sl 1 []), Q.one (.bool false)] := by
  intro d
  induction d with
  | zero =>
    intro i m hi hm
    obtain ⟨m, rfl⟩ : ∃ m', m = m' + 1 := ⟨m - 1, by omega⟩
    have h1 : ¬ (i : Int) < (l.length : Int) := by omega
    rw [impl_rowsOf.l4_eq, List.drop_of_length_le (by omega)]
    simp only [h1, decide_false, cond_false, Cod.encs_len]
    show _ = some [Q.one (.sl 1 (strC.encs l)), Q.one (.bool (sizeOk (lb l)))]
    unfold sizeOk
    rw [lb_len]
    cases e1 : inR (l.length : Int) 1 7 with
    | false => rfl
    | true =>
      cases e2 : inR (wOf (lb l) : Int) 1 7 with
      | false => rfl
      | true =>
        simp only [cond_true, Bool.true_and]
        have hm : wOf (lb l) * l.length ≤ 49 := by
          unfold inR at e1 e2
          simp only [Bool.and_eq_true, decide_eq_true_eq] at e1 e2
          have a : l.length ≤ 7 := by omega
          have b : wOf (lb l) ≤ 7 := by omega
          exact Nat.mul_le_mul b a
        have e : (wOf (lb l) : Int) * (l.length : Int) = ((wOf (lb l) * l.length : Nat) : Int) := by rw [Int.natCast_mul]
        rw [e, wrap_in (by omega) (by omega)]
        congr 5
        rw [Bool.eq_iff_iff, decide_eq_true_eq, decide_eq_true_eq]
        omega
  | succ d ih =>
    intro i m hi hm
    obtain ⟨m, rfl⟩ : ∃ m', m = m' + 1 := ⟨m - 1, by omega⟩
    have hlt : i < l.length := by omega
    have h1 : (i : Int) < (l.length : Int) := by omega
    have hsz : l[i].size ≤ 17179869184 := hx _ (List.getElem_mem hlt)
    rw [impl_rowsOf.l4_eq, List.drop_eq_getElem_cons hlt, okRows, List.all_cons]
    simp only [h1, hsz, ht, Cod.encs_len, Int.natCast_nonneg, Int.toNat_natCast, decide_true, cond_true, Option.bind_some, strC_cell hlt, wrap_succ (show i ≤ LIM by omega), TQ.trimD_nil, ih (i + 1) m (by omega) (by omega)]
    have e : (((l[i].size : Nat) : Int) != ((wOf (lb l) : Nat) : Int)) = !decide (l[i].size = wOf (lb l)) := by
      rw [bne]
      congr 1
      rw [Bool.eq_iff_iff, beq_iff_eq, decide_eq_true_eq]
      omega
    rw [e, show List.all (l.drop (i + 1)) (fun x => decide (x.size = wOf (lb l)) && TQ.allDirQ (inSet t) x) = okRows (inSet t) (wOf (lb l)) (l.drop (i + 1)) from rfl]
    cases decide (l[i].size = wOf (lb l))
    · rfl
    · cases TQ.allDirQ (inSet t) l[i] <;> rfl
def impl_rowsOf.stub : Stub
  | [.one (.str b), .one (.str t)] => .gd (Sp.isLit t) (.gd (decide (b.size < LIM)) (.ret [.one (.sl 1 (strC.encs (Sp.gridI (Sp.TQ.dirUQ (Sp.inSet t)) b))), .one (.bool (Sp.isBo (Sp.TQ.dirUQ (Sp.inSet t)) b))]))
  | _ => .fail
theorem impl_rowsOf.ok : StubOk Tryd.prog C0 84 impl_rowsOf.stub := by
  intro args res h
  unfold impl_rowsOf.stub at h
  split at h
  · rename_i b t
    obtain ⟨h1, h⟩ := gd_out h
    obtain ⟨h2, h⟩ := gd_out h
    cases h
    have h2 : b.size < 17179869184 := of_decide_eq_true h2
    have hlen : (rowsB 47 b).length = (rws b).length := List.length_map _
    have hn := rws_ne b
    have hle := rows_len b
    have h0 : 0 < (rowsB 47 b).length := by omega
    have h0' : (0 : Int) < (((rowsB 47 b).length : Nat) : Int) := by omega
    have hrun := impl_rowsOf.l4_run (n := b.size + 2) (t := t) (l := rowsB 47 b) h1 (fun x hx => by have := rowsB_row b x hx; unfold LIM; omega) (by unfold LIM; omega) h0 (rowsB 47 b).length 0 (b.size + 2) (by omega) (by omega)
    rw [List.drop_zero, lb_rowsB, okRows_rws] at hrun
    refine impl_rowsOf.ev (n := b.size + 2) ?_
    unfold impl_rowsOf.res
    rw [show hd8 (ByteArray.mk #[47]) = 47 from rfl, show Int.toNat (0 : Int) = 0 from rfl]
    simp only [h2, h0', Cod.encs_len, strC_cell h0, decide_true, cond_true, Option.bind_some]
    rw [show (rowsB 47 b)[0].size = wOf (rws b) by rw [← lb_w h0, lb_rowsB]]
    refine Eq.trans hrun ?_
    unfold gridI isBo
    cases fine (TQ.dirUQ (inSet t)) (rws b) <;> rfl
  · cases h
/-! impl_board -/
noncomputable def impl_board.cfg : Cfg := { C0 with keep := fun _ => none, nb := 0, M := tabM [(84, impl_rowsOf.stub)], MM := tabB [] }
noncomputable def impl_board.res (n : Nat) (a0 : ByteArray) : Option (List Q) :=
  bif decide (ByteArray.size a0 < (17179869184 : Nat)) then some [Q.one (D.sl (1 : Nat) (Cod.encs strC (gridI (TQ.dirUQ (inSet (ByteArray.mk #[(46 : UInt8), (35 : UInt8)]))) a0))), Q.one (D.bool (isBo (TQ.dirUQ (inSet (ByteArray.mk #[(46 : UInt8), (35 : UInt8)]))) a0))] else none
theorem impl_board.run (n : Nat) (a0 : ByteArray) :
    run1 impl_board.cfg [RK.own (1 : Nat), RK.one LK.bool] n Tryd.f49 [Q.one (D.str a0)] = impl_board.res n a0 := by kernel_rfl
theorem impl_board.ev {n : Nat} {a0 : ByteArray} {r : List Q} (h : impl_board.res n a0 = some r) : Snd Tryd.prog C0 49 [.one (.str a0)] r :=
  snd_ev (C := impl_board.cfg) cfg0 mix rfl rfl rfl rfl rfl (.cons impl_rowsOf.ok .nil) .nil rfl Tryd.func49 (by kernel_rfl) (by kernel_rfl) rfl ((impl_board.run n a0).trans h)

def impl_board.stub : Stub
  | [.one (.str b)] => .gd (decide (b.size < LIM)) (.ret [.one (.sl 1 (strC.encs (Sp.gridI Sp.brd b))), .one (.bool (Sp.isBo Sp.brd b))])
  | _ => .fail
theorem impl_board.ok : StubOk Tryd.prog C0 49 impl_board.stub := by
  intro args res h
  unfold impl_board.stub at h
  split at h
  · rename_i b
    obtain ⟨h2, h⟩ := gd_out h
    cases h
    have h2 : b.size < 17179869184 := of_decide_eq_true h2
    refine impl_board.ev (n := 0) ?_
    unfold impl_board.res
    rw [show (ByteArray.mk #[46, 35]) = lit1 from rfl, q_brd]
    simp only [h2, decide_true, cond_true]
  · cases h
/-! impl_grid_has -/
noncomputable def impl_grid_has.cfg : Cfg := { C0 with keep := fun _ => none, nb := 0, M := tabM [(67, impl_in.stub)], MM := tabB [] }
noncomputable def impl_grid_has.res (n : Nat) (a0 : List (List D)) (a1 : Int) (a2 : Int) : Option (List Q) :=
  bif inR a2 (0 : Int) (IntKind.wrap IntKind.i64 ((↑(List.length a0) : Int) - (1 : Int))) then bif decide ((0 : Int) < (↑(List.length a0) : Int)) then Option.bind (Option.bind (some (cellD a0 (Int.toNat (0 : Int)) (0 : Nat))) D.str?) fun (s1 : ByteArray) => some [Q.one (D.bool (inR a1 (0 : Int) (IntKind.wrap IntKind.i64 ((↑(ByteArray.size s1) : Int) - (1 : Int)))))] else none else some [Q.one (D.bool false)]
theorem impl_grid_has.run (n : Nat) (a0 : List (List D)) (a1 : Int) (a2 : Int) :
    run1 impl_grid_has.cfg [RK.one LK.bool] n Tryd.f85 [Q.one (D.sl (1 : Nat) a0), Q.one (D.int IntKind.i64 a1), Q.one (D.int IntKind.i64 a2)] = impl_grid_has.res n a0 a1 a2 := by kernel_rfl
theorem impl_grid_has.ev {n : Nat} {a0 : List (List D)} {a1 : Int} {a2 : Int} {r : List Q} (h : impl_grid_has.res n a0 a1 a2 = some r) : Snd Tryd.prog C0 85 [.one (.sl 1 a0), .one (.int .i64 a1), .one (.int .i64 a2)] r :=
  snd_ev (C := impl_grid_has.cfg) cfg0 mix rfl rfl rfl rfl rfl (.cons impl_in.ok .nil) .nil rfl Tryd.func85 (by kernel_rfl) (by kernel_rfl) rfl ((impl_grid_has.run n a0 a1 a2).trans h)

def impl_grid_has.stub : Stub
  | [.one (.sl 1 es), .one (.int .i64 x), .one (.int .i64 y)] => .any (strC.decs es) fun l => .gd (decide (l.length ≤ LIM)) (.gd (decide (Sp.wOf (Sp.lb l) ≤ LIM)) (.ret [.one (.bool (Sp.inR y 0 ((l.length : Int) - 1) && Sp.inR x 0 ((Sp.wOf (Sp.lb l) : Int) - 1)))]))
  | _ => .fail
theorem impl_grid_has.ok : StubOk Tryd.prog C0 85 impl_grid_has.stub := by
  intro args res h
  unfold impl_grid_has.stub at h
  split at h
  · rename_i es x y
    obtain ⟨l, h1, h0⟩ := any_out h
    obtain ⟨rfl, hl⟩ := Cod.decs_inv h1
    obtain ⟨h2, h0⟩ := gd_out h0
    obtain ⟨h3, h0⟩ := gd_out h0
    cases h0
    have h2 : l.length ≤ 17179869184 := of_decide_eq_true h2
    have h3 : wOf (lb l) ≤ 17179869184 := of_decide_eq_true h3
    refine impl_grid_has.ev (n := 0) ?_
    unfold impl_grid_has.res
    rw [show Int.toNat (0 : Int) = 0 from rfl, Cod.encs_len, wrap_in (x := (l.length : Int) - 1) (by omega) (by omega)]
    cases hy : inR y 0 ((l.length : Int) - 1) with
    | false => rfl
    | true =>
      have h0 : 0 < l.length := by
        unfold inR at hy
        simp only [Bool.and_eq_true, decide_eq_true_eq] at hy
        omega
      have h0' : (0 : Int) < ((l.length : Nat) : Int) := by omega
      simp only [h0', strC_cell h0, decide_true, cond_true, Option.bind_some, ← lb_w h0]
      rw [wrap_in (by omega) (by omega)]; rfl
  · cases h
/-! impl_grid_at -/
noncomputable def impl_grid_at.cfg : Cfg := { C0 with keep := fun _ => none, nb := 0, M := tabM [(85, impl_grid_has.stub)], MM := tabB [] }
noncomputable def impl_grid_at.res (n : Nat) (a0 : List (List D)) (a1 : Int) (a2 : Int) : Option (List Q) :=
  Option.bind (Cod.decs strC a0) fun (l1 : List ByteArray) => bif decide (List.length l1 ≤ (17179869184 : Nat)) then bif decide (wOf (lb l1) ≤ (17179869184 : Nat)) then bif !(inR a2 (0 : Int) ((↑(List.length l1) : Int) - (1 : Int)) && inR a1 (0 : Int) ((↑(wOf (lb l1)) : Int) - (1 : Int))) then some [Q.one (D.int IntKind.u8 (0 : Int))] else bif decide ((0 : Int) ≤ a2) then bif decide (a2 < (↑(List.length a0) : Int)) then Option.bind (Option.bind (some (cellD a0 (Int.toNat a2) (0 : Nat))) D.str?) fun (s2 : ByteArray) => bif decide ((0 : Int) ≤ a1) then bif decide (a1 < (↑(ByteArray.size s2) : Int)) then some [Q.one (D.int IntKind.u8 (byteAt s2 (Int.toNat a1)))] else none else none else none else none else none else none
theorem impl_grid_at.run (n : Nat) (a0 : List (List D)) (a1 : Int) (a2 : Int) :
    run1 impl_grid_at.cfg [RK.one (LK.int IntKind.u8)] n Tryd.f50 [Q.one (D.sl (1 : Nat) a0), Q.one (D.int IntKind.i64 a1), Q.one (D.int IntKind.i64 a2)] = impl_grid_at.res n a0 a1 a2 := by kernel_rfl
theorem impl_grid_at.ev {n : Nat} {a0 : List (List D)} {a1 : Int} {a2 : Int} {r : List Q} (h : impl_grid_at.res n a0 a1 a2 = some r) : Snd Tryd.prog C0 50 [.one (.sl 1 a0), .one (.int .i64 a1), .one (.int .i64 a2)] r :=
  snd_ev (C := impl_grid_at.cfg) cfg0 mix rfl rfl rfl rfl rfl (.cons impl_grid_has.ok .nil) .nil rfl Tryd.func50 (by kernel_rfl) (by kernel_rfl) rfl ((impl_grid_at.run n a0 a1 a2).trans h)

def impl_grid_at.stub : Stub
  | [.one (.sl 1 es), .one (.int .i64 x), .one (.int .i64 y)] => .any (strC.decs es) fun l => .gd (Sp.unif (Sp.lb l)) (.gd (decide (l.length ≤ LIM)) (.gd (decide (Sp.wOf (Sp.lb l) ≤ LIM)) (.ret [.one (.int .u8 (Sp.atZ (Sp.lb l) x y))])))
  | _ => .fail
theorem impl_grid_at.ok : StubOk Tryd.prog C0 50 impl_grid_at.stub := by
  intro args res h
  unfold impl_grid_at.stub at h
  split at h
  · rename_i es x y
    obtain ⟨l, h1, h0⟩ := any_out h
    obtain ⟨rfl, hl⟩ := Cod.decs_inv h1
    obtain ⟨hu, h0⟩ := gd_out h0
    obtain ⟨h2, h0⟩ := gd_out h0
    obtain ⟨h3, h0⟩ := gd_out h0
    cases h0
    have h2 : l.length ≤ 17179869184 := of_decide_eq_true h2
    have h3 : wOf (lb l) ≤ 17179869184 := of_decide_eq_true h3
    refine impl_grid_at.ev (n := 0) ?_
    unfold impl_grid_at.res atZ
    simp only [h1, h2, h3, decide_true, cond_true, Option.bind_some, Cod.encs_len, lb_len]
    cases hh : inR y 0 ((l.length : Int) - 1) && inR x 0 ((wOf (lb l) : Int) - 1) with
    | false => rfl
    | true =>
      unfold inR at hh
      simp only [Bool.and_eq_true, decide_eq_true_eq] at hh
      obtain ⟨⟨a1, a2⟩, a3, a4⟩ := hh
      have hy : y.toNat < l.length := by omega
      have hw := lb_wget hu hy
      have hx : x.toNat < (bl l[y.toNat]).length := by rw [bl_len, hw]; omega
      have b2 : y < (l.length : Int) := by omega
      have b4 : x < ((l[y.toNat].size : Nat) : Int) := by rw [hw]; omega
      simp only [a1, a3, b2, b4, strC_cell hy, decide_true, cond_true, Bool.not_true, cond_false, Option.bind_some, byteAt_bl hx, lb_get hy]
      rw [List.getD_eq_getElem?_getD, List.getElem?_eq_getElem hx]; rfl
  · cases h
/-! impl_grid_isState -/
noncomputable def impl_grid_isState.cfg : Cfg := { C0 with keep := fun _ => none, nb := 0, M := tabM [(50, impl_grid_at.stub), (110, impl_IsDie.stub)], MM := tabB [] }
noncomputable def impl_grid_isState.res (n : Nat) (a0 : List (List D)) (a1_0 : Int) (a1_1 : Int) (a1_2 : Int) (a1_3 : Int) (a1_4 : Int) (a1_5 : Int) (a1_6 : Int) (a1_7 : Int) : Option (List Q) :=
  bif Die.good (Die.mk a1_2 a1_3 a1_4 a1_5 a1_6 a1_7) then Option.bind (Cod.decs strC a0) fun (l1 : List ByteArray) => bif unif (lb l1) then bif decide (List.length l1 ≤ (17179869184 : Nat)) then bif decide (wOf (lb l1) ≤ (17179869184 : Nat)) then some [Q.one (D.bool (atZ (lb l1) a1_0 a1_1 == (46 : Int)))] else none else none else none else some [Q.one (D.bool false)]
theorem impl_grid_isState.run (n : Nat) (a0 : List (List D)) (a1_0 : Int) (a1_1 : Int) (a1_2 : Int) (a1_3 : Int) (a1_4 : Int) (a1_5 : Int) (a1_6 : Int) (a1_7 : Int) :
    run1 impl_grid_isState.cfg [RK.one LK.bool] n Tryd.f99 [Q.one (D.sl (1 : Nat) a0), Q.agg [D.int IntKind.i64 a1_0, D.int IntKind.i64 a1_1, D.int IntKind.i64 a1_2, D.int IntKind.i64 a1_3, D.int IntKind.i64 a1_4, D.int IntKind.i64 a1_5, D.int IntKind.i64 a1_6, D.int IntKind.i64 a1_7]] = impl_grid_isState.res n a0 a1_0 a1_1 a1_2 a1_3 a1_4 a1_5 a1_6 a1_7 := by kernel_rfl
theorem impl_grid_isState.ev {n : Nat} {a0 : List (List D)} {a1_0 : Int} {a1_1 : Int} {a1_2 : Int} {a1_3 : Int} {a1_4 : Int} {a1_5 : Int} {a1_6 : Int} {a1_7 : Int} {r : List Q} (h : impl_grid_isState.res n a0 a1_0 a1_1 a1_2 a1_3 a1_4 a1_5 a1_6 a1_7 = some r) : Snd Tryd.prog C0 99 [.one (.sl 1 a0), .agg [.int .i64 a1_0, .int .i64 a1_1, .int .i64 a1_2, .int .i64 a1_3, .int .i64 a1_4, .int .i64 a1_5, .int .i64 a1_6, .int .i64 a1_7]] r :=
  snd_ev (C := impl_grid_isState.cfg) cfg0 mix rfl rfl rfl rfl rfl (.cons impl_grid_at.ok (.cons impl_IsDie.ok .nil)) .nil rfl Tryd.func99 (by kernel_rfl) (by kernel_rfl) rfl ((impl_grid_isState.run n a0 a1_0 a1_1 a1_2 a1_3 a1_4 a1_5 a1_6 a1_7).trans h)

def impl_grid_isState.stub : Stub
  | [.one (.sl 1 es), .agg [.int .i64 x, .int .i64 y, .int .i64 t, .int .i64 n, .int .i64 e, .int .i64 s, .int .i64 w, .int .i64 b]] => .any (strC.decs es) fun l => .gd (Sp.unif (Sp.lb l)) (.gd (decide (l.length ≤ LIM)) (.gd (decide (Sp.wOf (Sp.lb l) ≤ LIM)) (.ret [.one (.bool (Sp.Die.good ⟨t, n, e, s, w, b⟩ && Sp.isFl (Sp.lb l) x y))])))
  | _ => .fail
theorem impl_grid_isState.ok : StubOk Tryd.prog C0 99 impl_grid_isState.stub := by
  intro args res h
  unfold impl_grid_isState.stub at h
  split at h
  · rename_i es x y t n e s w b
    obtain ⟨l, h1, h0⟩ := any_out h
    obtain ⟨rfl, hl⟩ := Cod.decs_inv h1
    obtain ⟨hu, h0⟩ := gd_out h0
    obtain ⟨h2, h0⟩ := gd_out h0
    obtain ⟨h3, h0⟩ := gd_out h0
    cases h0
    have h2 : l.length ≤ 17179869184 := of_decide_eq_true h2
    have h3 : wOf (lb l) ≤ 17179869184 := of_decide_eq_true h3
    refine impl_grid_isState.ev (n := 0) ?_
    unfold impl_grid_isState.res isFl
    simp only [h1, h2, h3, hu, decide_true, cond_true, Option.bind_some]
    cases Die.good ⟨t, n, e, s, w, b⟩ <;> rfl
  · cases h
/-! impl_onBoard -/
noncomputable def impl_onBoard.cfg : Cfg := { C0 with keep := fun _ => none, nb := 0, M := tabM [(49, impl_board.stub), (99, impl_grid_isState.stub)], MM := tabB [] }
noncomputable def impl_onBoard.res (n : Nat) (a0 : ByteArray) (a1_0 : Int) (a1_1 : Int) (a1_2 : Int) (a1_3 : Int) (a1_4 : Int) (a1_5 : Int) (a1_6 : Int) (a1_7 : Int) : Option (List Q) :=
  bif decide (ByteArray.size a0 < (17179869184 : Nat)) then bif isBo brd a0 then Option.bind (Cod.decs strC (Cod.encs strC (gridI brd a0))) fun (l1 : List ByteArray) => bif unif (lb l1) then bif decide (List.length l1 ≤ (17179869184 : Nat)) then bif decide (wOf (lb l1) ≤ (17179869184 : Nat)) then some [Q.one (D.sl (1 : Nat) (Cod.encs strC (gridI brd a0))), Q.one (D.bool (Die.good (Die.mk a1_2 a1_3 a1_4 a1_5 a1_6 a1_7) && isFl (lb l1) a1_0 a1_1))] else none else none else none else some [Q.one (D.sl (1 : Nat) (Cod.encs strC (gridI brd a0))), Q.one (D.bool false)] else none
theorem impl_onBoard.run (n : Nat) (a0 : ByteArray) (a1_0 : Int) (a1_1 : Int) (a1_2 : Int) (a1_3 : Int) (a1_4 : Int) (a1_5 : Int) (a1_6 : Int) (a1_7 : Int) :
    run1 impl_onBoard.cfg [RK.own (1 : Nat), RK.one LK.bool] n Tryd.f73 [Q.one (D.str a0), Q.agg [D.int IntKind.i64 a1_0, D.int IntKind.i64 a1_1, D.int IntKind.i64 a1_2, D.int IntKind.i64 a1_3, D.int IntKind.i64 a1_4, D.int IntKind.i64 a1_5, D.int IntKind.i64 a1_6, D.int IntKind.i64 a1_7]] = impl_onBoard.res n a0 a1_0 a1_1 a1_2 a1_3 a1_4 a1_5 a1_6 a1_7 := by kernel_rfl
theorem impl_onBoard.ev {n : Nat} {a0 : ByteArray} {a1_0 : Int} {a1_1 : Int} {a1_2 : Int} {a1_3 : Int} {a1_4 : Int} {a1_5 : Int} {a1_6 : Int} {a1_7 : Int} {r : List Q} (h : impl_onBoard.res n a0 a1_0 a1_1 a1_2 a1_3 a1_4 a1_5 a1_6 a1_7 = some r) : Snd Tryd.prog C0 73 [.one (.str a0), .agg [.int .i64 a1_0, .int .i64 a1_1, .int .i64 a1_2, .int .i64 a1_3, .int .i64 a1_4, .int .i64 a1_5, .int .i64 a1_6, .int .i64 a1_7]] r :=
  snd_ev (C := impl_onBoard.cfg) cfg0 mix rfl rfl rfl rfl rfl (.cons impl_board.ok (.cons impl_grid_isState.ok .nil)) .nil rfl Tryd.func73 (by kernel_rfl) (by kernel_rfl) rfl ((impl_onBoard.run n a0 a1_0 a1_1 a1_2 a1_3 a1_4 a1_5 a1_6 a1_7).trans h)

def impl_onBoard.stub : Stub
  | [.one (.str q), .agg [.int .i64 x, .int .i64 y, .int .i64 t, .int .i64 n, .int .i64 e, .int .i64 s, .int .i64 w, .int .i64 b]] => .gd (decide (q.size < LIM)) (.ret [.one (.sl 1 (strC.encs (Sp.gridI Sp.brd q))), .one (.bool (Sp.isBo Sp.brd q && (Sp.Die.good ⟨t, n, e, s, w, b⟩ && Sp.isFl (Sp.rws q) x y)))])
  | _ => .fail
theorem impl_onBoard.ok : StubOk Tryd.prog C0 73 impl_onBoard.stub := by
  intro args res h
  unfold impl_onBoard.stub at h
  split at h
  · rename_i q x y t n e s w b
    obtain ⟨h2, h⟩ := gd_out h
    cases h
    have h2 : q.size < 17179869184 := of_decide_eq_true h2
    refine impl_onBoard.ev (n := 0) ?_
    unfold impl_onBoard.res
    cases hb : isBo brd q with
    | false => simp only [h2, decide_true, cond_true, cond_false, Bool.false_and]
    | true =>
      obtain ⟨k1, k2, k3, k4⟩ := isBo_fine hb
      have hr := bl_rows brd q hb
      have hlen : (gridI brd q).length = (rws q).length := by rw [← hr, lb_len]
      have k5 : (gridI brd q).length ≤ 17179869184 := by omega
      have k6 : wOf (rws q) ≤ 17179869184 := by omega
      simp only [h2, decide_true, cond_true, Bool.true_and, Cod.decs_encs (c := strC) (l := gridI brd q) (by unfold LIM; omega), Option.bind_some, hr, k1, k5, k6]
  · cases h
end Go.Proofs.EV.PL
set_option linter.unusedVariables false
set_option linter.unusedSimpArgs false
/-! Boards read by the reference. -/
namespace Go.Proofs.EV.PL
open Go Go.Proofs Go.Proofs.EV Sp
/-! spec_boRead -/
noncomputable def spec_boRead.cfg : Cfg := { C0 with keep := fun | 6 => some [0, 2, 4, 5, 6] | _ => none, nb := 0, M := tabM [], MM := tabB [] }
noncomputable def spec_boRead.l6 (n : Nat) (m6 : Nat) (s0 : ByteArray) (i1 : Int) (i2 : Int) (i3 : Int) (i4 : Int) (l5 : List (List D)) (i6 : Int) (i7 : Int) (l8 : List (List D)) : Option (List Q) :=
  loopAt spec_boRead.cfg [RK.agg [LK.int IntKind.i64, LK.int IntKind.i64, LK.sl (1 : Nat)], RK.one LK.bool] n Tryd.f47 [1, 1, 1, 1, 0, 1, 0] [] m6 (St.mk [V.one true (D.str s0), V.undef, V.rp (0 : Nat) (0 : Nat), V.undef, V.rp (2 : Nat) (0 : Nat), V.one true (D.int IntKind.i64 i1), V.one true (D.int IntKind.i64 i2), V.undef, V.undef, V.undef, V.undef, V.undef, V.undef, V.undef, V.undef, V.undef, V.undef, V.undef, V.undef, V.undef, V.undef, V.undef, V.undef, V.undef, V.undef, V.undef, V.undef, V.undef, V.undef, V.undef, V.undef, V.undef, V.undef, V.undef, V.undef, V.undef, V.undef, V.undef, V.undef, V.undef, V.undef, V.undef, V.undef, V.undef, V.undef, V.undef, V.undef, V.undef, V.undef, V.undef, V.undef, V.undef, V.undef, V.undef, V.undef, V.undef, V.undef, V.undef, V.undef, V.undef, V.undef, V.undef, V.undef, V.undef, V.undef, V.undef, V.undef, V.undef, V.undef, V.undef, V.undef, V.undef, V.undef, V.undef, V.undef, V.undef, V.undef, V.undef, V.undef, V.undef, V.undef, V.undef, V.undef, V.undef, V.undef] [Ob.box [V.one true (D.int IntKind.i64 i3), V.one true (D.int IntKind.i64 i4), V.rw (1 : Nat)], Ob.row false (1 : Nat) l5, Ob.box [V.one true (D.int IntKind.i64 i6), V.one true (D.int IntKind.i64 i7), V.rw (3 : Nat)], Ob.row false (1 : Nat) l8])
theorem spec_boRead.l6_eq (n : Nat) (m6 : Nat) (s0 : ByteArray) (i1 : Int) (i2 : Int) (i3 : Int) (i4 : Int) (l5 : List (List D)) (i6 : Int) (i7 : Int) (l8 : List (List D)) :
    spec_boRead.l6 n (m6 + 1) s0 i1 i2 i3 i4 l5 i6 i7 l8 = bif decide (i2 ≤ (↑(ByteArray.size s0) : Int)) then bif decide (i2 < (↑(ByteArray.size s0) : Int)) then bif decide ((0 : Int) ≤ i2) then bif decide (i2 < (↑(ByteArray.size s0) : Int)) then bif byteAt s0 (Int.toNat i2) != (47 : Int) then bif decide ((0 : Int) ≤ i2) then bif decide (i2 < (↑(ByteArray.size s0) : Int)) then bif byteAt s0 (Int.toNat i2) != (46 : Int) then bif decide ((0 : Int) ≤ i2) then bif decide (i2 < (↑(ByteArray.size s0) : Int)) then bif byteAt s0 (Int.toNat i2) != (35 : Int) then some [Q.agg [D.int IntKind.i64 (0 : Int), D.int IntKind.i64 (0 : Int), D.sl (1 : Nat) []], Q.one (D.bool false)] else bif decide ((0 : Int) ≤ i2) then bif decide (i2 < (↑(ByteArray.size s0) : Int)) then bif decide (List.length l8 + (1 : Nat) ≤ (17179869184 : Nat)) then spec_boRead.l6 n m6 s0 (IntKind.wrap IntKind.i64 (i1 + (1 : Int))) (IntKind.wrap IntKind.i64 (i2 + (1 : Int))) i3 i4 l5 i6 i7 (l8 ++ [[D.int IntKind.u8 (byteAt s0 (Int.toNat i2))]]) else none else none else none else none else none else bif decide ((0 : Int) ≤ i2) then bif decide (i2 < (↑(ByteArray.size s0) : Int)) then bif decide (List.length l8 + (1 : Nat) ≤ (17179869184 : Nat)) then spec_boRead.l6 n m6 s0 (IntKind.wrap IntKind.i64 (i1 + (1 : Int))) (IntKind.wrap IntKind.i64 (i2 + (1 : Int))) i3 i4 l5 i6 i7 (l8 ++ [[D.int IntKind.u8 (byteAt s0 (Int.toNat i2))]]) else none else none else none else none else none else bif decide (i7 > (0 : Int)) then bif i1 != i6 then some [Q.agg [D.int IntKind.i64 (0 : Int), D.int IntKind.i64 (0 : Int), D.sl (1 : Nat) []], Q.one (D.bool false)] else bif i1 == (0 : Int) then some [Q.agg [D.int IntKind.i64 (0 : Int), D.int IntKind.i64 (0 : Int), D.sl (1 : Nat) []], Q.one (D.bool false)] else spec_boRead.l6 n m6 s0 (0 : Int) (IntKind.wrap IntKind.i64 (i2 + (1 : Int))) i3 i4 l5 i1 (IntKind.wrap IntKind.i64 (i7 + (1 : Int))) l8 else bif i1 == (0 : Int) then some [Q.agg [D.int IntKind.i64 (0 : Int), D.int IntKind.i64 (0 : Int), D.sl (1 : Nat) []], Q.one (D.bool false)] else spec_boRead.l6 n m6 s0 (0 : Int) (IntKind.wrap IntKind.i64 (i2 + (1 : Int))) i3 i4 l5 i1 (IntKind.wrap IntKind.i64 (i7 + (1 : Int))) l8 else none else none else bif decide (i7 > (0 : Int)) then bif i1 != i6 then some [Q.agg [D.int IntKind.i64 (0 : Int), D.int IntKind.i64 (0 : Int), D.sl (1 : Nat) []], Q.one (D.bool false)] else bif i1 == (0 : Int) then some [Q.agg [D.int IntKind.i64 (0 : Int), D.int IntKind.i64 (0 : Int), D.sl (1 : Nat) []], Q.one (D.bool false)] else spec_boRead.l6 n m6 s0 (0 : Int) (IntKind.wrap IntKind.i64 (i2 + (1 : Int))) i3 i4 l5 i1 (IntKind.wrap IntKind.i64 (i7 + (1 : Int))) l8 else bif i1 == (0 : Int) then some [Q.agg [D.int IntKind.i64 (0 : Int), D.int IntKind.i64 (0 : Int), D.sl (1 : Nat) []], Q.one (D.bool false)] else spec_boRead.l6 n m6 s0 (0 : Int) (IntKind.wrap IntKind.i64 (i2 + (1 : Int))) i3 i4 l5 i1 (IntKind.wrap IntKind.i64 (i7 + (1 : Int))) l8 else bif decide (i6 > (7 : Int)) then some [Q.agg [D.int IntKind.i64 (0 : Int), D.int IntKind.i64 (0 : Int), D.sl (1 : Nat) []], Q.one (D.bool false)] else bif decide (i7 > (7 : Int)) then some [Q.agg [D.int IntKind.i64 (0 : Int), D.int IntKind.i64 (0 : Int), D.sl (1 : Nat) []], Q.one (D.bool false)] else bif decide ((↑(List.length l8) : Int) > (36 : Int)) then some [Q.agg [D.int IntKind.i64 (0 : Int), D.int IntKind.i64 (0 : Int), D.sl (1 : Nat) []], Q.one (D.bool false)] else some [Q.agg [D.int IntKind.i64 i6, D.int IntKind.i64 i7, D.sl (1 : Nat) l8], Q.one (D.bool true)] := by kernel_rfl
noncomputable def spec_boRead.res (n : Nat) (a0 : ByteArray) : Option (List Q) :=
  bif decide ((↑(ByteArray.size a0) : Int) > (42 : Int)) then some [Q.agg [D.int IntKind.i64 (0 : Int), D.int IntKind.i64 (0 : Int), D.sl (1 : Nat) []], Q.one (D.bool false)] else spec_boRead.l6 n n a0 (0 : Int) (0 : Int) (0 : Int) (0 : Int) [] (0 : Int) (0 : Int) []
theorem spec_boRead.run (n : Nat) (a0 : ByteArray) :
    run1 spec_boRead.cfg [RK.agg [LK.int IntKind.i64, LK.int IntKind.i64, LK.sl (1 : Nat)], RK.one LK.bool] n Tryd.f47 [Q.one (D.str a0)] = spec_boRead.res n a0 := by kernel_rfl
theorem spec_boRead.ev {n : Nat} {a0 : ByteArray} {r : List Q} (h : spec_boRead.res n a0 = some r) : Snd Tryd.prog C0 47 [.one (.str a0)] r :=
  snd_ev (C := spec_boRead.cfg) cfg0 mix rfl rfl rfl rfl rfl .nil .nil rfl Tryd.func47 (by kernel_rfl) (by kernel_rfl) rfl ((spec_boRead.run n a0).trans h)

theorem boEnd (w h : Nat) (cs : List UInt8) : (bif decide ((w : Int) > 7) then some zeroB else bif decide ((h : Int) > 7) then some zeroB else bif decide (((u8C.encs cs).length : Int) > 36) then some zeroB else some [Q.agg [.int .i64 w, .int .i64 h, .sl 1 (u8C.encs cs)], .one (.bool true)]) = some (outB (some (w, h, cs))) := by
  rw [Cod.encs_len]
  show _ = some (bif _ then _ else _)
  by_cases h1 : w ≤ 7
  · by_cases h2 : h ≤ 7
    · by_cases h3 : cs.length ≤ 36
      · have k1 : ¬ (w : Int) > 7 := by omega
        have k2 : ¬ (h : Int) > 7 := by omega
        have k3 : ¬ (cs.length : Int) > 36 := by omega
        simp only [h1, h2, h3, k1, k2, k3, decide_true, decide_false, cond_true, cond_false, Bool.and_self]
      · have k1 : ¬ (w : Int) > 7 := by omega
        have k2 : ¬ (h : Int) > 7 := by omega
        have k3 : (cs.length : Int) > 36 := by omega
        simp only [h1, h2, h3, k1, k2, k3, decide_true, decide_false, cond_true, cond_false, Bool.and_false]
    · have k1 : ¬ (w : Int) > 7 := by omega
      have k2 : (h : Int) > 7 := by omega
      simp only [h1, h2, k1, k2, decide_true, decide_false, cond_true, cond_false, Bool.and_false, Bool.false_and]
  · have k1 : (w : Int) > 7 := by omega
    simp only [h1, k1, decide_true, decide_false, cond_true, cond_false, Bool.and_false, Bool.false_and]
theorem bne_nat (a b : Nat) : ((a : Int) != (b : Int)) = decide (a ≠ b) := by
  rw [bne, Bool.eq_iff_iff]
  simp only [Bool.not_eq_true', beq_eq_false_iff_ne, decide_eq_true_eq]
  omega
theorem beq_zero (a : Nat) : ((a : Int) == 0) = decide (a = 0) := by
  rw [Bool.eq_iff_iff, beq_iff_eq, decide_eq_true_eq]
  omega
theorem gt_zero (a : Nat) : decide ((a : Int) > 0) = decide (0 < a) := by
  rw [Bool.eq_iff_iff, decide_eq_true_eq, decide_eq_true_eq]
  omega
theorem spec_boRead.l6_run {n : Nat} {s : ByteArray} (hs : s.size ≤ 42) : ∀ (d i m x w h : Nat) (cs : List UInt8), i + d = s.size → d + 1 < m → x ≤ i → h ≤ i → cs.length ≤ i →
    spec_boRead.l6 n m s (x : Int) (i : Int) 0 0 [] (w : Int) (h : Int) (u8C.encs cs) = some (outB (rdGo brd ((bl s).drop i) x w h cs)) := by
  intro d
  induction d with
  | zero =>
    intro i m x w h cs hi hm hx hh hcs
    obtain ⟨m, rfl⟩ : ∃ m', m = m' + 1 + 1 := ⟨m - 2, by omega⟩
    have h1 : (i : Int) ≤ ((s.size : Nat) : Int) := by omega
    have h2 : ¬ (i : Int) < ((s.size : Nat) : Int) := by omega
    have h3 : ¬ ((i + 1 : Nat) : Int) ≤ ((s.size : Nat) : Int) := by omega
    rw [spec_boRead.l6_eq, List.drop_of_length_le (by rw [bl_len]; omega), rdGo]
    have e : spec_boRead.l6 n (m + 1) s 0 ((i + 1 : Nat) : Int) 0 0 [] (x : Int) ((h + 1 : Nat) : Int) (u8C.encs cs) = some (outB (some (x, h + 1, cs))) := by
      rw [spec_boRead.l6_eq, ← boEnd x (h + 1) cs]
      simp only [h3, decide_false, cond_false]
      rfl
    simp only [h1, h2, decide_true, decide_false, cond_true, cond_false, wrap_succ (show i ≤ LIM by unfold LIM; omega), wrap_succ (show h ≤ LIM by unfold LIM; omega), e]
    rw [gt_zero, bne_nat, beq_zero]
    rw [show ∀ b, outB (bif b then none else some (x, h + 1, cs)) = bif b then zeroB else outB (some (x, h + 1, cs)) from fun b => by cases b <;> rfl]
    clear e
    generalize outB (some (x, h + 1, cs)) = z
    unfold badN
    cases decide (0 < h) <;> cases decide (x ≠ w) <;> cases decide (x = 0) <;> rfl
  | succ d ih =>
    intro i m x w h cs hi hm hx hh hcs
    obtain ⟨m, rfl⟩ : ∃ m', m = m' + 1 := ⟨m - 1, by omega⟩
    have hlt : i < (bl s).length := by rw [bl_len]; omega
    have h1 : (i : Int) ≤ ((s.size : Nat) : Int) := by omega
    have h2 : (i : Int) < ((s.size : Nat) : Int) := by omega
    have h4 : cs.length + 1 ≤ 17179869184 := by omega
    rw [spec_boRead.l6_eq, List.drop_eq_getElem_cons hlt, rdGo]
    have step := ih (i + 1) m (x + 1) w h (cs ++ [(bl s)[i]]) (by omega) (by omega) (by omega) (by omega) (by rw [List.length_append, List.length_singleton]; omega)
    have step2 : spec_boRead.l6 n m s 0 ((i + 1 : Nat) : Int) 0 0 [] (x : Int) ((h + 1 : Nat) : Int) (u8C.encs cs) = _ := ih (i + 1) m 0 x (h + 1) cs (by omega) (by omega) (by omega) (by omega) (by omega)
    simp only [h1, h2, h4, Cod.encs_len, Int.natCast_nonneg, Int.toNat_natCast, decide_true, cond_true, byteAt_bl hlt,
      wrap_succ (show i ≤ LIM by unfold LIM; omega), wrap_succ (show h ≤ LIM by unfold LIM; omega), wrap_succ (show x ≤ LIM by unfold LIM; omega), u8C_snoc, step, step2]
    clear step step2 ih
    rw [u8bne (bl s)[i] 47 (k := 47) rfl, u8bne (bl s)[i] 46 (k := 46) rfl, u8bne (bl s)[i] 35 (k := 35) rfl, gt_zero, bne_nat, beq_zero]
    unfold brd
    generalize rdGo _ _ (x + 1) _ _ _ = z1
    generalize rdGo _ _ 0 _ _ _ = z2
    cases (bl s)[i] == 47
    · cases (bl s)[i] == 46
      · cases (bl s)[i] == 35 <;> rfl
      · rfl
    · unfold badN
      cases decide (0 < h) <;> cases decide (x ≠ w) <;> cases decide (x = 0) <;> rfl
def spec_boRead.stub : Stub
  | [.one (.str b)] => .ret [.agg [.int .i64 (Sp.boW Sp.brd b : Nat), .int .i64 (Sp.boH Sp.brd b : Nat), .sl 1 (u8C.encs (Sp.boC Sp.brd b))], .one (.bool (Sp.isBo Sp.brd b))]
  | _ => .fail
theorem spec_boRead.ok : StubOk Tryd.prog C0 47 spec_boRead.stub := by
  intro args res h
  unfold spec_boRead.stub at h
  split at h
  · rename_i s
    cases h
    obtain ⟨N, hN⟩ : ∃ N, 44 ≤ N := ⟨44, Nat.le_refl _⟩
    refine spec_boRead.ev (n := N) ?_
    unfold spec_boRead.res
    by_cases hs : s.size ≤ 42
    · have h1 : ¬ ((s.size : Nat) : Int) > 42 := by omega
      simp only [h1, decide_false, cond_false]
      rw [← out_rd]
      have key := spec_boRead.l6_run (n := N) hs s.size 0 N 0 0 0 [] (by omega) (by omega) (by omega) (by omega) (by simp)
      rw [List.drop_zero] at key
      exact key
    · have h1 : ((s.size : Nat) : Int) > 42 := by omega
      simp only [h1, decide_true, cond_true]
      rw [out_zero (isBo_big (by omega))]; rfl
  · cases h
end Go.Proofs.EV.PL
set_option linter.unusedVariables false
set_option linter.unusedSimpArgs false
/-! Boards read by the reference. -/
namespace Go.Proofs.EV.PL
open Go Go.Proofs Go.Proofs.EV Sp
end Go.Proofs.EV.PL
set_option linter.unusedVariables false
set_option linter.unusedSimpArgs false
/-! Boards read by the reference. -/
namespace Go.Proofs.EV.PL
open Go Go.Proofs Go.Proofs.EV Sp
end Go.Proofs.EV.PL
set_option linter.unusedVariables false
set_option linter.unusedSimpArgs false
/-! States on boards; desks; puzzles. -/
namespace Go.Proofs.EV.PL
open Go Go.Proofs Go.Proofs.EV Sp
theorem szNeg (k : Nat) : decide ((bif decide (k ≤ 1048576) then (1048576 - (k : Int)) else -1) < 0) = !decide (k ≤ 1048576) := by
  by_cases h : k ≤ 1048576
  · simp only [h, decide_true, cond_true, Bool.not_true, decide_eq_false_iff_not]
    omega
  · simp only [h, decide_false, cond_false, Bool.not_false, decide_eq_true_eq]
    omega
theorem inR_out {x a b : Int} (h : inR x a b = true) : a ≤ x ∧ x ≤ b := by
  unfold inR at h
  simpa only [Bool.and_eq_true, decide_eq_true_eq] using h
/-! spec_boCell -/
noncomputable def spec_boCell.cfg : Cfg := { C0 with keep := fun _ => none, nb := 0, M := tabM [(64, spec_l1In.stub)], MM := tabB [] }
noncomputable def spec_boCell.res (n : Nat) (a0_0 : Int) (a0_1 : Int) (a0_2 : List (List D)) (a1 : Int) (a2 : Int) : Option (List Q) :=
  bif inR a1 (0 : Int) (IntKind.wrap IntKind.i64 (a0_0 - (1 : Int))) then some [Q.one (D.bool (inR a2 (0 : Int) (IntKind.wrap IntKind.i64 (a0_1 - (1 : Int)))))] else some [Q.one (D.bool false)]
theorem spec_boCell.run (n : Nat) (a0_0 : Int) (a0_1 : Int) (a0_2 : List (List D)) (a1 : Int) (a2 : Int) :
    run1 spec_boCell.cfg [RK.one LK.bool] n Tryd.f108 [Q.agg [D.int IntKind.i64 a0_0, D.int IntKind.i64 a0_1, D.sl (1 : Nat) a0_2], Q.one (D.int IntKind.i64 a1), Q.one (D.int IntKind.i64 a2)] = spec_boCell.res n a0_0 a0_1 a0_2 a1 a2 := by kernel_rfl
theorem spec_boCell.ev {n : Nat} {a0_0 : Int} {a0_1 : Int} {a0_2 : List (List D)} {a1 : Int} {a2 : Int} {r : List Q} (h : spec_boCell.res n a0_0 a0_1 a0_2 a1 a2 = some r) : Snd Tryd.prog C0 108 [.agg [.int .i64 a0_0, .int .i64 a0_1, .sl 1 a0_2], .one (.int .i64 a1), .one (.int .i64 a2)] r :=
  snd_ev (C := spec_boCell.cfg) cfg0 mix rfl rfl rfl rfl rfl (.cons spec_l1In.ok .nil) .nil rfl Tryd.func108 (by kernel_rfl) (by kernel_rfl) rfl ((spec_boCell.run n a0_0 a0_1 a0_2 a1 a2).trans h)

def spec_boCell.stub : Stub
  | [.agg [.int .i64 w, .int .i64 h, .sl 1 _], .one (.int .i64 x), .one (.int .i64 y)] => .gd (Sp.inR w 0 7) (.gd (Sp.inR h 0 7) (.ret [.one (.bool (Sp.inR x 0 (w - 1) && Sp.inR y 0 (h - 1)))]))
  | _ => .fail
theorem spec_boCell.ok : StubOk Tryd.prog C0 108 spec_boCell.stub := by
  intro args res h
  unfold spec_boCell.stub at h
  split at h
  · rename_i w g es x y
    obtain ⟨h1, h⟩ := gd_out h
    obtain ⟨h2, h⟩ := gd_out h
    cases h
    obtain ⟨k1, k2⟩ := inR_out h1
    obtain ⟨k3, k4⟩ := inR_out h2
    refine spec_boCell.ev (n := 0) ?_
    unfold spec_boCell.res
    rw [wrap_in (x := w - 1) (by omega) (by omega), wrap_in (x := g - 1) (by omega) (by omega)]
    cases inR x 0 (w - 1) <;> rfl
  · cases h
/-! spec_boFloor -/
noncomputable def spec_boFloor.cfg : Cfg := { C0 with keep := fun _ => none, nb := 0, M := tabM [(108, spec_boCell.stub)], MM := tabB [] }
noncomputable def spec_boFloor.res (n : Nat) (a0_0 : Int) (a0_1 : Int) (a0_2 : List (List D)) (a1 : Int) (a2 : Int) : Option (List Q) :=
  bif inR a0_0 (0 : Int) (7 : Int) then bif inR a0_1 (0 : Int) (7 : Int) then bif inR a1 (0 : Int) (a0_0 - (1 : Int)) && inR a2 (0 : Int) (a0_1 - (1 : Int)) then bif decide ((0 : Int) ≤ IntKind.wrap IntKind.i64 (IntKind.wrap IntKind.i64 (a2 * a0_0) + a1)) then bif decide (IntKind.wrap IntKind.i64 (IntKind.wrap IntKind.i64 (a2 * a0_0) + a1) < (↑(List.length a0_2) : Int)) then Option.bind (Option.bind (some (cellD a0_2 (Int.toNat (IntKind.wrap IntKind.i64 (IntKind.wrap IntKind.i64 (a2 * a0_0) + a1))) (0 : Nat))) (D.int? IntKind.u8)) fun (i1 : Int) => some [Q.one (D.bool (i1 == (46 : Int)))] else none else none else some [Q.one (D.bool false)] else none else none
theorem spec_boFloor.run (n : Nat) (a0_0 : Int) (a0_1 : Int) (a0_2 : List (List D)) (a1 : Int) (a2 : Int) :
    run1 spec_boFloor.cfg [RK.one LK.bool] n Tryd.f88 [Q.agg [D.int IntKind.i64 a0_0, D.int IntKind.i64 a0_1, D.sl (1 : Nat) a0_2], Q.one (D.int IntKind.i64 a1), Q.one (D.int IntKind.i64 a2)] = spec_boFloor.res n a0_0 a0_1 a0_2 a1 a2 := by kernel_rfl
theorem spec_boFloor.ev {n : Nat} {a0_0 : Int} {a0_1 : Int} {a0_2 : List (List D)} {a1 : Int} {a2 : Int} {r : List Q} (h : spec_boFloor.res n a0_0 a0_1 a0_2 a1 a2 = some r) : Snd Tryd.prog C0 88 [.agg [.int .i64 a0_0, .int .i64 a0_1, .sl 1 a0_2], .one (.int .i64 a1), .one (.int .i64 a2)] r :=
  snd_ev (C := spec_boFloor.cfg) cfg0 mix rfl rfl rfl rfl rfl (.cons spec_boCell.ok .nil) .nil rfl Tryd.func88 (by kernel_rfl) (by kernel_rfl) rfl ((spec_boFloor.run n a0_0 a0_1 a0_2 a1 a2).trans h)

def spec_boFloor.stub : Stub
  | [.agg [.int .i64 w, .int .i64 h, .sl 1 es], .one (.int .i64 x), .one (.int .i64 y)] => .any (u8C.decs es) fun cs => .gd (Sp.inR w 0 7) (.gd (Sp.inR h 0 7) (.gd (decide (cs.length = w.toNat * h.toNat)) (.ret [.one (.bool (Sp.inR x 0 (w - 1) && Sp.inR y 0 (h - 1) && Sp.isDot cs (y.toNat * w.toNat + x.toNat)))])))
  | _ => .fail
theorem spec_boFloor.ok : StubOk Tryd.prog C0 88 spec_boFloor.stub := by
  intro args res h
  unfold spec_boFloor.stub at h
  split at h
  · rename_i w g es x y
    obtain ⟨cs, h1, h0⟩ := any_out h
    obtain ⟨rfl, hl⟩ := Cod.decs_inv h1
    obtain ⟨h2, h0⟩ := gd_out h0
    obtain ⟨h3, h0⟩ := gd_out h0
    obtain ⟨h4, h0⟩ := gd_out h0
    cases h0
    have h4 := of_decide_eq_true h4
    obtain ⟨k1, k2⟩ := inR_out h2
    obtain ⟨k3, k4⟩ := inR_out h3
    refine spec_boFloor.ev (n := 0) ?_
    unfold spec_boFloor.res
    rw [h2, h3]
    cases hh : inR x 0 (w - 1) && inR y 0 (g - 1) with
    | false => rfl
    | true =>
      rw [Bool.and_eq_true] at hh
      obtain ⟨a1, a2⟩ := inR_out hh.1
      obtain ⟨b1, b2⟩ := inR_out hh.2
      obtain ⟨w, rfl⟩ : ∃ n : Nat, w = (n : Int) := ⟨w.toNat, by omega⟩
      obtain ⟨g, rfl⟩ : ∃ n : Nat, g = (n : Int) := ⟨g.toNat, by omega⟩
      obtain ⟨x, rfl⟩ : ∃ n : Nat, x = (n : Int) := ⟨x.toNat, by omega⟩
      obtain ⟨y, rfl⟩ : ∃ n : Nat, y = (n : Int) := ⟨y.toNat, by omega⟩
      simp only [Int.toNat_natCast] at h4 ⊢
      have hy : y * w + x < w * g := by
        have e1 : y * w + x < (y + 1) * w := by rw [Nat.add_mul]; omega
        have e2 : (y + 1) * w ≤ g * w := Nat.mul_le_mul_right _ (by omega)
        rw [Nat.mul_comm w g]; omega
      have hb : w * g ≤ 49 := by
        have := Nat.mul_le_mul (show w ≤ 7 by omega) (show g ≤ 7 by omega)
        omega
      have hm : IntKind.wrap .i64 ((y : Int) * (w : Int)) = ((y * w : Nat) : Int) := by
        rw [← Int.natCast_mul, wrap_in (by omega) (by omega)]
      have hn : IntKind.wrap .i64 (((y * w : Nat) : Int) + (x : Int)) = ((y * w + x : Nat) : Int) := by
        rw [← Int.natCast_add, wrap_in (by omega) (by omega)]
      have hlt : y * w + x < cs.length := by omega
      have hlt' : ((y * w + x : Nat) : Int) < ((cs.length : Nat) : Int) := by omega
      simp only [cond_true, hm, hn, Cod.encs_len, hlt', Int.natCast_nonneg, Int.toNat_natCast, decide_true, u8C_cell hlt, Option.bind_some, Bool.true_and]
      unfold isDot
      rw [List.getD_eq_getElem?_getD, List.getElem?_eq_getElem hlt]
      rfl
  · cases h
/-! spec_boState -/
noncomputable def spec_boState.cfg : Cfg := { C0 with keep := fun _ => none, nb := 0, M := tabM [(88, spec_boFloor.stub), (102, spec_diGood.stub)], MM := tabB [] }
noncomputable def spec_boState.res (n : Nat) (a0_0 : Int) (a0_1 : Int) (a0_2 : List (List D)) (a1_0 : Int) (a1_1 : Int) (a1_2 : Int) (a1_3 : Int) (a1_4 : Int) (a1_5 : Int) (a1_6 : Int) (a1_7 : Int) : Option (List Q) :=
  Option.bind (Cod.decs u8C a0_2) fun (l1 : List UInt8) => bif inR a0_0 (0 : Int) (7 : Int) then bif inR a0_1 (0 : Int) (7 : Int) then bif decide (List.length l1 = Int.toNat a0_0 * Int.toNat a0_1) then bif inR a1_0 (0 : Int) (a0_0 - (1 : Int)) && inR a1_1 (0 : Int) (a0_1 - (1 : Int)) && isDot l1 (Int.toNat a1_1 * Int.toNat a0_0 + Int.toNat a1_0) then some [Q.one (D.bool (Die.good (Die.mk a1_2 a1_3 a1_4 a1_5 a1_6 a1_7)))] else some [Q.one (D.bool false)] else none else none else none
theorem spec_boState.run (n : Nat) (a0_0 : Int) (a0_1 : Int) (a0_2 : List (List D)) (a1_0 : Int) (a1_1 : Int) (a1_2 : Int) (a1_3 : Int) (a1_4 : Int) (a1_5 : Int) (a1_6 : Int) (a1_7 : Int) :
    run1 spec_boState.cfg [RK.one LK.bool] n Tryd.f78 [Q.agg [D.int IntKind.i64 a0_0, D.int IntKind.i64 a0_1, D.sl (1 : Nat) a0_2], Q.agg [D.int IntKind.i64 a1_0, D.int IntKind.i64 a1_1, D.int IntKind.i64 a1_2, D.int IntKind.i64 a1_3, D.int IntKind.i64 a1_4, D.int IntKind.i64 a1_5, D.int IntKind.i64 a1_6, D.int IntKind.i64 a1_7]] = spec_boState.res n a0_0 a0_1 a0_2 a1_0 a1_1 a1_2 a1_3 a1_4 a1_5 a1_6 a1_7 := by kernel_rfl
theorem spec_boState.ev {n : Nat} {a0_0 : Int} {a0_1 : Int} {a0_2 : List (List D)} {a1_0 : Int} {a1_1 : Int} {a1_2 : Int} {a1_3 : Int} {a1_4 : Int} {a1_5 : Int} {a1_6 : Int} {a1_7 : Int} {r : List Q} (h : spec_boState.res n a0_0 a0_1 a0_2 a1_0 a1_1 a1_2 a1_3 a1_4 a1_5 a1_6 a1_7 = some r) : Snd Tryd.prog C0 78 [.agg [.int .i64 a0_0, .int .i64 a0_1, .sl 1 a0_2], .agg [.int .i64 a1_0, .int .i64 a1_1, .int .i64 a1_2, .int .i64 a1_3, .int .i64 a1_4, .int .i64 a1_5, .int .i64 a1_6, .int .i64 a1_7]] r :=
  snd_ev (C := spec_boState.cfg) cfg0 mix rfl rfl rfl rfl rfl (.cons spec_boFloor.ok (.cons spec_diGood.ok .nil)) .nil rfl Tryd.func78 (by kernel_rfl) (by kernel_rfl) rfl ((spec_boState.run n a0_0 a0_1 a0_2 a1_0 a1_1 a1_2 a1_3 a1_4 a1_5 a1_6 a1_7).trans h)

def spec_boState.stub : Stub
  | [.agg [.int .i64 gw, .int .i64 gh, .sl 1 es], .agg [.int .i64 x, .int .i64 y, .int .i64 t, .int .i64 n, .int .i64 e, .int .i64 s, .int .i64 w, .int .i64 b]] => .any (u8C.decs es) fun cs => .gd (Sp.inR gw 0 7) (.gd (Sp.inR gh 0 7) (.gd (decide (cs.length = gw.toNat * gh.toNat)) (.ret [.one (.bool (Sp.inR x 0 (gw - 1) && Sp.inR y 0 (gh - 1) && Sp.isDot cs (y.toNat * gw.toNat + x.toNat) && Sp.Die.good ⟨t, n, e, s, w, b⟩))])))
  | _ => .fail
theorem spec_boState.ok : StubOk Tryd.prog C0 78 spec_boState.stub := by
  intro args res h
  unfold spec_boState.stub at h
  split at h
  · rename_i gw g es x y t n e s w b
    obtain ⟨cs, h1, h0⟩ := any_out h
    obtain ⟨h2, h0⟩ := gd_out h0
    obtain ⟨h3, h0⟩ := gd_out h0
    obtain ⟨h4, h0⟩ := gd_out h0
    cases h0
    refine spec_boState.ev (n := 0) ?_
    unfold spec_boState.res
    rw [h1]
    simp only [Option.bind_some, h2, h3, h4, cond_true]
    cases (inR x 0 (gw - 1) && inR y 0 (g - 1) && isDot cs (y.toNat * gw.toNat + x.toNat)) <;> rfl
  · cases h
theorem bo_ok {q : ByteArray} {p : UInt8 → Bool} (hb : isBo p q = true) : boC p q = (rws q).flatten ∧ boW p q = wOf (rws q) ∧ boH p q = (rws q).length ∧ inR (boW p q : Int) 0 7 = true ∧ inR (boH p q : Int) 0 7 = true ∧ (boC p q).length = boW p q * boH p q ∧ (boC p q).length ≤ LIM := by
  obtain ⟨k1, k2, k3, k4⟩ := isBo_fine hb
  have e1 : boC p q = (rws q).flatten := by unfold boC; rw [hb]; rfl
  have e2 : boW p q = wOf (rws q) := by unfold boW; rw [hb]; rfl
  have e3 : boH p q = (rws q).length := by unfold boH; rw [hb]; rfl
  have e4 : (boC p q).length = boW p q * boH p q := by rw [e1, e2, e3, flat_len k1]
  refine ⟨e1, e2, e3, ?_, ?_, e4, ?_⟩
  · unfold inR
    rw [e2, Bool.and_eq_true, decide_eq_true_eq, decide_eq_true_eq]; omega
  · unfold inR
    rw [e3, Bool.and_eq_true, decide_eq_true_eq, decide_eq_true_eq]; omega
  · rw [e4, e2, e3]; unfold LIM; omega
theorem bo_fl {q : ByteArray} {p : UInt8 → Bool} (hb : isBo p q = true) (x y : Int) : (inR x 0 ((boW p q : Int) - 1) && inR y 0 ((boH p q : Int) - 1) && isDot (boC p q) (y.toNat * (boW p q : Int).toNat + x.toNat)) = isFl (rws q) x y := by
  obtain ⟨e1, e2, e3, _, _, _, _⟩ := bo_ok hb
  obtain ⟨k1, _, _, _⟩ := isBo_fine hb
  rw [isFl_cells k1, e1, e2, e3, Int.toNat_natCast]
  rfl
/-! spec_boAsked -/
noncomputable def spec_boAsked.cfg : Cfg := { C0 with keep := fun _ => none, nb := 0, M := tabM [(47, spec_boRead.stub), (78, spec_boState.stub)], MM := tabB [] }
noncomputable def spec_boAsked.res (n : Nat) (a0 : ByteArray) (a1_0 : Int) (a1_1 : Int) (a1_2 : Int) (a1_3 : Int) (a1_4 : Int) (a1_5 : Int) (a1_6 : Int) (a1_7 : Int) : Option (List Q) :=
  bif isBo brd a0 then Option.bind (Cod.decs u8C (Cod.encs u8C (boC brd a0))) fun (l1 : List UInt8) => bif inR (↑(boW brd a0) : Int) (0 : Int) (7 : Int) then bif inR (↑(boH brd a0) : Int) (0 : Int) (7 : Int) then bif decide (List.length l1 = Int.toNat (↑(boW brd a0) : Int) * Int.toNat (↑(boH brd a0) : Int)) then some [Q.agg [D.int IntKind.i64 (↑(boW brd a0) : Int), D.int IntKind.i64 (↑(boH brd a0) : Int), D.sl (1 : Nat) (Cod.encs u8C (boC brd a0))], Q.one (D.bool (inR a1_0 (0 : Int) ((↑(boW brd a0) : Int) - (1 : Int)) && inR a1_1 (0 : Int) ((↑(boH brd a0) : Int) - (1 : Int)) && isDot l1 (Int.toNat a1_1 * Int.toNat (↑(boW brd a0) : Int) + Int.toNat a1_0) && Die.good (Die.mk a1_2 a1_3 a1_4 a1_5 a1_6 a1_7)))] else none else none else none else some [Q.agg [D.int IntKind.i64 (↑(boW brd a0) : Int), D.int IntKind.i64 (↑(boH brd a0) : Int), D.sl (1 : Nat) (Cod.encs u8C (boC brd a0))], Q.one (D.bool false)]
theorem spec_boAsked.run (n : Nat) (a0 : ByteArray) (a1_0 : Int) (a1_1 : Int) (a1_2 : Int) (a1_3 : Int) (a1_4 : Int) (a1_5 : Int) (a1_6 : Int) (a1_7 : Int) :
    run1 spec_boAsked.cfg [RK.agg [LK.int IntKind.i64, LK.int IntKind.i64, LK.sl (1 : Nat)], RK.one LK.bool] n Tryd.f42 [Q.one (D.str a0), Q.agg [D.int IntKind.i64 a1_0, D.int IntKind.i64 a1_1, D.int IntKind.i64 a1_2, D.int IntKind.i64 a1_3, D.int IntKind.i64 a1_4, D.int IntKind.i64 a1_5, D.int IntKind.i64 a1_6, D.int IntKind.i64 a1_7]] = spec_boAsked.res n a0 a1_0 a1_1 a1_2 a1_3 a1_4 a1_5 a1_6 a1_7 := by kernel_rfl
theorem spec_boAsked.ev {n : Nat} {a0 : ByteArray} {a1_0 : Int} {a1_1 : Int} {a1_2 : Int} {a1_3 : Int} {a1_4 : Int} {a1_5 : Int} {a1_6 : Int} {a1_7 : Int} {r : List Q} (h : spec_boAsked.res n a0 a1_0 a1_1 a1_2 a1_3 a1_4 a1_5 a1_6 a1_7 = some r) : Snd Tryd.prog C0 42 [.one (.str a0), .agg [.int .i64 a1_0, .int .i64 a1_1, .int .i64 a1_2, .int .i64 a1_3, .int .i64 a1_4, .int .i64 a1_5, .int .i64 a1_6, .int .i64 a1_7]] r :=
  snd_ev (C := spec_boAsked.cfg) cfg0 mix rfl rfl rfl rfl rfl (.cons spec_boRead.ok (.cons spec_boState.ok .nil)) .nil rfl Tryd.func42 (by kernel_rfl) (by kernel_rfl) rfl ((spec_boAsked.run n a0 a1_0 a1_1 a1_2 a1_3 a1_4 a1_5 a1_6 a1_7).trans h)

def spec_boAsked.stub : Stub
  | [.one (.str q), .agg [.int .i64 x, .int .i64 y, .int .i64 t, .int .i64 n, .int .i64 e, .int .i64 s, .int .i64 w, .int .i64 b]] => .ret [.agg [.int .i64 (Sp.boW Sp.brd q : Nat), .int .i64 (Sp.boH Sp.brd q : Nat), .sl 1 (u8C.encs (Sp.boC Sp.brd q))], .one (.bool (Sp.isBo Sp.brd q && (Sp.Die.good ⟨t, n, e, s, w, b⟩ && Sp.isFl (Sp.rws q) x y)))]
  | _ => .fail
theorem spec_boAsked.ok : StubOk Tryd.prog C0 42 spec_boAsked.stub := by
  intro args res h
  unfold spec_boAsked.stub at h
  split at h
  · rename_i q x y t n e s w b
    cases h
    refine spec_boAsked.ev (n := 0) ?_
    unfold spec_boAsked.res
    cases hb : isBo brd q with
    | false => rfl
    | true =>
      obtain ⟨e1, e2, e3, e4, e5, e6, e7⟩ := bo_ok hb
      have e6' : (boC brd q).length = (boW brd q : Int).toNat * (boH brd q : Int).toNat := by rw [Int.toNat_natCast, Int.toNat_natCast, e6]
      simp only [cond_true, Cod.decs_encs e7, Option.bind_some, e4, e5, decide_eq_true e6', bo_fl hb, Bool.true_and]
      rw [Bool.and_comm (isFl (rws q) x y)]
  · cases h
/-! spec_puGood -/
noncomputable def spec_puGood.cfg : Cfg := { C0 with keep := fun _ => none, nb := 0, M := tabM [(42, spec_boAsked.stub), (88, spec_boFloor.stub), (64, spec_l1In.stub)], MM := tabB [] }
noncomputable def spec_puGood.res (n : Nat) (a0_0 : ByteArray) (a0_1 : Int) (a0_2 : Int) (a0_3 : Int) (a0_4 : Int) (a0_5 : Int) (a0_6 : Int) (a0_7 : Int) (a0_8 : Int) (a0_9 : Int) (a0_10 : Int) (a0_11 : Int) : Option (List Q) :=
  bif isBo brd a0_0 && (Die.good (Die.mk a0_3 a0_4 a0_5 a0_6 a0_7 a0_8) && isFl (rws a0_0) a0_1 a0_2) then Option.bind (Cod.decs u8C (Cod.encs u8C (boC brd a0_0))) fun (l1 : List UInt8) => bif inR (↑(boW brd a0_0) : Int) (0 : Int) (7 : Int) then bif inR (↑(boH brd a0_0) : Int) (0 : Int) (7 : Int) then bif decide (List.length l1 = Int.toNat (↑(boW brd a0_0) : Int) * Int.toNat (↑(boH brd a0_0) : Int)) then bif inR a0_9 (0 : Int) ((↑(boW brd a0_0) : Int) - (1 : Int)) && inR a0_10 (0 : Int) ((↑(boH brd a0_0) : Int) - (1 : Int)) && isDot l1 (Int.toNat a0_10 * Int.toNat (↑(boW brd a0_0) : Int) + Int.toNat a0_9) then some [Q.one (D.bool (inR a0_11 (0 : Int) (9 : Int)))] else some [Q.one (D.bool false)] else none else none else none else some [Q.one (D.bool false)]
theorem spec_puGood.run (n : Nat) (a0_0 : ByteArray) (a0_1 : Int) (a0_2 : Int) (a0_3 : Int) (a0_4 : Int) (a0_5 : Int) (a0_6 : Int) (a0_7 : Int) (a0_8 : Int) (a0_9 : Int) (a0_10 : Int) (a0_11 : Int) :
    run1 spec_puGood.cfg [RK.one LK.bool] n Tryd.f55 [Q.agg [D.str a0_0, D.int IntKind.i64 a0_1, D.int IntKind.i64 a0_2, D.int IntKind.i64 a0_3, D.int IntKind.i64 a0_4, D.int IntKind.i64 a0_5, D.int IntKind.i64 a0_6, D.int IntKind.i64 a0_7, D.int IntKind.i64 a0_8, D.int IntKind.i64 a0_9, D.int IntKind.i64 a0_10, D.int IntKind.i64 a0_11]] = spec_puGood.res n a0_0 a0_1 a0_2 a0_3 a0_4 a0_5 a0_6 a0_7 a0_8 a0_9 a0_10 a0_11 := by kernel_rfl
theorem spec_puGood.ev {n : Nat} {a0_0 : ByteArray} {a0_1 : Int} {a0_2 : Int} {a0_3 : Int} {a0_4 : Int} {a0_5 : Int} {a0_6 : Int} {a0_7 : Int} {a0_8 : Int} {a0_9 : Int} {a0_10 : Int} {a0_11 : Int} {r : List Q} (h : spec_puGood.res n a0_0 a0_1 a0_2 a0_3 a0_4 a0_5 a0_6 a0_7 a0_8 a0_9 a0_10 a0_11 = some r) : Snd Tryd.prog C0 55 [.agg [.str a0_0, .int .i64 a0_1, .int .i64 a0_2, .int .i64 a0_3, .int .i64 a0_4, .int .i64 a0_5, .int .i64 a0_6, .int .i64 a0_7, .int .i64 a0_8, .int .i64 a0_9, .int .i64 a0_10, .int .i64 a0_11]] r :=
  snd_ev (C := spec_puGood.cfg) cfg0 mix rfl rfl rfl rfl rfl (.cons spec_boAsked.ok (.cons spec_boFloor.ok (.cons spec_l1In.ok .nil))) .nil rfl Tryd.func55 (by kernel_rfl) (by kernel_rfl) rfl ((spec_puGood.run n a0_0 a0_1 a0_2 a0_3 a0_4 a0_5 a0_6 a0_7 a0_8 a0_9 a0_10 a0_11).trans h)

def spec_puGood.stub : Stub
  | [.agg [.str q, .int .i64 x, .int .i64 y, .int .i64 t, .int .i64 n, .int .i64 e, .int .i64 s, .int .i64 w, .int .i64 b, .int .i64 px, .int .i64 py, .int .i64 pt]] => .ret [.one (.bool (Sp.isBo Sp.brd q && (Sp.Die.good ⟨t, n, e, s, w, b⟩ && Sp.isFl (Sp.rws q) x y) && (Sp.isFl (Sp.rws q) px py && Sp.inR pt 0 9)))]
  | _ => .fail
theorem spec_puGood.ok : StubOk Tryd.prog C0 55 spec_puGood.stub := by
  intro args res h
  unfold spec_puGood.stub at h
  split at h
  · rename_i q x y t n e s w b px py pt
    cases h
    refine spec_puGood.ev (n := 0) ?_
    unfold spec_puGood.res
    cases hh : isBo brd q && (Die.good ⟨t, n, e, s, w, b⟩ && isFl (rws q) x y) with
    | false => rfl
    | true =>
      have hb : isBo brd q = true := by
        rw [Bool.and_eq_true] at hh
        exact hh.1
      obtain ⟨e1, e2, e3, e4, e5, e6, e7⟩ := bo_ok hb
      have e6' : (boC brd q).length = (boW brd q : Int).toNat * (boH brd q : Int).toNat := by rw [Int.toNat_natCast, Int.toNat_natCast, e6]
      simp only [cond_true, Cod.decs_encs e7, Option.bind_some, e4, e5, decide_eq_true e6', bo_fl hb, Bool.true_and]
      cases isFl (rws q) px py <;> rfl
  · cases h
/-! impl_IsPuzzle -/
noncomputable def impl_IsPuzzle.cfg : Cfg := { C0 with keep := fun _ => none, nb := 0, M := tabM [(73, impl_onBoard.stub), (50, impl_grid_at.stub), (67, impl_in.stub)], MM := tabB [] }
noncomputable def impl_IsPuzzle.res (n : Nat) (a0_0 : ByteArray) (a0_1 : Int) (a0_2 : Int) (a0_3 : Int) (a0_4 : Int) (a0_5 : Int) (a0_6 : Int) (a0_7 : Int) (a0_8 : Int) (a0_9 : Int) (a0_10 : Int) (a0_11 : Int) : Option (List Q) :=
  bif decide (ByteArray.size a0_0 < (17179869184 : Nat)) then bif isBo brd a0_0 && (Die.good (Die.mk a0_3 a0_4 a0_5 a0_6 a0_7 a0_8) && isFl (rws a0_0) a0_1 a0_2) then Option.bind (Cod.decs strC (Cod.encs strC (gridI brd a0_0))) fun (l1 : List ByteArray) => bif unif (lb l1) then bif decide (List.length l1 ≤ (17179869184 : Nat)) then bif decide (wOf (lb l1) ≤ (17179869184 : Nat)) then bif atZ (lb l1) a0_9 a0_10 == (46 : Int) then some [Q.one (D.bool (inR a0_11 (0 : Int) (9 : Int)))] else some [Q.one (D.bool false)] else none else none else none else some [Q.one (D.bool false)] else none
theorem impl_IsPuzzle.run (n : Nat) (a0_0 : ByteArray) (a0_1 : Int) (a0_2 : Int) (a0_3 : Int) (a0_4 : Int) (a0_5 : Int) (a0_6 : Int) (a0_7 : Int) (a0_8 : Int) (a0_9 : Int) (a0_10 : Int) (a0_11 : Int) :
    run1 impl_IsPuzzle.cfg [RK.one LK.bool] n Tryd.f40 [Q.agg [D.str a0_0, D.int IntKind.i64 a0_1, D.int IntKind.i64 a0_2, D.int IntKind.i64 a0_3, D.int IntKind.i64 a0_4, D.int IntKind.i64 a0_5, D.int IntKind.i64 a0_6, D.int IntKind.i64 a0_7, D.int IntKind.i64 a0_8, D.int IntKind.i64 a0_9, D.int IntKind.i64 a0_10, D.int IntKind.i64 a0_11]] = impl_IsPuzzle.res n a0_0 a0_1 a0_2 a0_3 a0_4 a0_5 a0_6 a0_7 a0_8 a0_9 a0_10 a0_11 := by kernel_rfl
theorem impl_IsPuzzle.ev {n : Nat} {a0_0 : ByteArray} {a0_1 : Int} {a0_2 : Int} {a0_3 : Int} {a0_4 : Int} {a0_5 : Int} {a0_6 : Int} {a0_7 : Int} {a0_8 : Int} {a0_9 : Int} {a0_10 : Int} {a0_11 : Int} {r : List Q} (h : impl_IsPuzzle.res n a0_0 a0_1 a0_2 a0_3 a0_4 a0_5 a0_6 a0_7 a0_8 a0_9 a0_10 a0_11 = some r) : Snd Tryd.prog C0 40 [.agg [.str a0_0, .int .i64 a0_1, .int .i64 a0_2, .int .i64 a0_3, .int .i64 a0_4, .int .i64 a0_5, .int .i64 a0_6, .int .i64 a0_7, .int .i64 a0_8, .int .i64 a0_9, .int .i64 a0_10, .int .i64 a0_11]] r :=
  snd_ev (C := impl_IsPuzzle.cfg) cfg0 mix rfl rfl rfl rfl rfl (.cons impl_onBoard.ok (.cons impl_grid_at.ok (.cons impl_in.ok .nil))) .nil rfl Tryd.func40 (by kernel_rfl) (by kernel_rfl) rfl ((impl_IsPuzzle.run n a0_0 a0_1 a0_2 a0_3 a0_4 a0_5 a0_6 a0_7 a0_8 a0_9 a0_10 a0_11).trans h)

def impl_IsPuzzle.stub : Stub
  | [.agg [.str q, .int .i64 x, .int .i64 y, .int .i64 t, .int .i64 n, .int .i64 e, .int .i64 s, .int .i64 w, .int .i64 b, .int .i64 px, .int .i64 py, .int .i64 pt]] => .gd (decide (q.size < LIM)) (.ret [.one (.bool (Sp.isBo Sp.brd q && (Sp.Die.good ⟨t, n, e, s, w, b⟩ && Sp.isFl (Sp.rws q) x y) && (Sp.isFl (Sp.rws q) px py && Sp.inR pt 0 9)))])
  | _ => .fail
theorem gr_ok {q : ByteArray} {p : UInt8 → Bool} (hb : isBo p q = true) : lb (gridI p q) = rws q ∧ unif (rws q) = true ∧ (gridI p q).length ≤ 7 ∧ wOf (rws q) ≤ 7 ∧ strC.decs (strC.encs (gridI p q)) = some (gridI p q) ∧ (gridI p q).length = (rws q).length := by
  obtain ⟨k1, k2, k3, k4⟩ := isBo_fine hb
  have hr := bl_rows p q hb
  have hlen : (gridI p q).length = (rws q).length := by rw [← hr, lb_len]
  exact ⟨hr, k1, by omega, by omega, Cod.decs_encs (by unfold LIM; omega), hlen⟩
theorem impl_IsPuzzle.ok : StubOk Tryd.prog C0 40 impl_IsPuzzle.stub := by
  intro args res h
  unfold impl_IsPuzzle.stub at h
  split at h
  · rename_i q x y t n e s w b px py pt
    obtain ⟨h1, h0⟩ := gd_out h
    cases h0
    unfold LIM at h1
    refine impl_IsPuzzle.ev (n := 0) ?_
    unfold impl_IsPuzzle.res
    rw [h1]
    cases hh : isBo brd q && (Die.good ⟨t, n, e, s, w, b⟩ && isFl (rws q) x y) with
    | false => rfl
    | true =>
      have hb : isBo brd q = true := by
        rw [Bool.and_eq_true] at hh
        exact hh.1
      obtain ⟨k1, k2, k3, k4, k5, k6⟩ := gr_ok hb
      have k3' : (gridI brd q).length ≤ 17179869184 := by omega
      have k4' : wOf (rws q) ≤ 17179869184 := by omega
      simp only [cond_true, k5, Option.bind_some, k1, k2, k3', k4', decide_true, Bool.true_and]
      rw [show (atZ (rws q) px py == 46) = isFl (rws q) px py from rfl]
      cases isFl (rws q) px py <;> rfl
  · cases h
/-! laws_toDie -/
noncomputable def laws_toDie.cfg : Cfg := { C0 with keep := fun _ => none, nb := 0, M := tabM [], MM := tabB [] }
noncomputable def laws_toDie.res (n : Nat) (a0_0 : Int) (a0_1 : Int) (a0_2 : Int) (a0_3 : Int) (a0_4 : Int) (a0_5 : Int) : Option (List Q) :=
  some [Q.agg [D.int IntKind.i64 a0_0, D.int IntKind.i64 a0_1, D.int IntKind.i64 a0_2, D.int IntKind.i64 a0_3, D.int IntKind.i64 a0_4, D.int IntKind.i64 a0_5]]
theorem laws_toDie.run (n : Nat) (a0_0 : Int) (a0_1 : Int) (a0_2 : Int) (a0_3 : Int) (a0_4 : Int) (a0_5 : Int) :
    run1 laws_toDie.cfg [RK.agg [LK.int IntKind.i64, LK.int IntKind.i64, LK.int IntKind.i64, LK.int IntKind.i64, LK.int IntKind.i64, LK.int IntKind.i64]] n Tryd.f44 [Q.agg [D.int IntKind.i64 a0_0, D.int IntKind.i64 a0_1, D.int IntKind.i64 a0_2, D.int IntKind.i64 a0_3, D.int IntKind.i64 a0_4, D.int IntKind.i64 a0_5]] = laws_toDie.res n a0_0 a0_1 a0_2 a0_3 a0_4 a0_5 := by kernel_rfl
theorem laws_toDie.ev {n : Nat} {a0_0 : Int} {a0_1 : Int} {a0_2 : Int} {a0_3 : Int} {a0_4 : Int} {a0_5 : Int} {r : List Q} (h : laws_toDie.res n a0_0 a0_1 a0_2 a0_3 a0_4 a0_5 = some r) : Snd Tryd.prog C0 44 [.agg [.int .i64 a0_0, .int .i64 a0_1, .int .i64 a0_2, .int .i64 a0_3, .int .i64 a0_4, .int .i64 a0_5]] r :=
  snd_ev (C := laws_toDie.cfg) cfg0 mix rfl rfl rfl rfl rfl .nil .nil rfl Tryd.func44 (by kernel_rfl) (by kernel_rfl) rfl ((laws_toDie.run n a0_0 a0_1 a0_2 a0_3 a0_4 a0_5).trans h)

def laws_toDie.stub : Stub
  | [.agg [.int .i64 t, .int .i64 n, .int .i64 e, .int .i64 s, .int .i64 w, .int .i64 b]] => .ret [.agg [.int .i64 t, .int .i64 n, .int .i64 e, .int .i64 s, .int .i64 w, .int .i64 b]]
  | _ => .fail
theorem laws_toDie.ok : StubOk Tryd.prog C0 44 laws_toDie.stub := by
  intro args res h
  unfold laws_toDie.stub at h
  split at h
  · cases h
    exact laws_toDie.ev (n := 0) rfl
  · cases h
/-! laws_toState -/
noncomputable def laws_toState.cfg : Cfg := { C0 with keep := fun _ => none, nb := 0, M := tabM [(44, laws_toDie.stub)], MM := tabB [] }
noncomputable def laws_toState.res (n : Nat) (a0_0 : Int) (a0_1 : Int) (a0_2 : Int) (a0_3 : Int) (a0_4 : Int) (a0_5 : Int) (a0_6 : Int) (a0_7 : Int) : Option (List Q) :=
  some [Q.agg [D.int IntKind.i64 a0_0, D.int IntKind.i64 a0_1, D.int IntKind.i64 a0_2, D.int IntKind.i64 a0_3, D.int IntKind.i64 a0_4, D.int IntKind.i64 a0_5, D.int IntKind.i64 a0_6, D.int IntKind.i64 a0_7]]
theorem laws_toState.run (n : Nat) (a0_0 : Int) (a0_1 : Int) (a0_2 : Int) (a0_3 : Int) (a0_4 : Int) (a0_5 : Int) (a0_6 : Int) (a0_7 : Int) :
    run1 laws_toState.cfg [RK.agg [LK.int IntKind.i64, LK.int IntKind.i64, LK.int IntKind.i64, LK.int IntKind.i64, LK.int IntKind.i64, LK.int IntKind.i64, LK.int IntKind.i64, LK.int IntKind.i64]] n Tryd.f18 [Q.agg [D.int IntKind.i64 a0_0, D.int IntKind.i64 a0_1, D.int IntKind.i64 a0_2, D.int IntKind.i64 a0_3, D.int IntKind.i64 a0_4, D.int IntKind.i64 a0_5, D.int IntKind.i64 a0_6, D.int IntKind.i64 a0_7]] = laws_toState.res n a0_0 a0_1 a0_2 a0_3 a0_4 a0_5 a0_6 a0_7 := by kernel_rfl
theorem laws_toState.ev {n : Nat} {a0_0 : Int} {a0_1 : Int} {a0_2 : Int} {a0_3 : Int} {a0_4 : Int} {a0_5 : Int} {a0_6 : Int} {a0_7 : Int} {r : List Q} (h : laws_toState.res n a0_0 a0_1 a0_2 a0_3 a0_4 a0_5 a0_6 a0_7 = some r) : Snd Tryd.prog C0 18 [.agg [.int .i64 a0_0, .int .i64 a0_1, .int .i64 a0_2, .int .i64 a0_3, .int .i64 a0_4, .int .i64 a0_5, .int .i64 a0_6, .int .i64 a0_7]] r :=
  snd_ev (C := laws_toState.cfg) cfg0 mix rfl rfl rfl rfl rfl (.cons laws_toDie.ok .nil) .nil rfl Tryd.func18 (by kernel_rfl) (by kernel_rfl) rfl ((laws_toState.run n a0_0 a0_1 a0_2 a0_3 a0_4 a0_5 a0_6 a0_7).trans h)

def laws_toState.stub : Stub
  | [.agg [.int .i64 x, .int .i64 y, .int .i64 t, .int .i64 n, .int .i64 e, .int .i64 s, .int .i64 w, .int .i64 b]] => .ret [.agg [.int .i64 x, .int .i64 y, .int .i64 t, .int .i64 n, .int .i64 e, .int .i64 s, .int .i64 w, .int .i64 b]]
  | _ => .fail
theorem laws_toState.ok : StubOk Tryd.prog C0 18 laws_toState.stub := by
  intro args res h
  unfold laws_toState.stub at h
  split at h
  · cases h
    exact laws_toState.ev (n := 0) rfl
  · cases h
/-! laws_toPuzzle -/
noncomputable def laws_toPuzzle.cfg : Cfg := { C0 with keep := fun _ => none, nb := 0, M := tabM [(18, laws_toState.stub)], MM := tabB [] }
noncomputable def laws_toPuzzle.res (n : Nat) (a0_0 : ByteArray) (a0_1 : Int) (a0_2 : Int) (a0_3 : Int) (a0_4 : Int) (a0_5 : Int) (a0_6 : Int) (a0_7 : Int) (a0_8 : Int) (a0_9 : Int) (a0_10 : Int) (a0_11 : Int) : Option (List Q) :=
  some [Q.agg [D.str a0_0, D.int IntKind.i64 a0_1, D.int IntKind.i64 a0_2, D.int IntKind.i64 a0_3, D.int IntKind.i64 a0_4, D.int IntKind.i64 a0_5, D.int IntKind.i64 a0_6, D.int IntKind.i64 a0_7, D.int IntKind.i64 a0_8, D.int IntKind.i64 a0_9, D.int IntKind.i64 a0_10, D.int IntKind.i64 a0_11]]
theorem laws_toPuzzle.run (n : Nat) (a0_0 : ByteArray) (a0_1 : Int) (a0_2 : Int) (a0_3 : Int) (a0_4 : Int) (a0_5 : Int) (a0_6 : Int) (a0_7 : Int) (a0_8 : Int) (a0_9 : Int) (a0_10 : Int) (a0_11 : Int) :
    run1 laws_toPuzzle.cfg [RK.agg [LK.str, LK.int IntKind.i64, LK.int IntKind.i64, LK.int IntKind.i64, LK.int IntKind.i64, LK.int IntKind.i64, LK.int IntKind.i64, LK.int IntKind.i64, LK.int IntKind.i64, LK.int IntKind.i64, LK.int IntKind.i64, LK.int IntKind.i64]] n Tryd.f13 [Q.agg [D.str a0_0, D.int IntKind.i64 a0_1, D.int IntKind.i64 a0_2, D.int IntKind.i64 a0_3, D.int IntKind.i64 a0_4, D.int IntKind.i64 a0_5, D.int IntKind.i64 a0_6, D.int IntKind.i64 a0_7, D.int IntKind.i64 a0_8, D.int IntKind.i64 a0_9, D.int IntKind.i64 a0_10, D.int IntKind.i64 a0_11]] = laws_toPuzzle.res n a0_0 a0_1 a0_2 a0_3 a0_4 a0_5 a0_6 a0_7 a0_8 a0_9 a0_10 a0_11 := by kernel_rfl
theorem laws_toPuzzle.ev {n : Nat} {a0_0 : ByteArray} {a0_1 : Int} {a0_2 : Int} {a0_3 : Int} {a0_4 : Int} {a0_5 : Int} {a0_6 : Int} {a0_7 : Int} {a0_8 : Int} {a0_9 : Int} {a0_10 : Int} {a0_11 : Int} {r : List Q} (h : laws_toPuzzle.res n a0_0 a0_1 a0_2 a0_3 a0_4 a0_5 a0_6 a0_7 a0_8 a0_9 a0_10 a0_11 = some r) : Snd Tryd.prog C0 13 [.agg [.str a0_0, .int .i64 a0_1, .int .i64 a0_2, .int .i64 a0_3, .int .i64 a0_4, .int .i64 a0_5, .int .i64 a0_6, .int .i64 a0_7, .int .i64 a0_8, .int .i64 a0_9, .int .i64 a0_10, .int .i64 a0_11]] r :=
  snd_ev (C := laws_toPuzzle.cfg) cfg0 mix rfl rfl rfl rfl rfl (.cons laws_toState.ok .nil) .nil rfl Tryd.func13 (by kernel_rfl) (by kernel_rfl) rfl ((laws_toPuzzle.run n a0_0 a0_1 a0_2 a0_3 a0_4 a0_5 a0_6 a0_7 a0_8 a0_9 a0_10 a0_11).trans h)

def laws_toPuzzle.stub : Stub
  | [.agg [.str q, .int .i64 x, .int .i64 y, .int .i64 t, .int .i64 n, .int .i64 e, .int .i64 s, .int .i64 w, .int .i64 b, .int .i64 px, .int .i64 py, .int .i64 pt]] => .ret [.agg [.str q, .int .i64 x, .int .i64 y, .int .i64 t, .int .i64 n, .int .i64 e, .int .i64 s, .int .i64 w, .int .i64 b, .int .i64 px, .int .i64 py, .int .i64 pt]]
  | _ => .fail
theorem laws_toPuzzle.ok : StubOk Tryd.prog C0 13 laws_toPuzzle.stub := by
  intro args res h
  unfold laws_toPuzzle.stub at h
  split at h
  · cases h
    exact laws_toPuzzle.ev (n := 0) rfl
  · cases h
/-! laws_szPuzzle -/
noncomputable def laws_szPuzzle.cfg : Cfg := { C0 with keep := fun _ => none, nb := 0, M := tabM [], MM := tabB [] }
noncomputable def laws_szPuzzle.res (n : Nat) (a0_0 : ByteArray) (a0_1 : Int) (a0_2 : Int) (a0_3 : Int) (a0_4 : Int) (a0_5 : Int) (a0_6 : Int) (a0_7 : Int) (a0_8 : Int) (a0_9 : Int) (a0_10 : Int) (a0_11 : Int) (a1 : Int) : Option (List Q) :=
  bif decide (IntKind.wrap IntKind.i64 (a1 - (↑(ByteArray.size a0_0) : Int)) < (0 : Int)) then some [Q.one (D.int IntKind.i64 (-1 : Int))] else some [Q.one (D.int IntKind.i64 (IntKind.wrap IntKind.i64 (a1 - (↑(ByteArray.size a0_0) : Int))))]
theorem laws_szPuzzle.run (n : Nat) (a0_0 : ByteArray) (a0_1 : Int) (a0_2 : Int) (a0_3 : Int) (a0_4 : Int) (a0_5 : Int) (a0_6 : Int) (a0_7 : Int) (a0_8 : Int) (a0_9 : Int) (a0_10 : Int) (a0_11 : Int) (a1 : Int) :
    run1 laws_szPuzzle.cfg [RK.one (LK.int IntKind.i64)] n Tryd.f11 [Q.agg [D.str a0_0, D.int IntKind.i64 a0_1, D.int IntKind.i64 a0_2, D.int IntKind.i64 a0_3, D.int IntKind.i64 a0_4, D.int IntKind.i64 a0_5, D.int IntKind.i64 a0_6, D.int IntKind.i64 a0_7, D.int IntKind.i64 a0_8, D.int IntKind.i64 a0_9, D.int IntKind.i64 a0_10, D.int IntKind.i64 a0_11], Q.one (D.int IntKind.i64 a1)] = laws_szPuzzle.res n a0_0 a0_1 a0_2 a0_3 a0_4 a0_5 a0_6 a0_7 a0_8 a0_9 a0_10 a0_11 a1 := by kernel_rfl
theorem laws_szPuzzle.ev {n : Nat} {a0_0 : ByteArray} {a0_1 : Int} {a0_2 : Int} {a0_3 : Int} {a0_4 : Int} {a0_5 : Int} {a0_6 : Int} {a0_7 : Int} {a0_8 : Int} {a0_9 : Int} {a0_10 : Int} {a0_11 : Int} {a1 : Int} {r : List Q} (h : laws_szPuzzle.res n a0_0 a0_1 a0_2 a0_3 a0_4 a0_5 a0_6 a0_7 a0_8 a0_9 a0_10 a0_11 a1 = some r) : Snd Tryd.prog C0 11 [.agg [.str a0_0, .int .i64 a0_1, .int .i64 a0_2, .int .i64 a0_3, .int .i64 a0_4, .int .i64 a0_5, .int .i64 a0_6, .int .i64 a0_7, .int .i64 a0_8, .int .i64 a0_9, .int .i64 a0_10, .int .i64 a0_11], .one (.int .i64 a1)] r :=
  snd_ev (C := laws_szPuzzle.cfg) cfg0 mix rfl rfl rfl rfl rfl .nil .nil rfl Tryd.func11 (by kernel_rfl) (by kernel_rfl) rfl ((laws_szPuzzle.run n a0_0 a0_1 a0_2 a0_3 a0_4 a0_5 a0_6 a0_7 a0_8 a0_9 a0_10 a0_11 a1).trans h)

def laws_szPuzzle.stub : Stub
  | [.agg [.str q, .int .i64 x, .int .i64 y, .int .i64 t, .int .i64 n, .int .i64 e, .int .i64 s, .int .i64 w, .int .i64 b, .int .i64 px, .int .i64 py, .int .i64 pt], .one (.int .i64 m)] => .gd (decide (q.size ≤ 9223372036854775807)) (.gd (decide (m = 1048576)) (.ret [.one (.int .i64 (bif decide (q.size ≤ 1048576) then (1048576 - (q.size : Int)) else -1))]))
  | _ => .fail
theorem laws_szPuzzle.ok : StubOk Tryd.prog C0 11 laws_szPuzzle.stub := by
  intro args res h
  unfold laws_szPuzzle.stub at h
  split at h
  · rename_i q x y t n e s w b px py pt m
    obtain ⟨h1, h0⟩ := gd_out h
    obtain ⟨h2, h0⟩ := gd_out h0
    cases h0
    have h1 := of_decide_eq_true h1
    obtain rfl := of_decide_eq_true h2
    refine laws_szPuzzle.ev (n := 0) ?_
    unfold laws_szPuzzle.res
    rw [wrap_in (by omega) (by omega)]
    by_cases hs : q.size ≤ 1048576
    · have k : ¬ (1048576 - ((q.size : Nat) : Int)) < 0 := by omega
      simp only [hs, k, decide_true, decide_false, cond_true, cond_false]
    · have k : (1048576 - ((q.size : Nat) : Int)) < 0 := by omega
      simp only [hs, k, decide_true, decide_false, cond_true, cond_false]
  · cases h
end Go.Proofs.EV.PL
namespace Go.Proofs
open Go.Shelf
def Tryd.strJoin_ren : Go.Shelf.Ren := ⟨fun | 156 => 58 | 165 => 92 | 166 => 93 | 169 => 94 | 240 => 112 | 241 => 113 | 276 => 129 | 277 => 130 | n => n, fun | 31 => 50 | 9 => 9 | 3 => 3 | 4 => 4 | 0 => 0 | 20 => 20 | 72 => 131 | 76 => 135 | 70 => 129 | 37 => 65 | 75 => 134 | 127 => 150 | 164 => 165 | 5 => 5 | 80 => 99 | n => n, fun | n => n⟩
theorem Tryd.strJoin : Go.Proofs.Lays.n156 Tryd.prog Tryd.strJoin_ren := {
  mixed := by kernel_rfl
  f156 := Tryd.func58.trans (congrArg some (by kernel_rfl))
  f165 := Tryd.func92.trans (congrArg some (by kernel_rfl))
  f166 := Tryd.func93.trans (congrArg some (by kernel_rfl))
  f169 := Tryd.func94.trans (congrArg some (by kernel_rfl))
  f240 := Tryd.func112.trans (congrArg some (by kernel_rfl))
  f241 := Tryd.func113.trans (congrArg some (by kernel_rfl))
  f276 := Tryd.func129.trans (congrArg some (by kernel_rfl))
  f277 := Tryd.func130.trans (congrArg some (by kernel_rfl))
  t0 := Tryd.underlying0
  a0 := Tryd.isAgg0
  z0 := Tryd.sizeOf0
  v0 := Tryd.zeroValue0
  t3 := Tryd.underlying3
  a3 := Tryd.isAgg3
  z3 := Tryd.sizeOf3
  v3 := Tryd.zeroValue3
  t4 := Tryd.underlying4
  a4 := Tryd.isAgg4
  z4 := Tryd.sizeOf4
  v4 := Tryd.zeroValue4
  t9 := Tryd.underlying9
  a9 := Tryd.isAgg9
  z9 := Tryd.sizeOf9
  v9 := Tryd.zeroValue9
  t20 := Tryd.underlying20
  a20 := Tryd.isAgg20
  z20 := Tryd.sizeOf20
  v20 := Tryd.zeroValue20
  t31 := Tryd.underlying50
  a31 := Tryd.isAgg50
  z31 := Tryd.sizeOf50
  v31 := Tryd.zeroValue50
  t37 := Tryd.underlying65
  a37 := Tryd.isAgg65
  z37 := Tryd.sizeOf65
  v37 := Tryd.zeroValue65
  t70 := Tryd.underlying129
  a70 := Tryd.isAgg129
  z70 := Tryd.sizeOf129
  v70 := Tryd.zeroValue129
  t72 := Tryd.underlying131
  a72 := Tryd.isAgg131
  z72 := Tryd.sizeOf131
  v72 := Tryd.zeroValue131
  t75 := Tryd.underlying134
  a75 := Tryd.isAgg134
  z75 := Tryd.sizeOf134
  v75 := Tryd.zeroValue134
  t76 := Tryd.underlying135
  a76 := Tryd.isAgg135
  z76 := Tryd.sizeOf135
  v76 := Tryd.zeroValue135
  t127 := Tryd.underlying150
  a127 := Tryd.isAgg150
  z127 := Tryd.sizeOf150
  v127 := Tryd.zeroValue150
  t164 := Tryd.underlying165
  a164 := Tryd.isAgg165
  z164 := Tryd.sizeOf165
  v164 := Tryd.zeroValue165 }
end Go.Proofs
namespace Go.Proofs
open Go.Shelf
theorem Tryd.strJoin_extra : Builder.Extra Tryd.prog Tryd.strJoin_ren := {
  sizeBuilder := by kernel_rfl
  liesBuilder := by kernel_rfl
  t5 := Tryd.underlying5
  a5 := Tryd.isAgg5
  z5 := Tryd.sizeOf5
  v5 := Tryd.zeroValue5
  infoByte := by kernel_rfl
  cellsByte := by kernel_rfl
  sizeByte := by kernel_rfl
  neB5 := by decide }
end Go.Proofs
set_option linter.unusedVariables false
set_option linter.unusedSimpArgs false
/-! Rows joined. -/
namespace Go.Proofs.EV.PL
open Go Go.Proofs Go.Proofs.EV Sp
end Go.Proofs.EV.PL
set_option linter.unusedVariables false
set_option linter.unusedSimpArgs false
/-! Boards turned. -/
namespace Go.Proofs.EV.PL
open Go Go.Proofs Go.Proofs.EV Sp
/-! spec_boText -/
theorem row_take (cs : List UInt8) (a b : Nat) : (Option.map (fun (l : List UInt8) => ByteArray.mk (List.toArray l)) (rowStr? (((u8C.encs cs).drop a).take b))) = some (mkB ((cs.drop a).take b)) := by
  rw [Cod.encs_drop, Cod.encs_take, rowStr_u8]; rfl
/-! impl_grid_text -/
end Go.Proofs.EV.PL
set_option linter.unusedVariables false
set_option linter.unusedSimpArgs false
/-! Boards, grounds, labelled boards: turned. -/
namespace Go.Proofs.EV.PL
open Go Go.Proofs Go.Proofs.EV Sp
theorem isGr_bo {b : ByteArray} (h : isGr b = true) : isBo gnd b = true ∧ grW b = wOf (rws b) ∧ grH b = (rws b).length ∧ grC b = (rws b).flatten := by
  refine ⟨?_, ?_, ?_, ?_⟩
  · unfold isGr at h
    rw [Bool.and_eq_true] at h
    exact h.1
  · unfold grW; rw [h]; rfl
  · unfold grH; rw [h]; rfl
  · unfold grC; rw [h]; rfl
end Go.Proofs.EV.PL
set_option linter.unusedVariables false
set_option linter.unusedSimpArgs false
/-! Puzzles turned. -/
namespace Go.Proofs.EV.PL
open Go Go.Proofs Go.Proofs.EV Sp
/-! laws_eqDie -/
/-! laws_eqState -/
/-! laws_eqPuzzle -/
end Go.Proofs.EV.PL
set_option linter.unusedVariables false
set_option linter.unusedSimpArgs false
/-! States along a word. -/
namespace Go.Proofs.EV.PL
open Go Go.Proofs Go.Proofs.EV Sp
/-! spec_diRoll -/
noncomputable def spec_diRoll.cfg : Cfg := { C0 with keep := fun _ => none, nb := 0, M := tabM [], MM := tabB [] }
noncomputable def spec_diRoll.res (n : Nat) (a0_0 : Int) (a0_1 : Int) (a0_2 : Int) (a0_3 : Int) (a0_4 : Int) (a0_5 : Int) (a1 : Int) : Option (List Q) :=
  bif a1 == (0 : Int) then some [Q.agg [D.int IntKind.i64 a0_3, D.int IntKind.i64 a0_0, D.int IntKind.i64 a0_2, D.int IntKind.i64 a0_5, D.int IntKind.i64 a0_4, D.int IntKind.i64 a0_1]] else bif a1 == (1 : Int) then some [Q.agg [D.int IntKind.i64 a0_4, D.int IntKind.i64 a0_1, D.int IntKind.i64 a0_0, D.int IntKind.i64 a0_3, D.int IntKind.i64 a0_5, D.int IntKind.i64 a0_2]] else bif a1 == (2 : Int) then some [Q.agg [D.int IntKind.i64 a0_1, D.int IntKind.i64 a0_5, D.int IntKind.i64 a0_2, D.int IntKind.i64 a0_0, D.int IntKind.i64 a0_4, D.int IntKind.i64 a0_3]] else some [Q.agg [D.int IntKind.i64 a0_2, D.int IntKind.i64 a0_1, D.int IntKind.i64 a0_5, D.int IntKind.i64 a0_3, D.int IntKind.i64 a0_0, D.int IntKind.i64 a0_4]]
theorem spec_diRoll.run (n : Nat) (a0_0 : Int) (a0_1 : Int) (a0_2 : Int) (a0_3 : Int) (a0_4 : Int) (a0_5 : Int) (a1 : Int) :
    run1 spec_diRoll.cfg [RK.agg [LK.int IntKind.i64, LK.int IntKind.i64, LK.int IntKind.i64, LK.int IntKind.i64, LK.int IntKind.i64, LK.int IntKind.i64]] n Tryd.f66 [Q.agg [D.int IntKind.i64 a0_0, D.int IntKind.i64 a0_1, D.int IntKind.i64 a0_2, D.int IntKind.i64 a0_3, D.int IntKind.i64 a0_4, D.int IntKind.i64 a0_5], Q.one (D.int IntKind.i64 a1)] = spec_diRoll.res n a0_0 a0_1 a0_2 a0_3 a0_4 a0_5 a1 := by kernel_rfl
theorem spec_diRoll.ev {n : Nat} {a0_0 : Int} {a0_1 : Int} {a0_2 : Int} {a0_3 : Int} {a0_4 : Int} {a0_5 : Int} {a1 : Int} {r : List Q} (h : spec_diRoll.res n a0_0 a0_1 a0_2 a0_3 a0_4 a0_5 a1 = some r) : Snd Tryd.prog C0 66 [.agg [.int .i64 a0_0, .int .i64 a0_1, .int .i64 a0_2, .int .i64 a0_3, .int .i64 a0_4, .int .i64 a0_5], .one (.int .i64 a1)] r :=
  snd_ev (C := spec_diRoll.cfg) cfg0 mix rfl rfl rfl rfl rfl .nil .nil rfl Tryd.func66 (by kernel_rfl) (by kernel_rfl) rfl ((spec_diRoll.run n a0_0 a0_1 a0_2 a0_3 a0_4 a0_5 a1).trans h)

def spec_diRoll.stub : Stub
  | [.agg [.int .i64 t, .int .i64 n, .int .i64 e, .int .i64 s, .int .i64 w, .int .i64 b], .one (.int .i64 k)] => .ret [.agg (dieC.enc (Sp.roll ⟨t, n, e, s, w, b⟩ k))]
  | _ => .fail
theorem spec_diRoll.ok : StubOk Tryd.prog C0 66 spec_diRoll.stub := by
  intro args res h
  unfold spec_diRoll.stub at h
  split at h
  · rename_i k
    cases h
    refine spec_diRoll.ev (n := 0) ?_
    unfold spec_diRoll.res Sp.roll
    simp only [ieq]
    cases decide (k = 0) <;> cases decide (k = 1) <;> cases decide (k = 2) <;> rfl
  · cases h
/-! impl_Die_roll -/
noncomputable def impl_Die_roll.cfg : Cfg := { C0 with keep := fun _ => none, nb := 0, M := tabM [], MM := tabB [] }
noncomputable def impl_Die_roll.res (n : Nat) (a0_0 : Int) (a0_1 : Int) (a0_2 : Int) (a0_3 : Int) (a0_4 : Int) (a0_5 : Int) (a1 : Int) : Option (List Q) :=
  bif a1 == (110 : Int) then some [Q.agg [D.int IntKind.i64 a0_3, D.int IntKind.i64 a0_0, D.int IntKind.i64 a0_2, D.int IntKind.i64 a0_5, D.int IntKind.i64 a0_4, D.int IntKind.i64 a0_1]] else bif a1 == (101 : Int) then some [Q.agg [D.int IntKind.i64 a0_4, D.int IntKind.i64 a0_1, D.int IntKind.i64 a0_0, D.int IntKind.i64 a0_3, D.int IntKind.i64 a0_5, D.int IntKind.i64 a0_2]] else bif a1 == (115 : Int) then some [Q.agg [D.int IntKind.i64 a0_1, D.int IntKind.i64 a0_5, D.int IntKind.i64 a0_2, D.int IntKind.i64 a0_0, D.int IntKind.i64 a0_4, D.int IntKind.i64 a0_3]] else some [Q.agg [D.int IntKind.i64 a0_2, D.int IntKind.i64 a0_1, D.int IntKind.i64 a0_5, D.int IntKind.i64 a0_3, D.int IntKind.i64 a0_0, D.int IntKind.i64 a0_4]]
theorem impl_Die_roll.run (n : Nat) (a0_0 : Int) (a0_1 : Int) (a0_2 : Int) (a0_3 : Int) (a0_4 : Int) (a0_5 : Int) (a1 : Int) :
    run1 impl_Die_roll.cfg [RK.agg [LK.int IntKind.i64, LK.int IntKind.i64, LK.int IntKind.i64, LK.int IntKind.i64, LK.int IntKind.i64, LK.int IntKind.i64]] n Tryd.f69 [Q.agg [D.int IntKind.i64 a0_0, D.int IntKind.i64 a0_1, D.int IntKind.i64 a0_2, D.int IntKind.i64 a0_3, D.int IntKind.i64 a0_4, D.int IntKind.i64 a0_5], Q.one (D.int IntKind.u8 a1)] = impl_Die_roll.res n a0_0 a0_1 a0_2 a0_3 a0_4 a0_5 a1 := by kernel_rfl
theorem impl_Die_roll.ev {n : Nat} {a0_0 : Int} {a0_1 : Int} {a0_2 : Int} {a0_3 : Int} {a0_4 : Int} {a0_5 : Int} {a1 : Int} {r : List Q} (h : impl_Die_roll.res n a0_0 a0_1 a0_2 a0_3 a0_4 a0_5 a1 = some r) : Snd Tryd.prog C0 69 [.agg [.int .i64 a0_0, .int .i64 a0_1, .int .i64 a0_2, .int .i64 a0_3, .int .i64 a0_4, .int .i64 a0_5], .one (.int .u8 a1)] r :=
  snd_ev (C := impl_Die_roll.cfg) cfg0 mix rfl rfl rfl rfl rfl .nil .nil rfl Tryd.func69 (by kernel_rfl) (by kernel_rfl) rfl ((impl_Die_roll.run n a0_0 a0_1 a0_2 a0_3 a0_4 a0_5 a1).trans h)

def impl_Die_roll.stub : Stub
  | [.agg [.int .i64 t, .int .i64 n, .int .i64 e, .int .i64 s, .int .i64 w, .int .i64 b], .one (.int .u8 k)] => .ret [.agg (dieC.enc (Sp.rollB ⟨t, n, e, s, w, b⟩ k))]
  | _ => .fail
theorem impl_Die_roll.ok : StubOk Tryd.prog C0 69 impl_Die_roll.stub := by
  intro args res h
  unfold impl_Die_roll.stub at h
  split at h
  · rename_i k
    cases h
    refine impl_Die_roll.ev (n := 0) ?_
    unfold impl_Die_roll.res Sp.rollB
    simp only [ieq]
    cases decide (k = 110) <;> cases decide (k = 101) <;> cases decide (k = 115) <;> rfl
  · cases h
theorem inR6 {x : Int} (h : inR x 0 6 = true) : 0 ≤ x ∧ x ≤ 6 := inR_out h
/-! spec_boNext -/
noncomputable def spec_boNext.cfg : Cfg := { C0 with keep := fun _ => none, nb := 0, M := tabM [], MM := tabB [] }
noncomputable def spec_boNext.res (n : Nat) (a0 : Int) (a1 : Int) (a2 : Int) : Option (List Q) :=
  bif a2 == (0 : Int) then some [Q.one (D.int IntKind.i64 a0), Q.one (D.int IntKind.i64 (IntKind.wrap IntKind.i64 (a1 - (1 : Int))))] else bif a2 == (1 : Int) then some [Q.one (D.int IntKind.i64 (IntKind.wrap IntKind.i64 (a0 + (1 : Int)))), Q.one (D.int IntKind.i64 a1)] else bif a2 == (2 : Int) then some [Q.one (D.int IntKind.i64 a0), Q.one (D.int IntKind.i64 (IntKind.wrap IntKind.i64 (a1 + (1 : Int))))] else some [Q.one (D.int IntKind.i64 (IntKind.wrap IntKind.i64 (a0 - (1 : Int)))), Q.one (D.int IntKind.i64 a1)]
theorem spec_boNext.run (n : Nat) (a0 : Int) (a1 : Int) (a2 : Int) :
    run1 spec_boNext.cfg [RK.one (LK.int IntKind.i64), RK.one (LK.int IntKind.i64)] n Tryd.f115 [Q.one (D.int IntKind.i64 a0), Q.one (D.int IntKind.i64 a1), Q.one (D.int IntKind.i64 a2)] = spec_boNext.res n a0 a1 a2 := by kernel_rfl
theorem spec_boNext.ev {n : Nat} {a0 : Int} {a1 : Int} {a2 : Int} {r : List Q} (h : spec_boNext.res n a0 a1 a2 = some r) : Snd Tryd.prog C0 115 [.one (.int .i64 a0), .one (.int .i64 a1), .one (.int .i64 a2)] r :=
  snd_ev (C := spec_boNext.cfg) cfg0 mix rfl rfl rfl rfl rfl .nil .nil rfl Tryd.func115 (by kernel_rfl) (by kernel_rfl) rfl ((spec_boNext.run n a0 a1 a2).trans h)

def spec_boNext.stub : Stub
  | [.one (.int .i64 x), .one (.int .i64 y), .one (.int .i64 k)] => .gd (Sp.inR x 0 6) (.gd (Sp.inR y 0 6) (.ret [.one (.int .i64 (Sp.nxX x k)), .one (.int .i64 (Sp.nxY y k))]))
  | _ => .fail
theorem spec_boNext.ok : StubOk Tryd.prog C0 115 spec_boNext.stub := by
  intro args res h
  unfold spec_boNext.stub at h
  split at h
  · rename_i x y k
    obtain ⟨h1, h⟩ := gd_out h
    obtain ⟨h2, h⟩ := gd_out h
    cases h
    obtain ⟨k1, k2⟩ := inR6 h1
    obtain ⟨k3, k4⟩ := inR6 h2
    refine spec_boNext.ev (n := 0) ?_
    unfold spec_boNext.res nxX nxY
    rw [wrap_in (x := y - 1) (by omega) (by omega), wrap_in (x := x + 1) (by omega) (by omega), wrap_in (x := y + 1) (by omega) (by omega), wrap_in (x := x - 1) (by omega) (by omega)]
    simp only [ieq]
    cases decide (k = 0) <;> cases decide (k = 1) <;> cases decide (k = 2) <;> rfl
  · cases h
/-! impl_next -/
noncomputable def impl_next.cfg : Cfg := { C0 with keep := fun _ => none, nb := 0, M := tabM [], MM := tabB [] }
noncomputable def impl_next.res (n : Nat) (a0 : Int) (a1 : Int) (a2 : Int) : Option (List Q) :=
  bif a2 == (110 : Int) then some [Q.one (D.int IntKind.i64 a0), Q.one (D.int IntKind.i64 (IntKind.wrap IntKind.i64 (a1 - (1 : Int))))] else bif a2 == (101 : Int) then some [Q.one (D.int IntKind.i64 (IntKind.wrap IntKind.i64 (a0 + (1 : Int)))), Q.one (D.int IntKind.i64 a1)] else bif a2 == (115 : Int) then some [Q.one (D.int IntKind.i64 a0), Q.one (D.int IntKind.i64 (IntKind.wrap IntKind.i64 (a1 + (1 : Int))))] else some [Q.one (D.int IntKind.i64 (IntKind.wrap IntKind.i64 (a0 - (1 : Int)))), Q.one (D.int IntKind.i64 a1)]
theorem impl_next.run (n : Nat) (a0 : Int) (a1 : Int) (a2 : Int) :
    run1 impl_next.cfg [RK.one (LK.int IntKind.i64), RK.one (LK.int IntKind.i64)] n Tryd.f107 [Q.one (D.int IntKind.i64 a0), Q.one (D.int IntKind.i64 a1), Q.one (D.int IntKind.u8 a2)] = impl_next.res n a0 a1 a2 := by kernel_rfl
theorem impl_next.ev {n : Nat} {a0 : Int} {a1 : Int} {a2 : Int} {r : List Q} (h : impl_next.res n a0 a1 a2 = some r) : Snd Tryd.prog C0 107 [.one (.int .i64 a0), .one (.int .i64 a1), .one (.int .u8 a2)] r :=
  snd_ev (C := impl_next.cfg) cfg0 mix rfl rfl rfl rfl rfl .nil .nil rfl Tryd.func107 (by kernel_rfl) (by kernel_rfl) rfl ((impl_next.run n a0 a1 a2).trans h)

def impl_next.stub : Stub
  | [.one (.int .i64 x), .one (.int .i64 y), .one (.int .u8 c)] => .gd (Sp.inR x 0 6) (.gd (Sp.inR y 0 6) (.ret [.one (.int .i64 (Sp.nxX x (Sp.dix c))), .one (.int .i64 (Sp.nxY y (Sp.dix c)))]))
  | _ => .fail
theorem impl_next.ok : StubOk Tryd.prog C0 107 impl_next.stub := by
  intro args res h
  unfold impl_next.stub at h
  split at h
  · rename_i x y c
    obtain ⟨h1, h⟩ := gd_out h
    obtain ⟨h2, h⟩ := gd_out h
    cases h
    obtain ⟨k1, k2⟩ := inR6 h1
    obtain ⟨k3, k4⟩ := inR6 h2
    refine impl_next.ev (n := 0) ?_
    unfold impl_next.res nxX nxY dix
    rw [wrap_in (x := y - 1) (by omega) (by omega), wrap_in (x := x + 1) (by omega) (by omega), wrap_in (x := y + 1) (by omega) (by omega), wrap_in (x := x - 1) (by omega) (by omega)]
    simp only [ieq]
    cases decide (c = 110) <;> cases decide (c = 101) <;> cases decide (c = 115) <;> rfl
  · cases h
/-! spec_boRoll -/
noncomputable def spec_boRoll.cfg : Cfg := { C0 with keep := fun _ => none, nb := 0, M := tabM [(115, spec_boNext.stub), (88, spec_boFloor.stub), (66, spec_diRoll.stub)], MM := tabB [] }
noncomputable def spec_boRoll.res (n : Nat) (a0_0 : Int) (a0_1 : Int) (a0_2 : List (List D)) (a1_0 : Int) (a1_1 : Int) (a1_2 : Int) (a1_3 : Int) (a1_4 : Int) (a1_5 : Int) (a1_6 : Int) (a1_7 : Int) (a2 : Int) : Option (List Q) :=
  bif inR a1_0 (0 : Int) (6 : Int) then bif inR a1_1 (0 : Int) (6 : Int) then Option.bind (Cod.decs u8C a0_2) fun (l1 : List UInt8) => bif inR a0_0 (0 : Int) (7 : Int) then bif inR a0_1 (0 : Int) (7 : Int) then bif decide (List.length l1 = Int.toNat a0_0 * Int.toNat a0_1) then bif !(inR (nxX a1_0 a2) (0 : Int) (a0_0 - (1 : Int)) && inR (nxY a1_1 a2) (0 : Int) (a0_1 - (1 : Int)) && isDot l1 (Int.toNat (nxY a1_1 a2) * Int.toNat a0_0 + Int.toNat (nxX a1_0 a2))) then some [Q.agg [D.int IntKind.i64 (0 : Int), D.int IntKind.i64 (0 : Int), D.int IntKind.i64 (0 : Int), D.int IntKind.i64 (0 : Int), D.int IntKind.i64 (0 : Int), D.int IntKind.i64 (0 : Int), D.int IntKind.i64 (0 : Int), D.int IntKind.i64 (0 : Int)], Q.one (D.bool false)] else some [Q.agg [D.int IntKind.i64 (nxX a1_0 a2), D.int IntKind.i64 (nxY a1_1 a2), D.int IntKind.i64 (Die.t (roll (Die.mk a1_2 a1_3 a1_4 a1_5 a1_6 a1_7) a2)), D.int IntKind.i64 (Die.n (roll (Die.mk a1_2 a1_3 a1_4 a1_5 a1_6 a1_7) a2)), D.int IntKind.i64 (Die.e (roll (Die.mk a1_2 a1_3 a1_4 a1_5 a1_6 a1_7) a2)), D.int IntKind.i64 (Die.s (roll (Die.mk a1_2 a1_3 a1_4 a1_5 a1_6 a1_7) a2)), D.int IntKind.i64 (Die.w (roll (Die.mk a1_2 a1_3 a1_4 a1_5 a1_6 a1_7) a2)), D.int IntKind.i64 (Die.b (roll (Die.mk a1_2 a1_3 a1_4 a1_5 a1_6 a1_7) a2))], Q.one (D.bool true)] else none else none else none else none else none
theorem spec_boRoll.run (n : Nat) (a0_0 : Int) (a0_1 : Int) (a0_2 : List (List D)) (a1_0 : Int) (a1_1 : Int) (a1_2 : Int) (a1_3 : Int) (a1_4 : Int) (a1_5 : Int) (a1_6 : Int) (a1_7 : Int) (a2 : Int) :
    run1 spec_boRoll.cfg [RK.agg [LK.int IntKind.i64, LK.int IntKind.i64, LK.int IntKind.i64, LK.int IntKind.i64, LK.int IntKind.i64, LK.int IntKind.i64, LK.int IntKind.i64, LK.int IntKind.i64], RK.one LK.bool] n Tryd.f97 [Q.agg [D.int IntKind.i64 a0_0, D.int IntKind.i64 a0_1, D.sl (1 : Nat) a0_2], Q.agg [D.int IntKind.i64 a1_0, D.int IntKind.i64 a1_1, D.int IntKind.i64 a1_2, D.int IntKind.i64 a1_3, D.int IntKind.i64 a1_4, D.int IntKind.i64 a1_5, D.int IntKind.i64 a1_6, D.int IntKind.i64 a1_7], Q.one (D.int IntKind.i64 a2)] = spec_boRoll.res n a0_0 a0_1 a0_2 a1_0 a1_1 a1_2 a1_3 a1_4 a1_5 a1_6 a1_7 a2 := by kernel_rfl
theorem spec_boRoll.ev {n : Nat} {a0_0 : Int} {a0_1 : Int} {a0_2 : List (List D)} {a1_0 : Int} {a1_1 : Int} {a1_2 : Int} {a1_3 : Int} {a1_4 : Int} {a1_5 : Int} {a1_6 : Int} {a1_7 : Int} {a2 : Int} {r : List Q} (h : spec_boRoll.res n a0_0 a0_1 a0_2 a1_0 a1_1 a1_2 a1_3 a1_4 a1_5 a1_6 a1_7 a2 = some r) : Snd Tryd.prog C0 97 [.agg [.int .i64 a0_0, .int .i64 a0_1, .sl 1 a0_2], .agg [.int .i64 a1_0, .int .i64 a1_1, .int .i64 a1_2, .int .i64 a1_3, .int .i64 a1_4, .int .i64 a1_5, .int .i64 a1_6, .int .i64 a1_7], .one (.int .i64 a2)] r :=
  snd_ev (C := spec_boRoll.cfg) cfg0 mix rfl rfl rfl rfl rfl (.cons spec_boNext.ok (.cons spec_boFloor.ok (.cons spec_diRoll.ok .nil))) .nil rfl Tryd.func97 (by kernel_rfl) (by kernel_rfl) rfl ((spec_boRoll.run n a0_0 a0_1 a0_2 a1_0 a1_1 a1_2 a1_3 a1_4 a1_5 a1_6 a1_7 a2).trans h)

def spec_boRoll.stub : Stub
  | [.agg [.int .i64 gw, .int .i64 gh, .sl 1 es], .agg [.int .i64 x, .int .i64 y, .int .i64 t, .int .i64 n, .int .i64 e, .int .i64 s, .int .i64 w, .int .i64 b], .one (.int .i64 k)] => .any (u8C.decs es) fun cs => .gd (Sp.inR gw 0 7) (.gd (Sp.inR gh 0 7) (.gd (decide (cs.length = gw.toNat * gh.toNat)) (.gd (Sp.inR x 0 6) (.gd (Sp.inR y 0 6) (.ret [.agg [.int .i64 (Sp.onI (Sp.flC gw gh cs (Sp.nxX x k) (Sp.nxY y k)) (Sp.nxX x k)), .int .i64 (Sp.onI (Sp.flC gw gh cs (Sp.nxX x k) (Sp.nxY y k)) (Sp.nxY y k)), .int .i64 (Sp.onI (Sp.flC gw gh cs (Sp.nxX x k) (Sp.nxY y k)) (Sp.roll ⟨t, n, e, s, w, b⟩ k).t), .int .i64 (Sp.onI (Sp.flC gw gh cs (Sp.nxX x k) (Sp.nxY y k)) (Sp.roll ⟨t, n, e, s, w, b⟩ k).n), .int .i64 (Sp.onI (Sp.flC gw gh cs (Sp.nxX x k) (Sp.nxY y k)) (Sp.roll ⟨t, n, e, s, w, b⟩ k).e), .int .i64 (Sp.onI (Sp.flC gw gh cs (Sp.nxX x k) (Sp.nxY y k)) (Sp.roll ⟨t, n, e, s, w, b⟩ k).s), .int .i64 (Sp.onI (Sp.flC gw gh cs (Sp.nxX x k) (Sp.nxY y k)) (Sp.roll ⟨t, n, e, s, w, b⟩ k).w), .int .i64 (Sp.onI (Sp.flC gw gh cs (Sp.nxX x k) (Sp.nxY y k)) (Sp.roll ⟨t, n, e, s, w, b⟩ k).b)], .one (.bool (Sp.flC gw gh cs (Sp.nxX x k) (Sp.nxY y k)))])))))
  | _ => .fail
theorem spec_boRoll.ok : StubOk Tryd.prog C0 97 spec_boRoll.stub := by
  intro args res h
  unfold spec_boRoll.stub at h
  split at h
  · rename_i gw g es x y t n e s w b k
    obtain ⟨cs, h1, h0⟩ := any_out h
    obtain ⟨h2, h0⟩ := gd_out h0
    obtain ⟨h3, h0⟩ := gd_out h0
    obtain ⟨h4, h0⟩ := gd_out h0
    obtain ⟨h5, h0⟩ := gd_out h0
    obtain ⟨h6, h0⟩ := gd_out h0
    cases h0
    refine spec_boRoll.ev (n := 0) ?_
    unfold spec_boRoll.res
    rw [h1]
    simp only [Option.bind_some, h2, h3, h4, h5, h6, cond_true]
    rw [show (inR (nxX x k) 0 (gw - 1) && inR (nxY y k) 0 (g - 1) && isDot cs ((nxY y k).toNat * gw.toNat + (nxX x k).toNat)) = flC gw g cs (nxX x k) (nxY y k) from rfl]
    cases flC gw g cs (nxX x k) (nxY y k) <;> rfl
  · cases h
/-! impl_grid_roll -/
noncomputable def impl_grid_roll.cfg : Cfg := { C0 with keep := fun _ => none, nb := 0, M := tabM [(107, impl_next.stub), (69, impl_Die_roll.stub), (50, impl_grid_at.stub)], MM := tabB [] }
noncomputable def impl_grid_roll.res (n : Nat) (a0 : List (List D)) (a1_0 : Int) (a1_1 : Int) (a1_2 : Int) (a1_3 : Int) (a1_4 : Int) (a1_5 : Int) (a1_6 : Int) (a1_7 : Int) (a2 : Int) : Option (List Q) :=
  bif inR a1_0 (0 : Int) (6 : Int) then bif inR a1_1 (0 : Int) (6 : Int) then Option.bind (Cod.decs strC a0) fun (l1 : List ByteArray) => bif unif (lb l1) then bif decide (List.length l1 ≤ (17179869184 : Nat)) then bif decide (wOf (lb l1) ≤ (17179869184 : Nat)) then some [Q.agg [D.int IntKind.i64 (nxX a1_0 (dix a2)), D.int IntKind.i64 (nxY a1_1 (dix a2)), D.int IntKind.i64 (Die.t (rollB (Die.mk a1_2 a1_3 a1_4 a1_5 a1_6 a1_7) a2)), D.int IntKind.i64 (Die.n (rollB (Die.mk a1_2 a1_3 a1_4 a1_5 a1_6 a1_7) a2)), D.int IntKind.i64 (Die.e (rollB (Die.mk a1_2 a1_3 a1_4 a1_5 a1_6 a1_7) a2)), D.int IntKind.i64 (Die.s (rollB (Die.mk a1_2 a1_3 a1_4 a1_5 a1_6 a1_7) a2)), D.int IntKind.i64 (Die.w (rollB (Die.mk a1_2 a1_3 a1_4 a1_5 a1_6 a1_7) a2)), D.int IntKind.i64 (Die.b (rollB (Die.mk a1_2 a1_3 a1_4 a1_5 a1_6 a1_7) a2))], Q.one (D.bool (atZ (lb l1) (nxX a1_0 (dix a2)) (nxY a1_1 (dix a2)) == (46 : Int)))] else none else none else none else none else none
theorem impl_grid_roll.run (n : Nat) (a0 : List (List D)) (a1_0 : Int) (a1_1 : Int) (a1_2 : Int) (a1_3 : Int) (a1_4 : Int) (a1_5 : Int) (a1_6 : Int) (a1_7 : Int) (a2 : Int) :
    run1 impl_grid_roll.cfg [RK.agg [LK.int IntKind.i64, LK.int IntKind.i64, LK.int IntKind.i64, LK.int IntKind.i64, LK.int IntKind.i64, LK.int IntKind.i64, LK.int IntKind.i64, LK.int IntKind.i64], RK.one LK.bool] n Tryd.f86 [Q.one (D.sl (1 : Nat) a0), Q.agg [D.int IntKind.i64 a1_0, D.int IntKind.i64 a1_1, D.int IntKind.i64 a1_2, D.int IntKind.i64 a1_3, D.int IntKind.i64 a1_4, D.int IntKind.i64 a1_5, D.int IntKind.i64 a1_6, D.int IntKind.i64 a1_7], Q.one (D.int IntKind.u8 a2)] = impl_grid_roll.res n a0 a1_0 a1_1 a1_2 a1_3 a1_4 a1_5 a1_6 a1_7 a2 := by kernel_rfl
theorem impl_grid_roll.ev {n : Nat} {a0 : List (List D)} {a1_0 : Int} {a1_1 : Int} {a1_2 : Int} {a1_3 : Int} {a1_4 : Int} {a1_5 : Int} {a1_6 : Int} {a1_7 : Int} {a2 : Int} {r : List Q} (h : impl_grid_roll.res n a0 a1_0 a1_1 a1_2 a1_3 a1_4 a1_5 a1_6 a1_7 a2 = some r) : Snd Tryd.prog C0 86 [.one (.sl 1 a0), .agg [.int .i64 a1_0, .int .i64 a1_1, .int .i64 a1_2, .int .i64 a1_3, .int .i64 a1_4, .int .i64 a1_5, .int .i64 a1_6, .int .i64 a1_7], .one (.int .u8 a2)] r :=
  snd_ev (C := impl_grid_roll.cfg) cfg0 mix rfl rfl rfl rfl rfl (.cons impl_next.ok (.cons impl_Die_roll.ok (.cons impl_grid_at.ok .nil))) .nil rfl Tryd.func86 (by kernel_rfl) (by kernel_rfl) rfl ((impl_grid_roll.run n a0 a1_0 a1_1 a1_2 a1_3 a1_4 a1_5 a1_6 a1_7 a2).trans h)

def impl_grid_roll.stub : Stub
  | [.one (.sl 1 es), .agg [.int .i64 x, .int .i64 y, .int .i64 t, .int .i64 n, .int .i64 e, .int .i64 s, .int .i64 w, .int .i64 b], .one (.int .u8 c)] => .any (strC.decs es) fun l => .gd (Sp.unif (Sp.lb l)) (.gd (Sp.smallR l) (.gd (Sp.inR x 0 6) (.gd (Sp.inR y 0 6) (.ret [.agg [.int .i64 (Sp.nxX x (Sp.dix c)), .int .i64 (Sp.nxY y (Sp.dix c)), .int .i64 (Sp.rollB ⟨t, n, e, s, w, b⟩ c).t, .int .i64 (Sp.rollB ⟨t, n, e, s, w, b⟩ c).n, .int .i64 (Sp.rollB ⟨t, n, e, s, w, b⟩ c).e, .int .i64 (Sp.rollB ⟨t, n, e, s, w, b⟩ c).s, .int .i64 (Sp.rollB ⟨t, n, e, s, w, b⟩ c).w, .int .i64 (Sp.rollB ⟨t, n, e, s, w, b⟩ c).b], .one (.bool (Sp.isFl (Sp.lb l) (Sp.nxX x (Sp.dix c)) (Sp.nxY y (Sp.dix c))))]))))
  | _ => .fail
theorem small_w {l : List ByteArray} (h : smallR l = true) : l.length ≤ 17179869184 ∧ wOf (lb l) ≤ 17179869184 ∧ l.length ≤ 7 ∧ wOf (lb l) ≤ 7 := by
  obtain ⟨h1, h2⟩ := smallR_out h
  have : wOf (lb l) ≤ 7 := by
    cases l with
    | nil => simp [lb, wOf]
    | cons a l => exact h2 a List.mem_cons_self
  exact ⟨by omega, by omega, h1, this⟩
theorem impl_grid_roll.ok : StubOk Tryd.prog C0 86 impl_grid_roll.stub := by
  intro args res h
  unfold impl_grid_roll.stub at h
  split at h
  · rename_i es x y t n e s w b c
    obtain ⟨l, h1, h0⟩ := any_out h
    obtain ⟨h2, h0⟩ := gd_out h0
    obtain ⟨h3, h0⟩ := gd_out h0
    obtain ⟨h5, h0⟩ := gd_out h0
    obtain ⟨h6, h0⟩ := gd_out h0
    cases h0
    obtain ⟨k1, k2, _, _⟩ := small_w h3
    refine impl_grid_roll.ev (n := 0) ?_
    unfold impl_grid_roll.res
    rw [h1]
    simp only [Option.bind_some, h2, k1, k2, h5, h6, decide_true, cond_true]
    rfl
  · cases h
end Go.Proofs.EV.PL
set_option linter.unusedVariables false
set_option linter.unusedSimpArgs false
/-! States along a word. -/
namespace Go.Proofs.EV.PL
open Go Go.Proofs Go.Proofs.EV Sp
end Go.Proofs.EV.PL
set_option linter.unusedVariables false
set_option linter.unusedSimpArgs false
/-! Ways; puzzles solved. -/
namespace Go.Proofs.EV.PL
open Go Go.Proofs Go.Proofs.EV Sp
theorem fl_eq {q : ByteArray} (hb : isBo brd q = true) : flC (boW brd q : Int) (boH brd q : Int) (boC brd q) = isFl (rws q) := by
  funext x y
  exact bo_fl hb x y
/-! spec_puDone -/
noncomputable def spec_puDone.cfg : Cfg := { C0 with keep := fun _ => none, nb := 0, M := tabM [], MM := tabB [] }
noncomputable def spec_puDone.res (n : Nat) (a0_0 : ByteArray) (a0_1 : Int) (a0_2 : Int) (a0_3 : Int) (a0_4 : Int) (a0_5 : Int) (a0_6 : Int) (a0_7 : Int) (a0_8 : Int) (a0_9 : Int) (a0_10 : Int) (a0_11 : Int) (a1_0 : Int) (a1_1 : Int) (a1_2 : Int) (a1_3 : Int) (a1_4 : Int) (a1_5 : Int) (a1_6 : Int) (a1_7 : Int) : Option (List Q) :=
  bif a1_0 == a0_9 then bif a1_1 == a0_10 then some [Q.one (D.bool (a1_2 == a0_11))] else some [Q.one (D.bool false)] else some [Q.one (D.bool false)]
theorem spec_puDone.run (n : Nat) (a0_0 : ByteArray) (a0_1 : Int) (a0_2 : Int) (a0_3 : Int) (a0_4 : Int) (a0_5 : Int) (a0_6 : Int) (a0_7 : Int) (a0_8 : Int) (a0_9 : Int) (a0_10 : Int) (a0_11 : Int) (a1_0 : Int) (a1_1 : Int) (a1_2 : Int) (a1_3 : Int) (a1_4 : Int) (a1_5 : Int) (a1_6 : Int) (a1_7 : Int) :
    run1 spec_puDone.cfg [RK.one LK.bool] n Tryd.f51 [Q.agg [D.str a0_0, D.int IntKind.i64 a0_1, D.int IntKind.i64 a0_2, D.int IntKind.i64 a0_3, D.int IntKind.i64 a0_4, D.int IntKind.i64 a0_5, D.int IntKind.i64 a0_6, D.int IntKind.i64 a0_7, D.int IntKind.i64 a0_8, D.int IntKind.i64 a0_9, D.int IntKind.i64 a0_10, D.int IntKind.i64 a0_11], Q.agg [D.int IntKind.i64 a1_0, D.int IntKind.i64 a1_1, D.int IntKind.i64 a1_2, D.int IntKind.i64 a1_3, D.int IntKind.i64 a1_4, D.int IntKind.i64 a1_5, D.int IntKind.i64 a1_6, D.int IntKind.i64 a1_7]] = spec_puDone.res n a0_0 a0_1 a0_2 a0_3 a0_4 a0_5 a0_6 a0_7 a0_8 a0_9 a0_10 a0_11 a1_0 a1_1 a1_2 a1_3 a1_4 a1_5 a1_6 a1_7 := by kernel_rfl
theorem spec_puDone.ev {n : Nat} {a0_0 : ByteArray} {a0_1 : Int} {a0_2 : Int} {a0_3 : Int} {a0_4 : Int} {a0_5 : Int} {a0_6 : Int} {a0_7 : Int} {a0_8 : Int} {a0_9 : Int} {a0_10 : Int} {a0_11 : Int} {a1_0 : Int} {a1_1 : Int} {a1_2 : Int} {a1_3 : Int} {a1_4 : Int} {a1_5 : Int} {a1_6 : Int} {a1_7 : Int} {r : List Q} (h : spec_puDone.res n a0_0 a0_1 a0_2 a0_3 a0_4 a0_5 a0_6 a0_7 a0_8 a0_9 a0_10 a0_11 a1_0 a1_1 a1_2 a1_3 a1_4 a1_5 a1_6 a1_7 = some r) : Snd Tryd.prog C0 51 [.agg [.str a0_0, .int .i64 a0_1, .int .i64 a0_2, .int .i64 a0_3, .int .i64 a0_4, .int .i64 a0_5, .int .i64 a0_6, .int .i64 a0_7, .int .i64 a0_8, .int .i64 a0_9, .int .i64 a0_10, .int .i64 a0_11], .agg [.int .i64 a1_0, .int .i64 a1_1, .int .i64 a1_2, .int .i64 a1_3, .int .i64 a1_4, .int .i64 a1_5, .int .i64 a1_6, .int .i64 a1_7]] r :=
  snd_ev (C := spec_puDone.cfg) cfg0 mix rfl rfl rfl rfl rfl .nil .nil rfl Tryd.func51 (by kernel_rfl) (by kernel_rfl) rfl ((spec_puDone.run n a0_0 a0_1 a0_2 a0_3 a0_4 a0_5 a0_6 a0_7 a0_8 a0_9 a0_10 a0_11 a1_0 a1_1 a1_2 a1_3 a1_4 a1_5 a1_6 a1_7).trans h)

def spec_puDone.stub : Stub
  | [.agg [.str q, .int .i64 x, .int .i64 y, .int .i64 t, .int .i64 n, .int .i64 e, .int .i64 s, .int .i64 w, .int .i64 b, .int .i64 px, .int .i64 py, .int .i64 pt], .agg [.int .i64 x', .int .i64 y', .int .i64 t', .int .i64 n', .int .i64 e', .int .i64 s', .int .i64 w', .int .i64 b']] => .ret [.one (.bool (Sp.doneS px py pt ⟨x', y', ⟨t', n', e', s', w', b'⟩⟩))]
  | _ => .fail
theorem spec_puDone.ok : StubOk Tryd.prog C0 51 spec_puDone.stub := by
  intro args res h
  unfold spec_puDone.stub at h
  split at h
  · rename_i q x y t n e s w b px py pt x' y' t' n' e' s' w' b'
    cases h
    refine spec_puDone.ev (n := 0) ?_
    unfold spec_puDone.res doneS
    simp only [ieq]
    cases decide (x' = px) <;> cases decide (y' = py) <;> rfl
  · cases h
/-! impl_State_isAt -/
noncomputable def impl_State_isAt.cfg : Cfg := { C0 with keep := fun _ => none, nb := 0, M := tabM [], MM := tabB [] }
noncomputable def impl_State_isAt.res (n : Nat) (a0_0 : Int) (a0_1 : Int) (a0_2 : Int) (a0_3 : Int) (a0_4 : Int) (a0_5 : Int) (a0_6 : Int) (a0_7 : Int) (a1 : Int) (a2 : Int) : Option (List Q) :=
  bif a0_0 == a1 then some [Q.one (D.bool (a0_1 == a2))] else some [Q.one (D.bool false)]
theorem impl_State_isAt.run (n : Nat) (a0_0 : Int) (a0_1 : Int) (a0_2 : Int) (a0_3 : Int) (a0_4 : Int) (a0_5 : Int) (a0_6 : Int) (a0_7 : Int) (a1 : Int) (a2 : Int) :
    run1 impl_State_isAt.cfg [RK.one LK.bool] n Tryd.f77 [Q.agg [D.int IntKind.i64 a0_0, D.int IntKind.i64 a0_1, D.int IntKind.i64 a0_2, D.int IntKind.i64 a0_3, D.int IntKind.i64 a0_4, D.int IntKind.i64 a0_5, D.int IntKind.i64 a0_6, D.int IntKind.i64 a0_7], Q.one (D.int IntKind.i64 a1), Q.one (D.int IntKind.i64 a2)] = impl_State_isAt.res n a0_0 a0_1 a0_2 a0_3 a0_4 a0_5 a0_6 a0_7 a1 a2 := by kernel_rfl
theorem impl_State_isAt.ev {n : Nat} {a0_0 : Int} {a0_1 : Int} {a0_2 : Int} {a0_3 : Int} {a0_4 : Int} {a0_5 : Int} {a0_6 : Int} {a0_7 : Int} {a1 : Int} {a2 : Int} {r : List Q} (h : impl_State_isAt.res n a0_0 a0_1 a0_2 a0_3 a0_4 a0_5 a0_6 a0_7 a1 a2 = some r) : Snd Tryd.prog C0 77 [.agg [.int .i64 a0_0, .int .i64 a0_1, .int .i64 a0_2, .int .i64 a0_3, .int .i64 a0_4, .int .i64 a0_5, .int .i64 a0_6, .int .i64 a0_7], .one (.int .i64 a1), .one (.int .i64 a2)] r :=
  snd_ev (C := impl_State_isAt.cfg) cfg0 mix rfl rfl rfl rfl rfl .nil .nil rfl Tryd.func77 (by kernel_rfl) (by kernel_rfl) rfl ((impl_State_isAt.run n a0_0 a0_1 a0_2 a0_3 a0_4 a0_5 a0_6 a0_7 a1 a2).trans h)

def impl_State_isAt.stub : Stub
  | [.agg [.int .i64 x, .int .i64 y, .int .i64 t, .int .i64 n, .int .i64 e, .int .i64 s, .int .i64 w, .int .i64 b], .one (.int .i64 px), .one (.int .i64 py)] => .ret [.one (.bool (decide (x = px) && decide (y = py)))]
  | _ => .fail
theorem impl_State_isAt.ok : StubOk Tryd.prog C0 77 impl_State_isAt.stub := by
  intro args res h
  unfold impl_State_isAt.stub at h
  split at h
  · rename_i x y t n e s w b px py
    cases h
    refine impl_State_isAt.ev (n := 0) ?_
    unfold impl_State_isAt.res
    simp only [ieq]
    cases decide (x = px) <;> rfl
  · cases h
/-! impl_Puzzle_isGoal -/
noncomputable def impl_Puzzle_isGoal.cfg : Cfg := { C0 with keep := fun _ => none, nb := 0, M := tabM [(77, impl_State_isAt.stub)], MM := tabB [] }
noncomputable def impl_Puzzle_isGoal.res (n : Nat) (a0_0 : ByteArray) (a0_1 : Int) (a0_2 : Int) (a0_3 : Int) (a0_4 : Int) (a0_5 : Int) (a0_6 : Int) (a0_7 : Int) (a0_8 : Int) (a0_9 : Int) (a0_10 : Int) (a0_11 : Int) (a1_0 : Int) (a1_1 : Int) (a1_2 : Int) (a1_3 : Int) (a1_4 : Int) (a1_5 : Int) (a1_6 : Int) (a1_7 : Int) : Option (List Q) :=
  bif decide (a1_0 = a0_9) && decide (a1_1 = a0_10) then some [Q.one (D.bool (a1_2 == a0_11))] else some [Q.one (D.bool false)]
theorem impl_Puzzle_isGoal.run (n : Nat) (a0_0 : ByteArray) (a0_1 : Int) (a0_2 : Int) (a0_3 : Int) (a0_4 : Int) (a0_5 : Int) (a0_6 : Int) (a0_7 : Int) (a0_8 : Int) (a0_9 : Int) (a0_10 : Int) (a0_11 : Int) (a1_0 : Int) (a1_1 : Int) (a1_2 : Int) (a1_3 : Int) (a1_4 : Int) (a1_5 : Int) (a1_6 : Int) (a1_7 : Int) :
    run1 impl_Puzzle_isGoal.cfg [RK.one LK.bool] n Tryd.f53 [Q.agg [D.str a0_0, D.int IntKind.i64 a0_1, D.int IntKind.i64 a0_2, D.int IntKind.i64 a0_3, D.int IntKind.i64 a0_4, D.int IntKind.i64 a0_5, D.int IntKind.i64 a0_6, D.int IntKind.i64 a0_7, D.int IntKind.i64 a0_8, D.int IntKind.i64 a0_9, D.int IntKind.i64 a0_10, D.int IntKind.i64 a0_11], Q.agg [D.int IntKind.i64 a1_0, D.int IntKind.i64 a1_1, D.int IntKind.i64 a1_2, D.int IntKind.i64 a1_3, D.int IntKind.i64 a1_4, D.int IntKind.i64 a1_5, D.int IntKind.i64 a1_6, D.int IntKind.i64 a1_7]] = impl_Puzzle_isGoal.res n a0_0 a0_1 a0_2 a0_3 a0_4 a0_5 a0_6 a0_7 a0_8 a0_9 a0_10 a0_11 a1_0 a1_1 a1_2 a1_3 a1_4 a1_5 a1_6 a1_7 := by kernel_rfl
theorem impl_Puzzle_isGoal.ev {n : Nat} {a0_0 : ByteArray} {a0_1 : Int} {a0_2 : Int} {a0_3 : Int} {a0_4 : Int} {a0_5 : Int} {a0_6 : Int} {a0_7 : Int} {a0_8 : Int} {a0_9 : Int} {a0_10 : Int} {a0_11 : Int} {a1_0 : Int} {a1_1 : Int} {a1_2 : Int} {a1_3 : Int} {a1_4 : Int} {a1_5 : Int} {a1_6 : Int} {a1_7 : Int} {r : List Q} (h : impl_Puzzle_isGoal.res n a0_0 a0_1 a0_2 a0_3 a0_4 a0_5 a0_6 a0_7 a0_8 a0_9 a0_10 a0_11 a1_0 a1_1 a1_2 a1_3 a1_4 a1_5 a1_6 a1_7 = some r) : Snd Tryd.prog C0 53 [.agg [.str a0_0, .int .i64 a0_1, .int .i64 a0_2, .int .i64 a0_3, .int .i64 a0_4, .int .i64 a0_5, .int .i64 a0_6, .int .i64 a0_7, .int .i64 a0_8, .int .i64 a0_9, .int .i64 a0_10, .int .i64 a0_11], .agg [.int .i64 a1_0, .int .i64 a1_1, .int .i64 a1_2, .int .i64 a1_3, .int .i64 a1_4, .int .i64 a1_5, .int .i64 a1_6, .int .i64 a1_7]] r :=
  snd_ev (C := impl_Puzzle_isGoal.cfg) cfg0 mix rfl rfl rfl rfl rfl (.cons impl_State_isAt.ok .nil) .nil rfl Tryd.func53 (by kernel_rfl) (by kernel_rfl) rfl ((impl_Puzzle_isGoal.run n a0_0 a0_1 a0_2 a0_3 a0_4 a0_5 a0_6 a0_7 a0_8 a0_9 a0_10 a0_11 a1_0 a1_1 a1_2 a1_3 a1_4 a1_5 a1_6 a1_7).trans h)

def impl_Puzzle_isGoal.stub : Stub
  | [.agg [.str q, .int .i64 x, .int .i64 y, .int .i64 t, .int .i64 n, .int .i64 e, .int .i64 s, .int .i64 w, .int .i64 b, .int .i64 px, .int .i64 py, .int .i64 pt], .agg [.int .i64 x', .int .i64 y', .int .i64 t', .int .i64 n', .int .i64 e', .int .i64 s', .int .i64 w', .int .i64 b']] => .ret [.one (.bool (Sp.doneS px py pt ⟨x', y', ⟨t', n', e', s', w', b'⟩⟩))]
  | _ => .fail
theorem impl_Puzzle_isGoal.ok : StubOk Tryd.prog C0 53 impl_Puzzle_isGoal.stub := by
  intro args res h
  unfold impl_Puzzle_isGoal.stub at h
  split at h
  · rename_i q x y t n e s w b px py pt x' y' t' n' e' s' w' b'
    cases h
    refine impl_Puzzle_isGoal.ev (n := 0) ?_
    unfold impl_Puzzle_isGoal.res doneS
    simp only [ieq]
    cases decide (x' = px) <;> cases decide (y' = py) <;> rfl
  · cases h
end Go.Proofs.EV.PL
set_option linter.unusedVariables false
set_option linter.unusedSimpArgs false
/-! Prints and labels along a word. -/
namespace Go.Proofs.EV.PL
open Go Go.Proofs Go.Proofs.EV Sp
end Go.Proofs.EV.PL
set_option linter.unusedVariables false
set_option linter.unusedSimpArgs false
/-! Labels of a word. -/
namespace Go.Proofs.EV.PL
open Go Go.Proofs Go.Proofs.EV Sp
def outC (w h : Nat) : Option (List UInt8) → List Q
  | some cs => [.one (.str (mkB (jn (chunk w h cs)))), .one (.bool true)]
  | none => [.one (.str ⟨#[]⟩), .one (.bool false)]
def outR : Option (List (List UInt8)) → List Q
  | some r => [.one (.str (mkB (jn r))), .one (.bool true)]
  | none => [.one (.str ⟨#[]⟩), .one (.bool false)]
theorem outR_eq (o : Option (List (List UInt8))) : outR o = [.one (.str (jnO o)), .one (.bool (isO o))] := by cases o <;> rfl
theorem bne_sgn (c : UInt8) {t : Int} (h0 : 0 ≤ t) (h9 : t ≤ 9) : ((c.toNat : Int) != ((sgn t).toNat : Int)) = !(c == sgn t) := u8bne c (sgn t) rfl
theorem bne_sub (c : UInt8) {t : Int} (h0 : 0 ≤ t) (h9 : t ≤ 9) : ((c.toNat : Int) - 48 != t) = !(c == sgn t) := by
  rw [← bne_sgn c h0 h9, sgn_nat h0 h9, bne, bne]
  congr 1
  rw [Bool.eq_iff_iff, beq_iff_eq, beq_iff_eq]
  omega
end Go.Proofs.EV.PL
set_option linter.unusedVariables false
set_option linter.unusedSimpArgs false
/-! Dice shown along a word. -/
namespace Go.Proofs.EV.PL
open Go Go.Proofs Go.Proofs.EV Sp
theorem sgn_of {n : Int} (h0 : 0 ≤ n) (h9 : n ≤ 9) : UInt8.ofNat (Int.toNat (IntKind.wrap .u8 (IntKind.wrap .i64 (48 + n)))) = sgn n := by
  rw [sgn_val h0 h9, Int.toNat_natCast, UInt8.ofNat_toNat]
theorem intC_at {l : List Int} {k : Nat} (h : k < l.length) : D.int? .i64 (cellD (intC.encs l) k 0) = some l[k] := by rw [Cod.encs_cell h]; rfl
/-! spec_l1Num -/
/-! spec_diText -/
theorem faces_in {d : Die} (h : d.good = true) : ∀ z ∈ [d.t, d.n, d.e, d.s, d.w, d.b], inR z 0 9 = true := by
  intro z hz
  unfold Die.good allR at h
  exact List.all_eq_true.1 h z hz
/-! impl_DieText -/
/-! laws_eqStringS -/
/-! laws_markText -/
theorem wrap_mk {j : Nat} (h : j ≤ LIM + 10) : IntKind.i64.wrap ((j : Int) + 1) = ((j + 1 : Nat) : Int) := by
  unfold LIM at h
  rw [wrap_in (by omega) (by omega)]; omega
theorem in1000 {j : Nat} (h1 : 1 ≤ j) (h2 : j ≤ 1000) : inR (j : Int) 1 1000 = true := by
  unfold inR
  rw [Bool.and_eq_true, decide_eq_true_eq, decide_eq_true_eq]; omega
/-! laws_markStringS -/
/-! laws_heldStringS -/
end Go.Proofs.EV.PL
set_option linter.unusedVariables false
set_option linter.unusedSimpArgs false
/-! Replays. -/
namespace Go.Proofs.EV.PL
open Go Go.Proofs Go.Proofs.EV Sp
theorem alL_good {q : ByteArray} {s : Sta} {wd : ByteArray} (ho : okSt q s = true) : ∀ u ∈ alL (isFl (rws q)) s wd, u.d.good = true := fun u hu => (alL_gd ho u hu).g
end Go.Proofs.EV.PL
set_option linter.unusedVariables false
set_option linter.unusedSimpArgs false
/-! The first state that solves a puzzle. -/
namespace Go.Proofs.EV.PL
open Go Go.Proofs Go.Proofs.EV Sp
/-! slices_IndexFunc_Simpl_State_impl_State -/
theorem pz3_out {cs : List V} {t : Int × Int × Int} (h : pz3 cs = some t) : ∃ (q : ByteArray) (x y t' z e s w b px py pt : Int), cs = [.one true (.str q), .one true (.int .i64 x), .one true (.int .i64 y), .one true (.int .i64 t'), .one true (.int .i64 z), .one true (.int .i64 e), .one true (.int .i64 s), .one true (.int .i64 w), .one true (.int .i64 b), .one true (.int .i64 px), .one true (.int .i64 py), .one true (.int .i64 pt)] ∧ t = (px, py, pt) := by
  unfold pz3 at h
  split at h
  · cases h
    exact ⟨_, _, _, _, _, _, _, _, _, _, _, _, rfl, rfl⟩
  · cases h
def outN (wd : ByteArray) (o : Option Nat) : List Q := [.one (.str (preT wd o)), .one (.bool (isN o))]
end Go.Proofs.EV.PL
set_option linter.unusedVariables false
set_option linter.unusedSimpArgs false
set_option maxHeartbeats 4000000
/-! What rolls make of a state. -/
namespace Go.Proofs.EV.PL
open Go Go.Proofs Go.Proofs.EV Sp
def spec_boRoll_i.stub : Stub
  | [.agg [.int .i64 gw, .int .i64 gh, .sl 1 es], .agg [.int .i64 x, .int .i64 y, .int .i64 t, .int .i64 n, .int .i64 e, .int .i64 s, .int .i64 w, .int .i64 b], .one (.int .i64 k)] => .any (u8C.decs es) fun cs => .gd (Sp.inR gw 0 7) (.gd (Sp.inR gh 0 7) (.gd (decide (cs.length = gw.toNat * gh.toNat)) (.gd (Sp.inR x 0 6) (.gd (Sp.inR y 0 6) (.any (Sp.rollO ⟨x, y, ⟨t, n, e, s, w, b⟩⟩ k) fun u => .ite (Sp.flC gw gh cs u.x u.y) (.ret [.agg [.int .i64 u.x, .int .i64 u.y, .int .i64 u.d.t, .int .i64 u.d.n, .int .i64 u.d.e, .int .i64 u.d.s, .int .i64 u.d.w, .int .i64 u.d.b], .one (.bool true)]) (.ret [.agg [.int .i64 0, .int .i64 0, .int .i64 0, .int .i64 0, .int .i64 0, .int .i64 0, .int .i64 0, .int .i64 0], .one (.bool false)]))))))
  | _ => .fail
theorem ite_out {b : Bool} {p q : HM (List Q)} {res : List Q} (h : (HM.ite b p q).out = some res) : cond b p.out q.out = some res := h
theorem spec_boRoll_i.ok : StubOk Tryd.prog C0 97 spec_boRoll_i.stub := by
  intro args res h
  refine spec_boRoll.ok args res ?_
  unfold spec_boRoll_i.stub at h
  split at h
  · rename_i gw gh es x y t n e s w b k
    obtain ⟨cs, h1, h0⟩ := any_out h
    obtain ⟨h2, h0⟩ := gd_out h0
    obtain ⟨h3, h0⟩ := gd_out h0
    obtain ⟨h4, h0⟩ := gd_out h0
    obtain ⟨h5, h0⟩ := gd_out h0
    obtain ⟨h6, h0⟩ := gd_out h0
    obtain ⟨u, h7, h0⟩ := any_out h0
    obtain rfl : _ = u := Option.some.inj h7
    have h0 := ite_out h0
    show (HM.any (u8C.decs es) _).out = _
    simp only [HM.out, h1, Option.bind_some, h2, h3, h4, h5, h6, cond_true]
    simp only [rollK] at h0
    cases hp : flC gw gh cs (nxX x k) (nxY y k) <;> rw [hp] at h0 <;> exact h0
  · cases h
def impl_grid_roll_i.stub : Stub
  | [.one (.sl 1 es), .agg [.int .i64 x, .int .i64 y, .int .i64 t, .int .i64 n, .int .i64 e, .int .i64 s, .int .i64 w, .int .i64 b], .one (.int .u8 c)] => .any (strC.decs es) fun l => .gd (Sp.unif (Sp.lb l)) (.gd (Sp.smallR l) (.gd (Sp.inR x 0 6) (.gd (Sp.inR y 0 6) (.any (Sp.mvO ⟨x, y, ⟨t, n, e, s, w, b⟩⟩ c) fun u => .ret [.agg [.int .i64 u.x, .int .i64 u.y, .int .i64 u.d.t, .int .i64 u.d.n, .int .i64 u.d.e, .int .i64 u.d.s, .int .i64 u.d.w, .int .i64 u.d.b], .one (.bool (Sp.isFl (Sp.lb l) u.x u.y))]))))
  | _ => .fail
theorem impl_grid_roll_i.ok : StubOk Tryd.prog C0 86 impl_grid_roll_i.stub := by
  intro args res h
  refine impl_grid_roll.ok args res ?_
  unfold impl_grid_roll_i.stub at h
  split at h
  · rename_i es x y t n e s w b c
    obtain ⟨l, h1, h0⟩ := any_out h
    obtain ⟨h2, h0⟩ := gd_out h0
    obtain ⟨h3, h0⟩ := gd_out h0
    obtain ⟨h5, h0⟩ := gd_out h0
    obtain ⟨h6, h0⟩ := gd_out h0
    obtain ⟨u, h7, h0⟩ := any_out h0
    obtain rfl : _ = u := Option.some.inj h7
    show (HM.any (strC.decs es) _).out = _
    simp only [HM.out, h1, Option.bind_some, h2, h3, h5, h6, cond_true]
    exact h0
  · cases h
/-! spec_wyCode -/
noncomputable def spec_wyCode.cfg : Cfg := { C0 with keep := fun | 3 => some [5, 18, 19, 20] | _ => none, nb := 0, M := tabM [(109, spec_diFaces.stub)], MM := tabB [] }
noncomputable def spec_wyCode.l3 (n : Nat) (m3 : Nat) (i0 : Int) (i1 : Int) (i2 : Int) (l3 : List (List D)) : Option (List Q) :=
  loopAt spec_wyCode.cfg [RK.one (LK.int IntKind.i64)] n Tryd.f96 [1, 1, 0, 1, 0] [] m3 (St.mk [V.undef, V.undef, V.undef, V.undef, V.undef, V.one true (D.int IntKind.i64 i0), V.undef, V.undef, V.undef, V.undef, V.undef, V.undef, V.undef, V.undef, V.undef, V.undef, V.undef, V.undef, V.rw (0 : Nat), V.one true (D.int IntKind.i64 i1), V.one true (D.int IntKind.i64 i2), V.undef, V.undef, V.undef, V.undef, V.undef, V.undef, V.undef, V.undef, V.undef] [Ob.row false (1 : Nat) l3])
theorem spec_wyCode.l3_eq (n : Nat) (m3 : Nat) (i0 : Int) (i1 : Int) (i2 : Int) (l3 : List (List D)) :
    spec_wyCode.l3 n (m3 + 1) i0 i1 i2 l3 = bif decide (i2 < i1) then bif decide ((0 : Int) ≤ i2) then bif decide (i2 < (↑(List.length l3) : Int)) then Option.bind (Option.bind (some (cellD l3 (Int.toNat i2) (0 : Nat))) (D.int? IntKind.i64)) fun (i1_1 : Int) => spec_wyCode.l3 n m3 (IntKind.wrap IntKind.i64 (IntKind.wrap IntKind.i64 ((10 : Int) * i0) + i1_1)) i1 (IntKind.wrap IntKind.i64 (i2 + (1 : Int))) l3 else none else none else some [Q.one (D.int IntKind.i64 i0)] := by kernel_rfl
noncomputable def spec_wyCode.res (n : Nat) (a0_0 : Int) (a0_1 : Int) (a0_2 : List (List D)) (a1_0 : Int) (a1_1 : Int) (a1_2 : Int) (a1_3 : Int) (a1_4 : Int) (a1_5 : Int) (a1_6 : Int) (a1_7 : Int) : Option (List Q) :=
  spec_wyCode.l3 n n (IntKind.wrap IntKind.i64 (IntKind.wrap IntKind.i64 (a1_1 * a0_0) + a1_0)) (6 : Int) (0 : Int) [[D.int IntKind.i64 a1_2], [D.int IntKind.i64 a1_3], [D.int IntKind.i64 a1_4], [D.int IntKind.i64 a1_5], [D.int IntKind.i64 a1_6], [D.int IntKind.i64 a1_7]]
theorem spec_wyCode.run (n : Nat) (a0_0 : Int) (a0_1 : Int) (a0_2 : List (List D)) (a1_0 : Int) (a1_1 : Int) (a1_2 : Int) (a1_3 : Int) (a1_4 : Int) (a1_5 : Int) (a1_6 : Int) (a1_7 : Int) :
    run1 spec_wyCode.cfg [RK.one (LK.int IntKind.i64)] n Tryd.f96 [Q.agg [D.int IntKind.i64 a0_0, D.int IntKind.i64 a0_1, D.sl (1 : Nat) a0_2], Q.agg [D.int IntKind.i64 a1_0, D.int IntKind.i64 a1_1, D.int IntKind.i64 a1_2, D.int IntKind.i64 a1_3, D.int IntKind.i64 a1_4, D.int IntKind.i64 a1_5, D.int IntKind.i64 a1_6, D.int IntKind.i64 a1_7]] = spec_wyCode.res n a0_0 a0_1 a0_2 a1_0 a1_1 a1_2 a1_3 a1_4 a1_5 a1_6 a1_7 := by kernel_rfl
theorem spec_wyCode.ev {n : Nat} {a0_0 : Int} {a0_1 : Int} {a0_2 : List (List D)} {a1_0 : Int} {a1_1 : Int} {a1_2 : Int} {a1_3 : Int} {a1_4 : Int} {a1_5 : Int} {a1_6 : Int} {a1_7 : Int} {r : List Q} (h : spec_wyCode.res n a0_0 a0_1 a0_2 a1_0 a1_1 a1_2 a1_3 a1_4 a1_5 a1_6 a1_7 = some r) : Snd Tryd.prog C0 96 [.agg [.int .i64 a0_0, .int .i64 a0_1, .sl 1 a0_2], .agg [.int .i64 a1_0, .int .i64 a1_1, .int .i64 a1_2, .int .i64 a1_3, .int .i64 a1_4, .int .i64 a1_5, .int .i64 a1_6, .int .i64 a1_7]] r :=
  snd_ev (C := spec_wyCode.cfg) cfg0 mix rfl rfl rfl rfl rfl (.cons spec_diFaces.ok .nil) .nil rfl Tryd.func96 (by kernel_rfl) (by kernel_rfl) rfl ((spec_wyCode.run n a0_0 a0_1 a0_2 a1_0 a1_1 a1_2 a1_3 a1_4 a1_5 a1_6 a1_7).trans h)

def spec_wyCode.stub : Stub
  | [.agg [.int .i64 gw, .int .i64 gh, .sl 1 es], .agg [.int .i64 x, .int .i64 y, .int .i64 t, .int .i64 n, .int .i64 e, .int .i64 s, .int .i64 w, .int .i64 b]] => .gd (Sp.inR gw 0 7) (.gd (Sp.inR x 0 6) (.gd (Sp.inR y 0 6) (.gd (Sp.Die.good ⟨t, n, e, s, w, b⟩) (.ret [.one (.int .i64 (Sp.codeN gw.toNat ⟨x, y, ⟨t, n, e, s, w, b⟩⟩ : Nat))]))))
  | _ => .fail
theorem spec_wyCode.l3_run {n : Nat} : ∀ (rest done : List Int) (m : Nat) (a : Nat), done.length + rest.length = 6 → rest.length < m → a < 100 * 10 ^ done.length → (∀ z ∈ rest, inR z 0 9 = true) →
    spec_wyCode.l3 n m (a : Int) 6 (done.length : Int) (intC.encs (done ++ rest)) = some [Q.one (.int .i64 (rest.foldl (fun c f => 10 * c + f.toNat) a : Nat))]
  | [], done, m, a, hl, hm, _, _ => by
    obtain ⟨m, rfl⟩ : ∃ m', m = m' + 1 := ⟨m - 1, by simp at hm; omega⟩
    have h1 : ¬ (done.length : Int) < 6 := by simp at hl; omega
    rw [spec_wyCode.l3_eq]
    simp only [h1, decide_false, cond_false, List.foldl_nil]
  | z :: rest, done, m, a, hl, hm, ha, hz => by
    obtain ⟨m, rfl⟩ : ∃ m', m = m' + 1 := ⟨m - 1, by simp at hm; omega⟩
    rw [List.length_cons] at hl hm
    have h1 : (done.length : Int) < 6 := by omega
    have hlt : done.length < (done ++ z :: rest).length := by simp
    have h2 : (done.length : Int) < (((done ++ z :: rest).length : Nat) : Int) := by omega
    have hget : (done ++ z :: rest)[done.length] = z := by
      rw [List.getElem_append_right (by simp)]
      simp
    obtain ⟨z0, z9⟩ := inR_out (hz z List.mem_cons_self)
    have hp : 10 ^ done.length ≤ 10 ^ 5 := Nat.pow_le_pow_right (by omega) (by omega)
    have hb : 10 * a + z.toNat < 100 * 10 ^ (done.length + 1) := by
      rw [Nat.pow_succ]
      omega
    have w1 : IntKind.wrap .i64 (10 * (a : Int)) = 10 * (a : Int) := wrap_in (by omega) (by omega)
    have w2 : IntKind.wrap .i64 (10 * (a : Int) + z) = ((10 * a + z.toNat : Nat) : Int) := by rw [wrap_in (by omega) (by omega)]; omega
    have step := spec_wyCode.l3_run (n := n) rest (done ++ [z]) m (10 * a + z.toNat) (by simp; omega) (by omega) (by rw [List.length_append, List.length_singleton]; exact hb) (fun y hy => hz y (List.mem_cons_of_mem _ hy))
    rw [List.length_append, List.length_singleton, List.append_assoc, List.singleton_append] at step
    rw [spec_wyCode.l3_eq]
    simp only [h1, h2, Cod.encs_len, Int.natCast_nonneg, Int.toNat_natCast, decide_true, cond_true, Option.bind_some, intC_at hlt, hget, wrap_succ (show done.length ≤ LIM by unfold LIM; omega), w1, w2, List.foldl_cons]
    exact step
theorem spec_wyCode.ok : StubOk Tryd.prog C0 96 spec_wyCode.stub := by
  intro args res h
  unfold spec_wyCode.stub at h
  split at h
  · rename_i gw gh es x y t n e s w b
    obtain ⟨h1, h0⟩ := gd_out h
    obtain ⟨h2, h0⟩ := gd_out h0
    obtain ⟨h3, h0⟩ := gd_out h0
    obtain ⟨h4, h0⟩ := gd_out h0
    cases h0
    obtain ⟨N, hN⟩ : ∃ N, 64 ≤ N := ⟨64, Nat.le_refl _⟩
    refine spec_wyCode.ev (n := N) ?_
    unfold spec_wyCode.res
    obtain ⟨w0, w7⟩ := inR_out h1
    obtain ⟨x0, x6⟩ := inR_out h2
    obtain ⟨y0, y6⟩ := inR_out h3
    obtain ⟨G, rfl⟩ := Int.eq_ofNat_of_zero_le w0
    obtain ⟨X, rfl⟩ := Int.eq_ofNat_of_zero_le x0
    obtain ⟨Y, rfl⟩ := Int.eq_ofNat_of_zero_le y0
    have hm : Y * G ≤ 6 * 7 := Nat.mul_le_mul (by omega) (by omega)
    have e1 : (Y : Int) * (G : Int) = ((Y * G : Nat) : Int) := by push_cast; rfl
    have w1 : IntKind.wrap .i64 (IntKind.wrap .i64 ((Y : Int) * (G : Int)) + (X : Int)) = ((Y * G + X : Nat) : Int) := by
      have e2 : IntKind.wrap .i64 ((Y * G : Nat) : Int) = ((Y * G : Nat) : Int) := wrap_in (by omega) (by omega)
      rw [e1, e2, wrap_in (by omega) (by omega)]
      omega
    have key := spec_wyCode.l3_run (n := N) [t, n, e, s, w, b] [] N (Y * G + X) rfl (by simp; omega) (by simp; omega) (faces_in h4)
    rw [w1]
    exact key
  · cases h
/-! spec_wyPlace -/
noncomputable def spec_wyPlace.cfg : Cfg := { C0 with keep := fun | 2 => some [1, 7, 8, 9] | _ => none, nb := 0, M := tabM [], MM := tabB [] }
noncomputable def spec_wyPlace.l2 (n : Nat) (m2 : Nat) (i0 : Int) (l1 : List (List D)) (i2 : Int) (i3 : Int) : Option (List Q) :=
  loopAt spec_wyPlace.cfg [RK.one (LK.int IntKind.i64)] n Tryd.f98 [1, 0, 1, 0] [] m2 (St.mk [V.undef, V.one true (D.int IntKind.i64 i0), V.undef, V.undef, V.undef, V.undef, V.undef, V.one false (D.sl (1 : Nat) l1), V.one true (D.int IntKind.i64 i2), V.one true (D.int IntKind.i64 i3), V.undef, V.undef, V.undef, V.undef, V.undef, V.undef, V.undef, V.undef, V.undef] [])
theorem spec_wyPlace.l2_eq (n : Nat) (m2 : Nat) (i0 : Int) (l1 : List (List D)) (i2 : Int) (i3 : Int) :
    spec_wyPlace.l2 n (m2 + 1) i0 l1 i2 i3 = bif decide (i3 < i2) then bif decide ((0 : Int) ≤ i3) then bif decide (i3 < (↑(List.length l1) : Int)) then Option.bind (Option.bind (some (cellD l1 (Int.toNat i3) (0 : Nat))) (D.int? IntKind.i64)) fun (i1 : Int) => bif i1 == i0 then some [Q.one (D.int IntKind.i64 i3)] else spec_wyPlace.l2 n m2 i0 l1 i2 (IntKind.wrap IntKind.i64 (i3 + (1 : Int))) else none else none else some [Q.one (D.int IntKind.i64 (-1 : Int))] := by kernel_rfl
noncomputable def spec_wyPlace.res (n : Nat) (a0 : List (List D)) (a1 : Int) : Option (List Q) :=
  spec_wyPlace.l2 n n a1 a0 (↑(List.length a0) : Int) (0 : Int)
theorem spec_wyPlace.run (n : Nat) (a0 : List (List D)) (a1 : Int) :
    run1 spec_wyPlace.cfg [RK.one (LK.int IntKind.i64)] n Tryd.f98 [Q.one (D.sl (1 : Nat) a0), Q.one (D.int IntKind.i64 a1)] = spec_wyPlace.res n a0 a1 := by kernel_rfl
theorem spec_wyPlace.ev {n : Nat} {a0 : List (List D)} {a1 : Int} {r : List Q} (h : spec_wyPlace.res n a0 a1 = some r) : Snd Tryd.prog C0 98 [.one (.sl 1 a0), .one (.int .i64 a1)] r :=
  snd_ev (C := spec_wyPlace.cfg) cfg0 mix rfl rfl rfl rfl rfl .nil .nil rfl Tryd.func98 (by kernel_rfl) (by kernel_rfl) rfl ((spec_wyPlace.run n a0 a1).trans h)

theorem spec_wyPlace.l2_run {n : Nat} {v : Int} {L : List Int} (hL : L.length ≤ LIM) : ∀ (d i m : Nat), i + d = L.length → d < m →
    spec_wyPlace.l2 n m v (intC.encs L) ((L.length : Nat) : Int) (i : Int) = some [Q.one (.int .i64 (ixO ((ixOf v (L.drop i)).map (· + i))))] := by
  intro d
  induction d with
  | zero =>
    intro i m hi hm
    obtain ⟨m, rfl⟩ : ∃ m', m = m' + 1 := ⟨m - 1, by omega⟩
    have h1 : ¬ (i : Int) < ((L.length : Nat) : Int) := by omega
    rw [spec_wyPlace.l2_eq, List.drop_of_length_le (by omega)]
    simp only [h1, decide_false, cond_false]
    rfl
  | succ d ih =>
    intro i m hi hm
    obtain ⟨m, rfl⟩ : ∃ m', m = m' + 1 := ⟨m - 1, by omega⟩
    have hlt : i < L.length := by omega
    have h1 : (i : Int) < ((L.length : Nat) : Int) := by omega
    have step := ih (i + 1) m (by omega) (by omega)
    rw [spec_wyPlace.l2_eq, List.drop_eq_getElem_cons hlt, ixOf]
    simp only [h1, Cod.encs_len, Int.natCast_nonneg, Int.toNat_natCast, decide_true, cond_true, intC_at hlt, Option.bind_some, wrap_succ (show i ≤ LIM by omega), step, ieq]
    cases decide (L[i] = v) with
    | true =>
      simp only [cond_true, Option.map_some, Nat.zero_add]
      rfl
    | false =>
      simp only [cond_false, Option.map_map]
      congr 4
      cases ixOf v (L.drop (i + 1)) with
      | none => rfl
      | some j =>
        show ((j + (i + 1) : Nat) : Int) = ((j + 1 + i : Nat) : Int)
        omega
def spec_wyPlace.stub : Stub
  | [.one (.sl 1 es), .one (.int .i64 n)] => .any (intC.decs es) fun l => .ret [.one (.int .i64 (Sp.ixO (Sp.ixOf n l)))]
  | _ => .fail
theorem spec_wyPlace.ok : StubOk Tryd.prog C0 98 spec_wyPlace.stub := by
  intro args res h
  unfold spec_wyPlace.stub at h
  split at h
  · rename_i es v
    obtain ⟨l, h1, h0⟩ := any_out h
    obtain ⟨rfl, hl⟩ := Cod.decs_inv h1
    cases h0
    refine spec_wyPlace.ev (n := l.length + 1) ?_
    unfold spec_wyPlace.res
    rw [Cod.encs_len]
    have key := spec_wyPlace.l2_run (n := l.length + 1) (v := v) hl l.length 0 (l.length + 1) (by omega) (by omega)
    rw [List.drop_zero] at key
    refine Eq.trans key ?_
    congr 4
    cases ixOf v l <;> rfl
  · cases h
/-! spec_wyAll -/
noncomputable def spec_wyAll.cfg : Cfg := { C0 with keep := fun | 4 => some [2, 5, 6, 7] | 7 => some [2, 5, 6, 7, 8] | _ => none, nb := 0, M := tabM [(97, spec_boRoll_i.stub), (96, spec_wyCode.stub), (98, spec_wyPlace.stub)], MM := tabB [] }
noncomputable def spec_wyAll.l4 (n : Nat) (m4 : Nat) (i0 : Int) (i1 : Int) (i2 : Int) (l3 : List (List D)) (l4 : List (List D)) (l5 : List (List D)) : Option (List Q) :=
  loopAt spec_wyAll.cfg [RK.own (16 : Nat)] n Tryd.f71 [1, 1, 1, 0, 1, 0] [] m4 (St.mk [V.undef, V.undef, V.rp (0 : Nat) (0 : Nat), V.undef, V.undef, V.rw (1 : Nat), V.rw (2 : Nat), V.one true (D.int IntKind.i64 i0), V.undef, V.undef, V.undef, V.undef, V.undef, V.undef, V.undef, V.undef, V.undef, V.undef, V.undef, V.undef, V.undef, V.undef, V.undef, V.undef, V.undef, V.undef, V.undef, V.undef, V.undef, V.undef, V.undef, V.undef, V.undef, V.undef, V.undef, V.undef, V.undef, V.undef, V.undef, V.undef, V.undef, V.undef, V.undef, V.undef, V.undef, V.undef, V.undef, V.undef, V.undef, V.undef, V.undef, V.undef, V.undef, V.undef, V.undef, V.undef, V.undef, V.undef, V.undef, V.undef, V.undef, V.undef, V.undef, V.undef, V.undef, V.undef, V.undef, V.undef, V.undef, V.undef, V.undef, V.undef, V.undef, V.undef, V.undef, V.undef, V.undef, V.undef, V.undef, V.undef, V.undef, V.undef, V.undef, V.undef, V.undef, V.undef, V.undef, V.undef, V.undef, V.undef, V.undef, V.undef, V.undef, V.undef, V.undef, V.undef, V.undef, V.undef, V.undef, V.undef, V.undef, V.undef, V.undef, V.undef, V.undef, V.undef, V.undef, V.undef, V.undef] [Ob.box [V.one true (D.int IntKind.i64 i1), V.one true (D.int IntKind.i64 i2), V.one false (D.sl (1 : Nat) l3)], Ob.row false (16 : Nat) l4, Ob.row false (1 : Nat) l5])
noncomputable def spec_wyAll.l7 (n : Nat) (m4 : Nat) (m7 : Nat) (i0 : Int) (i1 : Int) (i2 : Int) (i3 : Int) (l4 : List (List D)) (l5 : List (List D)) (l6 : List (List D)) : Option (List Q) :=
  loopAt spec_wyAll.cfg [RK.own (16 : Nat)] n Tryd.f71 [1, 1, 1, 0, 1, 0, 0, 1, 0, 0, 1, 0] [m4] m7 (St.mk [V.undef, V.undef, V.rp (0 : Nat) (0 : Nat), V.undef, V.undef, V.rw (1 : Nat), V.rw (2 : Nat), V.one true (D.int IntKind.i64 i0), V.one true (D.int IntKind.i64 i1), V.undef, V.undef, V.undef, V.undef, V.undef, V.undef, V.undef, V.undef, V.undef, V.undef, V.undef, V.undef, V.undef, V.undef, V.undef, V.undef, V.undef, V.undef, V.undef, V.undef, V.undef, V.undef, V.undef, V.undef, V.undef, V.undef, V.undef, V.undef, V.undef, V.undef, V.undef, V.undef, V.undef, V.undef, V.undef, V.undef, V.undef, V.undef, V.undef, V.undef, V.undef, V.undef, V.undef, V.undef, V.undef, V.undef, V.undef, V.undef, V.undef, V.undef, V.undef, V.undef, V.undef, V.undef, V.undef, V.undef, V.undef, V.undef, V.undef, V.undef, V.undef, V.undef, V.undef, V.undef, V.undef, V.undef, V.undef, V.undef, V.undef, V.undef, V.undef, V.undef, V.undef, V.undef, V.undef, V.undef, V.undef, V.undef, V.undef, V.undef, V.undef, V.undef, V.undef, V.undef, V.undef, V.undef, V.undef, V.undef, V.undef, V.undef, V.undef, V.undef, V.undef, V.undef, V.undef, V.undef, V.undef, V.undef, V.undef, V.undef] [Ob.box [V.one true (D.int IntKind.i64 i2), V.one true (D.int IntKind.i64 i3), V.one false (D.sl (1 : Nat) l4)], Ob.row false (16 : Nat) l5, Ob.row false (1 : Nat) l6])
theorem spec_wyAll.l4_eq (n : Nat) (m4 : Nat) (i0 : Int) (i1 : Int) (i2 : Int) (l3 : List (List D)) (l4 : List (List D)) (l5 : List (List D)) :
    spec_wyAll.l4 n (m4 + 1) i0 i1 i2 l3 l4 l5 = bif decide (i0 < (↑(List.length l4) : Int)) then spec_wyAll.l7 n m4 n i0 (0 : Int) i1 i2 l3 l4 l5 else some [Q.one (D.sl (16 : Nat) l4)] := by kernel_rfl
theorem spec_wyAll.l7_eq (n : Nat) (m4 : Nat) (m7 : Nat) (i0 : Int) (i1 : Int) (i2 : Int) (i3 : Int) (l4 : List (List D)) (l5 : List (List D)) (l6 : List (List D)) :
    spec_wyAll.l7 n m4 (m7 + 1) i0 i1 i2 i3 l4 l5 l6 = bif decide (i1 < (4 : Int)) then bif decide ((0 : Int) ≤ i0) then bif decide (i0 < (↑(List.length l5) : Int)) then bif decide ((0 : Int) ≤ i1) then bif decide (i1 < (4 : Int)) then bif decide ((12 : Nat) + Int.toNat i1 * (1 : Nat) + (1 : Nat) ≤ (16 : Nat)) then bif decide ((0 : Int) ≤ i0) then bif decide (i0 < (↑(List.length (setRow (16 : Nat) l5 (Int.toNat i0) ((12 : Nat) + Int.toNat i1 * (1 : Nat)) [D.int IntKind.i64 (-1 : Int)])) : Int)) then Option.bind (Option.bind (some (cellD (setRow (16 : Nat) l5 (Int.toNat i0) ((12 : Nat) + Int.toNat i1 * (1 : Nat)) [D.int IntKind.i64 (-1 : Int)]) (Int.toNat i0) (0 : Nat))) (D.int? IntKind.i64)) fun (i1_1 : Int) => Option.bind (Option.bind (some (cellD (setRow (16 : Nat) l5 (Int.toNat i0) ((12 : Nat) + Int.toNat i1 * (1 : Nat)) [D.int IntKind.i64 (-1 : Int)]) (Int.toNat i0) (1 : Nat))) (D.int? IntKind.i64)) fun (i2_1 : Int) => Option.bind (Option.bind (some (cellD (setRow (16 : Nat) l5 (Int.toNat i0) ((12 : Nat) + Int.toNat i1 * (1 : Nat)) [D.int IntKind.i64 (-1 : Int)]) (Int.toNat i0) (2 : Nat))) (D.int? IntKind.i64)) fun (i3_1 : Int) => Option.bind (Option.bind (some (cellD (setRow (16 : Nat) l5 (Int.toNat i0) ((12 : Nat) + Int.toNat i1 * (1 : Nat)) [D.int IntKind.i64 (-1 : Int)]) (Int.toNat i0) (3 : Nat))) (D.int? IntKind.i64)) fun (i4 : Int) => Option.bind (Option.bind (some (cellD (setRow (16 : Nat) l5 (Int.toNat i0) ((12 : Nat) + Int.toNat i1 * (1 : Nat)) [D.int IntKind.i64 (-1 : Int)]) (Int.toNat i0) (4 : Nat))) (D.int? IntKind.i64)) fun (i5 : Int) => Option.bind (Option.bind (some (cellD (setRow (16 : Nat) l5 (Int.toNat i0) ((12 : Nat) + Int.toNat i1 * (1 : Nat)) [D.int IntKind.i64 (-1 : Int)]) (Int.toNat i0) (5 : Nat))) (D.int? IntKind.i64)) fun (i6 : Int) => Option.bind (Option.bind (some (cellD (setRow (16 : Nat) l5 (Int.toNat i0) ((12 : Nat) + Int.toNat i1 * (1 : Nat)) [D.int IntKind.i64 (-1 : Int)]) (Int.toNat i0) (6 : Nat))) (D.int? IntKind.i64)) fun (i7 : Int) => Option.bind (Option.bind (some (cellD (setRow (16 : Nat) l5 (Int.toNat i0) ((12 : Nat) + Int.toNat i1 * (1 : Nat)) [D.int IntKind.i64 (-1 : Int)]) (Int.toNat i0) (7 : Nat))) (D.int? IntKind.i64)) fun (i8 : Int) => Option.bind (Cod.decs u8C l4) fun (l9 : List UInt8) => bif inR i2 (0 : Int) (7 : Int) then bif inR i3 (0 : Int) (7 : Int) then bif decide (List.length l9 = Int.toNat i2 * Int.toNat i3) then bif inR i1_1 (0 : Int) (6 : Int) then bif inR i2_1 (0 : Int) (6 : Int) then bif flC i2 i3 l9 (Sta.x (rollK (Sta.mk i1_1 i2_1 (Die.mk i3_1 i4 i5 i6 i7 i8)) i1)) (Sta.y (rollK (Sta.mk i1_1 i2_1 (Die.mk i3_1 i4 i5 i6 i7 i8)) i1)) then bif inR i2 (0 : Int) (7 : Int) then bif inR (Sta.x (rollK (Sta.mk i1_1 i2_1 (Die.mk i3_1 i4 i5 i6 i7 i8)) i1)) (0 : Int) (6 : Int) then bif inR (Sta.y (rollK (Sta.mk i1_1 i2_1 (Die.mk i3_1 i4 i5 i6 i7 i8)) i1)) (0 : Int) (6 : Int) then bif Die.good (Die.mk (Die.t (Sta.d (rollK (Sta.mk i1_1 i2_1 (Die.mk i3_1 i4 i5 i6 i7 i8)) i1))) (Die.n (Sta.d (rollK (Sta.mk i1_1 i2_1 (Die.mk i3_1 i4 i5 i6 i7 i8)) i1))) (Die.e (Sta.d (rollK (Sta.mk i1_1 i2_1 (Die.mk i3_1 i4 i5 i6 i7 i8)) i1))) (Die.s (Sta.d (rollK (Sta.mk i1_1 i2_1 (Die.mk i3_1 i4 i5 i6 i7 i8)) i1))) (Die.w (Sta.d (rollK (Sta.mk i1_1 i2_1 (Die.mk i3_1 i4 i5 i6 i7 i8)) i1))) (Die.b (Sta.d (rollK (Sta.mk i1_1 i2_1 (Die.mk i3_1 i4 i5 i6 i7 i8)) i1)))) then Option.bind (Cod.decs intC l6) fun (l10 : List Int) => bif decide (ixO (ixOf (↑(codeN (Int.toNat i2) (Sta.mk (Sta.x (rollK (Sta.mk i1_1 i2_1 (Die.mk i3_1 i4 i5 i6 i7 i8)) i1)) (Sta.y (rollK (Sta.mk i1_1 i2_1 (Die.mk i3_1 i4 i5 i6 i7 i8)) i1)) (Die.mk (Die.t (Sta.d (rollK (Sta.mk i1_1 i2_1 (Die.mk i3_1 i4 i5 i6 i7 i8)) i1))) (Die.n (Sta.d (rollK (Sta.mk i1_1 i2_1 (Die.mk i3_1 i4 i5 i6 i7 i8)) i1))) (Die.e (Sta.d (rollK (Sta.mk i1_1 i2_1 (Die.mk i3_1 i4 i5 i6 i7 i8)) i1))) (Die.s (Sta.d (rollK (Sta.mk i1_1 i2_1 (Die.mk i3_1 i4 i5 i6 i7 i8)) i1))) (Die.w (Sta.d (rollK (Sta.mk i1_1 i2_1 (Die.mk i3_1 i4 i5 i6 i7 i8)) i1))) (Die.b (Sta.d (rollK (Sta.mk i1_1 i2_1 (Die.mk i3_1 i4 i5 i6 i7 i8)) i1)))))) : Int) l10) < (0 : Int)) then bif decide ((0 : Int) ≤ i0) then bif decide (i0 < (↑(List.length (setRow (16 : Nat) l5 (Int.toNat i0) ((12 : Nat) + Int.toNat i1 * (1 : Nat)) [D.int IntKind.i64 (-1 : Int)])) : Int)) then Option.bind (Option.bind (some (cellD (setRow (16 : Nat) l5 (Int.toNat i0) ((12 : Nat) + Int.toNat i1 * (1 : Nat)) [D.int IntKind.i64 (-1 : Int)]) (Int.toNat i0) (8 : Nat))) (D.int? IntKind.i64)) fun (i11 : Int) => bif decide (List.length (setRow (16 : Nat) l5 (Int.toNat i0) ((12 : Nat) + Int.toNat i1 * (1 : Nat)) [D.int IntKind.i64 (-1 : Int)]) + (1 : Nat) ≤ (17179869184 : Nat)) then bif inR i2 (0 : Int) (7 : Int) then bif inR (Sta.x (rollK (Sta.mk i1_1 i2_1 (Die.mk i3_1 i4 i5 i6 i7 i8)) i1)) (0 : Int) (6 : Int) then bif inR (Sta.y (rollK (Sta.mk i1_1 i2_1 (Die.mk i3_1 i4 i5 i6 i7 i8)) i1)) (0 : Int) (6 : Int) then bif Die.good (Die.mk (Die.t (Sta.d (rollK (Sta.mk i1_1 i2_1 (Die.mk i3_1 i4 i5 i6 i7 i8)) i1))) (Die.n (Sta.d (rollK (Sta.mk i1_1 i2_1 (Die.mk i3_1 i4 i5 i6 i7 i8)) i1))) (Die.e (Sta.d (rollK (Sta.mk i1_1 i2_1 (Die.mk i3_1 i4 i5 i6 i7 i8)) i1))) (Die.s (Sta.d (rollK (Sta.mk i1_1 i2_1 (Die.mk i3_1 i4 i5 i6 i7 i8)) i1))) (Die.w (Sta.d (rollK (Sta.mk i1_1 i2_1 (Die.mk i3_1 i4 i5 i6 i7 i8)) i1))) (Die.b (Sta.d (rollK (Sta.mk i1_1 i2_1 (Die.mk i3_1 i4 i5 i6 i7 i8)) i1)))) then bif decide (List.length l6 + (1 : Nat) ≤ (17179869184 : Nat)) then bif decide ((↑(List.length (setRow (16 : Nat) l5 (Int.toNat i0) ((12 : Nat) + Int.toNat i1 * (1 : Nat)) [D.int IntKind.i64 (-1 : Int)])) : Int) < (↑(List.length (setRow (16 : Nat) l5 (Int.toNat i0) ((12 : Nat) + Int.toNat i1 * (1 : Nat)) [D.int IntKind.i64 (-1 : Int)] ++ [[D.int IntKind.i64 (Sta.x (rollK (Sta.mk i1_1 i2_1 (Die.mk i3_1 i4 i5 i6 i7 i8)) i1)), D.int IntKind.i64 (Sta.y (rollK (Sta.mk i1_1 i2_1 (Die.mk i3_1 i4 i5 i6 i7 i8)) i1)), D.int IntKind.i64 (Die.t (Sta.d (rollK (Sta.mk i1_1 i2_1 (Die.mk i3_1 i4 i5 i6 i7 i8)) i1))), D.int IntKind.i64 (Die.n (Sta.d (rollK (Sta.mk i1_1 i2_1 (Die.mk i3_1 i4 i5 i6 i7 i8)) i1))), D.int IntKind.i64 (Die.e (Sta.d (rollK (Sta.mk i1_1 i2_1 (Die.mk i3_1 i4 i5 i6 i7 i8)) i1))), D.int IntKind.i64 (Die.s (Sta.d (rollK (Sta.mk i1_1 i2_1 (Die.mk i3_1 i4 i5 i6 i7 i8)) i1))), D.int IntKind.i64 (Die.w (Sta.d (rollK (Sta.mk i1_1 i2_1 (Die.mk i3_1 i4 i5 i6 i7 i8)) i1))), D.int IntKind.i64 (Die.b (Sta.d (rollK (Sta.mk i1_1 i2_1 (Die.mk i3_1 i4 i5 i6 i7 i8)) i1))), D.int IntKind.i64 (IntKind.wrap IntKind.i64 (i11 + (1 : Int))), D.int IntKind.i64 (0 : Int), D.int IntKind.i64 i0, D.int IntKind.i64 i1, D.int IntKind.i64 (0 : Int), D.int IntKind.i64 (0 : Int), D.int IntKind.i64 (0 : Int), D.int IntKind.i64 (0 : Int)]])) : Int)) then Option.bind (Option.bind (some (cellD (setRow (16 : Nat) l5 (Int.toNat i0) ((12 : Nat) + Int.toNat i1 * (1 : Nat)) [D.int IntKind.i64 (-1 : Int)] ++ [[D.int IntKind.i64 (Sta.x (rollK (Sta.mk i1_1 i2_1 (Die.mk i3_1 i4 i5 i6 i7 i8)) i1)), D.int IntKind.i64 (Sta.y (rollK (Sta.mk i1_1 i2_1 (Die.mk i3_1 i4 i5 i6 i7 i8)) i1)), D.int IntKind.i64 (Die.t (Sta.d (rollK (Sta.mk i1_1 i2_1 (Die.mk i3_1 i4 i5 i6 i7 i8)) i1))), D.int IntKind.i64 (Die.n (Sta.d (rollK (Sta.mk i1_1 i2_1 (Die.mk i3_1 i4 i5 i6 i7 i8)) i1))), D.int IntKind.i64 (Die.e (Sta.d (rollK (Sta.mk i1_1 i2_1 (Die.mk i3_1 i4 i5 i6 i7 i8)) i1))), D.int IntKind.i64 (Die.s (Sta.d (rollK (Sta.mk i1_1 i2_1 (Die.mk i3_1 i4 i5 i6 i7 i8)) i1))), D.int IntKind.i64 (Die.w (Sta.d (rollK (Sta.mk i1_1 i2_1 (Die.mk i3_1 i4 i5 i6 i7 i8)) i1))), D.int IntKind.i64 (Die.b (Sta.d (rollK (Sta.mk i1_1 i2_1 (Die.mk i3_1 i4 i5 i6 i7 i8)) i1))), D.int IntKind.i64 (IntKind.wrap IntKind.i64 (i11 + (1 : Int))), D.int IntKind.i64 (0 : Int), D.int IntKind.i64 i0, D.int IntKind.i64 i1, D.int IntKind.i64 (0 : Int), D.int IntKind.i64 (0 : Int), D.int IntKind.i64 (0 : Int), D.int IntKind.i64 (0 : Int)]]) (Int.toNat (↑(List.length (setRow (16 : Nat) l5 (Int.toNat i0) ((12 : Nat) + Int.toNat i1 * (1 : Nat)) [D.int IntKind.i64 (-1 : Int)])) : Int)) (8 : Nat))) (D.int? IntKind.i64)) fun (i12 : Int) => bif decide ((0 : Int) ≤ i0) then bif decide (i0 < (↑(List.length (setRow (16 : Nat) l5 (Int.toNat i0) ((12 : Nat) + Int.toNat i1 * (1 : Nat)) [D.int IntKind.i64 (-1 : Int)] ++ [[D.int IntKind.i64 (Sta.x (rollK (Sta.mk i1_1 i2_1 (Die.mk i3_1 i4 i5 i6 i7 i8)) i1)), D.int IntKind.i64 (Sta.y (rollK (Sta.mk i1_1 i2_1 (Die.mk i3_1 i4 i5 i6 i7 i8)) i1)), D.int IntKind.i64 (Die.t (Sta.d (rollK (Sta.mk i1_1 i2_1 (Die.mk i3_1 i4 i5 i6 i7 i8)) i1))), D.int IntKind.i64 (Die.n (Sta.d (rollK (Sta.mk i1_1 i2_1 (Die.mk i3_1 i4 i5 i6 i7 i8)) i1))), D.int IntKind.i64 (Die.e (Sta.d (rollK (Sta.mk i1_1 i2_1 (Die.mk i3_1 i4 i5 i6 i7 i8)) i1))), D.int IntKind.i64 (Die.s (Sta.d (rollK (Sta.mk i1_1 i2_1 (Die.mk i3_1 i4 i5 i6 i7 i8)) i1))), D.int IntKind.i64 (Die.w (Sta.d (rollK (Sta.mk i1_1 i2_1 (Die.mk i3_1 i4 i5 i6 i7 i8)) i1))), D.int IntKind.i64 (Die.b (Sta.d (rollK (Sta.mk i1_1 i2_1 (Die.mk i3_1 i4 i5 i6 i7 i8)) i1))), D.int IntKind.i64 (IntKind.wrap IntKind.i64 (i11 + (1 : Int))), D.int IntKind.i64 (0 : Int), D.int IntKind.i64 i0, D.int IntKind.i64 i1, D.int IntKind.i64 (0 : Int), D.int IntKind.i64 (0 : Int), D.int IntKind.i64 (0 : Int), D.int IntKind.i64 (0 : Int)]])) : Int)) then Option.bind (Option.bind (some (cellD (setRow (16 : Nat) l5 (Int.toNat i0) ((12 : Nat) + Int.toNat i1 * (1 : Nat)) [D.int IntKind.i64 (-1 : Int)] ++ [[D.int IntKind.i64 (Sta.x (rollK (Sta.mk i1_1 i2_1 (Die.mk i3_1 i4 i5 i6 i7 i8)) i1)), D.int IntKind.i64 (Sta.y (rollK (Sta.mk i1_1 i2_1 (Die.mk i3_1 i4 i5 i6 i7 i8)) i1)), D.int IntKind.i64 (Die.t (Sta.d (rollK (Sta.mk i1_1 i2_1 (Die.mk i3_1 i4 i5 i6 i7 i8)) i1))), D.int IntKind.i64 (Die.n (Sta.d (rollK (Sta.mk i1_1 i2_1 (Die.mk i3_1 i4 i5 i6 i7 i8)) i1))), D.int IntKind.i64 (Die.e (Sta.d (rollK (Sta.mk i1_1 i2_1 (Die.mk i3_1 i4 i5 i6 i7 i8)) i1))), D.int IntKind.i64 (Die.s (Sta.d (rollK (Sta.mk i1_1 i2_1 (Die.mk i3_1 i4 i5 i6 i7 i8)) i1))), D.int IntKind.i64 (Die.w (Sta.d (rollK (Sta.mk i1_1 i2_1 (Die.mk i3_1 i4 i5 i6 i7 i8)) i1))), D.int IntKind.i64 (Die.b (Sta.d (rollK (Sta.mk i1_1 i2_1 (Die.mk i3_1 i4 i5 i6 i7 i8)) i1))), D.int IntKind.i64 (IntKind.wrap IntKind.i64 (i11 + (1 : Int))), D.int IntKind.i64 (0 : Int), D.int IntKind.i64 i0, D.int IntKind.i64 i1, D.int IntKind.i64 (0 : Int), D.int IntKind.i64 (0 : Int), D.int IntKind.i64 (0 : Int), D.int IntKind.i64 (0 : Int)]]) (Int.toNat i0) (8 : Nat))) (D.int? IntKind.i64)) fun (i13 : Int) => bif i12 == IntKind.wrap IntKind.i64 (i13 + (1 : Int)) then bif decide ((↑(List.length (setRow (16 : Nat) l5 (Int.toNat i0) ((12 : Nat) + Int.toNat i1 * (1 : Nat)) [D.int IntKind.i64 (-1 : Int)])) : Int) < (↑(List.length (setRow (16 : Nat) l5 (Int.toNat i0) ((12 : Nat) + Int.toNat i1 * (1 : Nat)) [D.int IntKind.i64 (-1 : Int)] ++ [[D.int IntKind.i64 (Sta.x (rollK (Sta.mk i1_1 i2_1 (Die.mk i3_1 i4 i5 i6 i7 i8)) i1)), D.int IntKind.i64 (Sta.y (rollK (Sta.mk i1_1 i2_1 (Die.mk i3_1 i4 i5 i6 i7 i8)) i1)), D.int IntKind.i64 (Die.t (Sta.d (rollK (Sta.mk i1_1 i2_1 (Die.mk i3_1 i4 i5 i6 i7 i8)) i1))), D.int IntKind.i64 (Die.n (Sta.d (rollK (Sta.mk i1_1 i2_1 (Die.mk i3_1 i4 i5 i6 i7 i8)) i1))), D.int IntKind.i64 (Die.e (Sta.d (rollK (Sta.mk i1_1 i2_1 (Die.mk i3_1 i4 i5 i6 i7 i8)) i1))), D.int IntKind.i64 (Die.s (Sta.d (rollK (Sta.mk i1_1 i2_1 (Die.mk i3_1 i4 i5 i6 i7 i8)) i1))), D.int IntKind.i64 (Die.w (Sta.d (rollK (Sta.mk i1_1 i2_1 (Die.mk i3_1 i4 i5 i6 i7 i8)) i1))), D.int IntKind.i64 (Die.b (Sta.d (rollK (Sta.mk i1_1 i2_1 (Die.mk i3_1 i4 i5 i6 i7 i8)) i1))), D.int IntKind.i64 (IntKind.wrap IntKind.i64 (i11 + (1 : Int))), D.int IntKind.i64 (0 : Int), D.int IntKind.i64 i0, D.int IntKind.i64 i1, D.int IntKind.i64 (0 : Int), D.int IntKind.i64 (0 : Int), D.int IntKind.i64 (0 : Int), D.int IntKind.i64 (0 : Int)]])) : Int)) then Option.bind (Option.bind (some (cellD (setRow (16 : Nat) l5 (Int.toNat i0) ((12 : Nat) + Int.toNat i1 * (1 : Nat)) [D.int IntKind.i64 (-1 : Int)] ++ [[D.int IntKind.i64 (Sta.x (rollK (Sta.mk i1_1 i2_1 (Die.mk i3_1 i4 i5 i6 i7 i8)) i1)), D.int IntKind.i64 (Sta.y (rollK (Sta.mk i1_1 i2_1 (Die.mk i3_1 i4 i5 i6 i7 i8)) i1)), D.int IntKind.i64 (Die.t (Sta.d (rollK (Sta.mk i1_1 i2_1 (Die.mk i3_1 i4 i5 i6 i7 i8)) i1))), D.int IntKind.i64 (Die.n (Sta.d (rollK (Sta.mk i1_1 i2_1 (Die.mk i3_1 i4 i5 i6 i7 i8)) i1))), D.int IntKind.i64 (Die.e (Sta.d (rollK (Sta.mk i1_1 i2_1 (Die.mk i3_1 i4 i5 i6 i7 i8)) i1))), D.int IntKind.i64 (Die.s (Sta.d (rollK (Sta.mk i1_1 i2_1 (Die.mk i3_1 i4 i5 i6 i7 i8)) i1))), D.int IntKind.i64 (Die.w (Sta.d (rollK (Sta.mk i1_1 i2_1 (Die.mk i3_1 i4 i5 i6 i7 i8)) i1))), D.int IntKind.i64 (Die.b (Sta.d (rollK (Sta.mk i1_1 i2_1 (Die.mk i3_1 i4 i5 i6 i7 i8)) i1))), D.int IntKind.i64 (IntKind.wrap IntKind.i64 (i11 + (1 : Int))), D.int IntKind.i64 (0 : Int), D.int IntKind.i64 i0, D.int IntKind.i64 i1, D.int IntKind.i64 (0 : Int), D.int IntKind.i64 (0 : Int), D.int IntKind.i64 (0 : Int), D.int IntKind.i64 (0 : Int)]]) (Int.toNat (↑(List.length (setRow (16 : Nat) l5 (Int.toNat i0) ((12 : Nat) + Int.toNat i1 * (1 : Nat)) [D.int IntKind.i64 (-1 : Int)])) : Int)) (9 : Nat))) (D.int? IntKind.i64)) fun (i14 : Int) => bif decide ((0 : Int) ≤ i0) then bif decide (i0 < (↑(List.length (setRow (16 : Nat) l5 (Int.toNat i0) ((12 : Nat) + Int.toNat i1 * (1 : Nat)) [D.int IntKind.i64 (-1 : Int)] ++ [[D.int IntKind.i64 (Sta.x (rollK (Sta.mk i1_1 i2_1 (Die.mk i3_1 i4 i5 i6 i7 i8)) i1)), D.int IntKind.i64 (Sta.y (rollK (Sta.mk i1_1 i2_1 (Die.mk i3_1 i4 i5 i6 i7 i8)) i1)), D.int IntKind.i64 (Die.t (Sta.d (rollK (Sta.mk i1_1 i2_1 (Die.mk i3_1 i4 i5 i6 i7 i8)) i1))), D.int IntKind.i64 (Die.n (Sta.d (rollK (Sta.mk i1_1 i2_1 (Die.mk i3_1 i4 i5 i6 i7 i8)) i1))), D.int IntKind.i64 (Die.e (Sta.d (rollK (Sta.mk i1_1 i2_1 (Die.mk i3_1 i4 i5 i6 i7 i8)) i1))), D.int IntKind.i64 (Die.s (Sta.d (rollK (Sta.mk i1_1 i2_1 (Die.mk i3_1 i4 i5 i6 i7 i8)) i1))), D.int IntKind.i64 (Die.w (Sta.d (rollK (Sta.mk i1_1 i2_1 (Die.mk i3_1 i4 i5 i6 i7 i8)) i1))), D.int IntKind.i64 (Die.b (Sta.d (rollK (Sta.mk i1_1 i2_1 (Die.mk i3_1 i4 i5 i6 i7 i8)) i1))), D.int IntKind.i64 (IntKind.wrap IntKind.i64 (i11 + (1 : Int))), D.int IntKind.i64 (0 : Int), D.int IntKind.i64 i0, D.int IntKind.i64 i1, D.int IntKind.i64 (0 : Int), D.int IntKind.i64 (0 : Int), D.int IntKind.i64 (0 : Int), D.int IntKind.i64 (0 : Int)]])) : Int)) then Option.bind (Option.bind (some (cellD (setRow (16 : Nat) l5 (Int.toNat i0) ((12 : Nat) + Int.toNat i1 * (1 : Nat)) [D.int IntKind.i64 (-1 : Int)] ++ [[D.int IntKind.i64 (Sta.x (rollK (Sta.mk i1_1 i2_1 (Die.mk i3_1 i4 i5 i6 i7 i8)) i1)), D.int IntKind.i64 (Sta.y (rollK (Sta.mk i1_1 i2_1 (Die.mk i3_1 i4 i5 i6 i7 i8)) i1)), D.int IntKind.i64 (Die.t (Sta.d (rollK (Sta.mk i1_1 i2_1 (Die.mk i3_1 i4 i5 i6 i7 i8)) i1))), D.int IntKind.i64 (Die.n (Sta.d (rollK (Sta.mk i1_1 i2_1 (Die.mk i3_1 i4 i5 i6 i7 i8)) i1))), D.int IntKind.i64 (Die.e (Sta.d (rollK (Sta.mk i1_1 i2_1 (Die.mk i3_1 i4 i5 i6 i7 i8)) i1))), D.int IntKind.i64 (Die.s (Sta.d (rollK (Sta.mk i1_1 i2_1 (Die.mk i3_1 i4 i5 i6 i7 i8)) i1))), D.int IntKind.i64 (Die.w (Sta.d (rollK (Sta.mk i1_1 i2_1 (Die.mk i3_1 i4 i5 i6 i7 i8)) i1))), D.int IntKind.i64 (Die.b (Sta.d (rollK (Sta.mk i1_1 i2_1 (Die.mk i3_1 i4 i5 i6 i7 i8)) i1))), D.int IntKind.i64 (IntKind.wrap IntKind.i64 (i11 + (1 : Int))), D.int IntKind.i64 (0 : Int), D.int IntKind.i64 i0, D.int IntKind.i64 i1, D.int IntKind.i64 (0 : Int), D.int IntKind.i64 (0 : Int), D.int IntKind.i64 (0 : Int), D.int IntKind.i64 (0 : Int)]]) (Int.toNat i0) (9 : Nat))) (D.int? IntKind.i64)) fun (i15 : Int) => bif decide ((↑(List.length (setRow (16 : Nat) l5 (Int.toNat i0) ((12 : Nat) + Int.toNat i1 * (1 : Nat)) [D.int IntKind.i64 (-1 : Int)])) : Int) < (↑(List.length (setRow (16 : Nat) l5 (Int.toNat i0) ((12 : Nat) + Int.toNat i1 * (1 : Nat)) [D.int IntKind.i64 (-1 : Int)] ++ [[D.int IntKind.i64 (Sta.x (rollK (Sta.mk i1_1 i2_1 (Die.mk i3_1 i4 i5 i6 i7 i8)) i1)), D.int IntKind.i64 (Sta.y (rollK (Sta.mk i1_1 i2_1 (Die.mk i3_1 i4 i5 i6 i7 i8)) i1)), D.int IntKind.i64 (Die.t (Sta.d (rollK (Sta.mk i1_1 i2_1 (Die.mk i3_1 i4 i5 i6 i7 i8)) i1))), D.int IntKind.i64 (Die.n (Sta.d (rollK (Sta.mk i1_1 i2_1 (Die.mk i3_1 i4 i5 i6 i7 i8)) i1))), D.int IntKind.i64 (Die.e (Sta.d (rollK (Sta.mk i1_1 i2_1 (Die.mk i3_1 i4 i5 i6 i7 i8)) i1))), D.int IntKind.i64 (Die.s (Sta.d (rollK (Sta.mk i1_1 i2_1 (Die.mk i3_1 i4 i5 i6 i7 i8)) i1))), D.int IntKind.i64 (Die.w (Sta.d (rollK (Sta.mk i1_1 i2_1 (Die.mk i3_1 i4 i5 i6 i7 i8)) i1))), D.int IntKind.i64 (Die.b (Sta.d (rollK (Sta.mk i1_1 i2_1 (Die.mk i3_1 i4 i5 i6 i7 i8)) i1))), D.int IntKind.i64 (IntKind.wrap IntKind.i64 (i11 + (1 : Int))), D.int IntKind.i64 (0 : Int), D.int IntKind.i64 i0, D.int IntKind.i64 i1, D.int IntKind.i64 (0 : Int), D.int IntKind.i64 (0 : Int), D.int IntKind.i64 (0 : Int), D.int IntKind.i64 (0 : Int)]])) : Int)) then bif decide ((0 : Int) ≤ i0) then bif decide (i0 < (↑(List.length (setRow (16 : Nat) (setRow (16 : Nat) l5 (Int.toNat i0) ((12 : Nat) + Int.toNat i1 * (1 : Nat)) [D.int IntKind.i64 (-1 : Int)] ++ [[D.int IntKind.i64 (Sta.x (rollK (Sta.mk i1_1 i2_1 (Die.mk i3_1 i4 i5 i6 i7 i8)) i1)), D.int IntKind.i64 (Sta.y (rollK (Sta.mk i1_1 i2_1 (Die.mk i3_1 i4 i5 i6 i7 i8)) i1)), D.int IntKind.i64 (Die.t (Sta.d (rollK (Sta.mk i1_1 i2_1 (Die.mk i3_1 i4 i5 i6 i7 i8)) i1))), D.int IntKind.i64 (Die.n (Sta.d (rollK (Sta.mk i1_1 i2_1 (Die.mk i3_1 i4 i5 i6 i7 i8)) i1))), D.int IntKind.i64 (Die.e (Sta.d (rollK (Sta.mk i1_1 i2_1 (Die.mk i3_1 i4 i5 i6 i7 i8)) i1))), D.int IntKind.i64 (Die.s (Sta.d (rollK (Sta.mk i1_1 i2_1 (Die.mk i3_1 i4 i5 i6 i7 i8)) i1))), D.int IntKind.i64 (Die.w (Sta.d (rollK (Sta.mk i1_1 i2_1 (Die.mk i3_1 i4 i5 i6 i7 i8)) i1))), D.int IntKind.i64 (Die.b (Sta.d (rollK (Sta.mk i1_1 i2_1 (Die.mk i3_1 i4 i5 i6 i7 i8)) i1))), D.int IntKind.i64 (IntKind.wrap IntKind.i64 (i11 + (1 : Int))), D.int IntKind.i64 (0 : Int), D.int IntKind.i64 i0, D.int IntKind.i64 i1, D.int IntKind.i64 (0 : Int), D.int IntKind.i64 (0 : Int), D.int IntKind.i64 (0 : Int), D.int IntKind.i64 (0 : Int)]]) (Int.toNat (↑(List.length (setRow (16 : Nat) l5 (Int.toNat i0) ((12 : Nat) + Int.toNat i1 * (1 : Nat)) [D.int IntKind.i64 (-1 : Int)])) : Int)) (9 : Nat) [D.int IntKind.i64 (IntKind.wrap IntKind.i64 (i14 + i15))])) : Int)) then bif decide ((0 : Int) ≤ i1) then bif decide (i1 < (4 : Int)) then bif decide ((12 : Nat) + Int.toNat i1 * (1 : Nat) + (1 : Nat) ≤ (16 : Nat)) then spec_wyAll.l7 n m4 m7 i0 (IntKind.wrap IntKind.i64 (i1 + (1 : Int))) i2 i3 l4 (setRow (16 : Nat) (setRow (16 : Nat) (setRow (16 : Nat) l5 (Int.toNat i0) ((12 : Nat) + Int.toNat i1 * (1 : Nat)) [D.int IntKind.i64 (-1 : Int)] ++ [[D.int IntKind.i64 (Sta.x (rollK (Sta.mk i1_1 i2_1 (Die.mk i3_1 i4 i5 i6 i7 i8)) i1)), D.int IntKind.i64 (Sta.y (rollK (Sta.mk i1_1 i2_1 (Die.mk i3_1 i4 i5 i6 i7 i8)) i1)), D.int IntKind.i64 (Die.t (Sta.d (rollK (Sta.mk i1_1 i2_1 (Die.mk i3_1 i4 i5 i6 i7 i8)) i1))), D.int IntKind.i64 (Die.n (Sta.d (rollK (Sta.mk i1_1 i2_1 (Die.mk i3_1 i4 i5 i6 i7 i8)) i1))), D.int IntKind.i64 (Die.e (Sta.d (rollK (Sta.mk i1_1 i2_1 (Die.mk i3_1 i4 i5 i6 i7 i8)) i1))), D.int IntKind.i64 (Die.s (Sta.d (rollK (Sta.mk i1_1 i2_1 (Die.mk i3_1 i4 i5 i6 i7 i8)) i1))), D.int IntKind.i64 (Die.w (Sta.d (rollK (Sta.mk i1_1 i2_1 (Die.mk i3_1 i4 i5 i6 i7 i8)) i1))), D.int IntKind.i64 (Die.b (Sta.d (rollK (Sta.mk i1_1 i2_1 (Die.mk i3_1 i4 i5 i6 i7 i8)) i1))), D.int IntKind.i64 (IntKind.wrap IntKind.i64 (i11 + (1 : Int))), D.int IntKind.i64 (0 : Int), D.int IntKind.i64 i0, D.int IntKind.i64 i1, D.int IntKind.i64 (0 : Int), D.int IntKind.i64 (0 : Int), D.int IntKind.i64 (0 : Int), D.int IntKind.i64 (0 : Int)]]) (Int.toNat (↑(List.length (setRow (16 : Nat) l5 (Int.toNat i0) ((12 : Nat) + Int.toNat i1 * (1 : Nat)) [D.int IntKind.i64 (-1 : Int)])) : Int)) (9 : Nat) [D.int IntKind.i64 (IntKind.wrap IntKind.i64 (i14 + i15))]) (Int.toNat i0) ((12 : Nat) + Int.toNat i1 * (1 : Nat)) [D.int IntKind.i64 (↑(List.length (setRow (16 : Nat) l5 (Int.toNat i0) ((12 : Nat) + Int.toNat i1 * (1 : Nat)) [D.int IntKind.i64 (-1 : Int)])) : Int)]) (l6 ++ [[D.int IntKind.i64 (↑(codeN (Int.toNat i2) (Sta.mk (Sta.x (rollK (Sta.mk i1_1 i2_1 (Die.mk i3_1 i4 i5 i6 i7 i8)) i1)) (Sta.y (rollK (Sta.mk i1_1 i2_1 (Die.mk i3_1 i4 i5 i6 i7 i8)) i1)) (Die.mk (Die.t (Sta.d (rollK (Sta.mk i1_1 i2_1 (Die.mk i3_1 i4 i5 i6 i7 i8)) i1))) (Die.n (Sta.d (rollK (Sta.mk i1_1 i2_1 (Die.mk i3_1 i4 i5 i6 i7 i8)) i1))) (Die.e (Sta.d (rollK (Sta.mk i1_1 i2_1 (Die.mk i3_1 i4 i5 i6 i7 i8)) i1))) (Die.s (Sta.d (rollK (Sta.mk i1_1 i2_1 (Die.mk i3_1 i4 i5 i6 i7 i8)) i1))) (Die.w (Sta.d (rollK (Sta.mk i1_1 i2_1 (Die.mk i3_1 i4 i5 i6 i7 i8)) i1))) (Die.b (Sta.d (rollK (Sta.mk i1_1 i2_1 (Die.mk i3_1 i4 i5 i6 i7 i8)) i1)))))) : Int)]]) else none else none else none else none else none else none else none else none else none else bif decide ((0 : Int) ≤ i0) then bif decide (i0 < (↑(List.length (setRow (16 : Nat) l5 (Int.toNat i0) ((12 : Nat) + Int.toNat i1 * (1 : Nat)) [D.int IntKind.i64 (-1 : Int)] ++ [[D.int IntKind.i64 (Sta.x (rollK (Sta.mk i1_1 i2_1 (Die.mk i3_1 i4 i5 i6 i7 i8)) i1)), D.int IntKind.i64 (Sta.y (rollK (Sta.mk i1_1 i2_1 (Die.mk i3_1 i4 i5 i6 i7 i8)) i1)), D.int IntKind.i64 (Die.t (Sta.d (rollK (Sta.mk i1_1 i2_1 (Die.mk i3_1 i4 i5 i6 i7 i8)) i1))), D.int IntKind.i64 (Die.n (Sta.d (rollK (Sta.mk i1_1 i2_1 (Die.mk i3_1 i4 i5 i6 i7 i8)) i1))), D.int IntKind.i64 (Die.e (Sta.d (rollK (Sta.mk i1_1 i2_1 (Die.mk i3_1 i4 i5 i6 i7 i8)) i1))), D.int IntKind.i64 (Die.s (Sta.d (rollK (Sta.mk i1_1 i2_1 (Die.mk i3_1 i4 i5 i6 i7 i8)) i1))), D.int IntKind.i64 (Die.w (Sta.d (rollK (Sta.mk i1_1 i2_1 (Die.mk i3_1 i4 i5 i6 i7 i8)) i1))), D.int IntKind.i64 (Die.b (Sta.d (rollK (Sta.mk i1_1 i2_1 (Die.mk i3_1 i4 i5 i6 i7 i8)) i1))), D.int IntKind.i64 (IntKind.wrap IntKind.i64 (i11 + (1 : Int))), D.int IntKind.i64 (0 : Int), D.int IntKind.i64 i0, D.int IntKind.i64 i1, D.int IntKind.i64 (0 : Int), D.int IntKind.i64 (0 : Int), D.int IntKind.i64 (0 : Int), D.int IntKind.i64 (0 : Int)]])) : Int)) then bif decide ((0 : Int) ≤ i1) then bif decide (i1 < (4 : Int)) then bif decide ((12 : Nat) + Int.toNat i1 * (1 : Nat) + (1 : Nat) ≤ (16 : Nat)) then spec_wyAll.l7 n m4 m7 i0 (IntKind.wrap IntKind.i64 (i1 + (1 : Int))) i2 i3 l4 (setRow (16 : Nat) (setRow (16 : Nat) l5 (Int.toNat i0) ((12 : Nat) + Int.toNat i1 * (1 : Nat)) [D.int IntKind.i64 (-1 : Int)] ++ [[D.int IntKind.i64 (Sta.x (rollK (Sta.mk i1_1 i2_1 (Die.mk i3_1 i4 i5 i6 i7 i8)) i1)), D.int IntKind.i64 (Sta.y (rollK (Sta.mk i1_1 i2_1 (Die.mk i3_1 i4 i5 i6 i7 i8)) i1)), D.int IntKind.i64 (Die.t (Sta.d (rollK (Sta.mk i1_1 i2_1 (Die.mk i3_1 i4 i5 i6 i7 i8)) i1))), D.int IntKind.i64 (Die.n (Sta.d (rollK (Sta.mk i1_1 i2_1 (Die.mk i3_1 i4 i5 i6 i7 i8)) i1))), D.int IntKind.i64 (Die.e (Sta.d (rollK (Sta.mk i1_1 i2_1 (Die.mk i3_1 i4 i5 i6 i7 i8)) i1))), D.int IntKind.i64 (Die.s (Sta.d (rollK (Sta.mk i1_1 i2_1 (Die.mk i3_1 i4 i5 i6 i7 i8)) i1))), D.int IntKind.i64 (Die.w (Sta.d (rollK (Sta.mk i1_1 i2_1 (Die.mk i3_1 i4 i5 i6 i7 i8)) i1))), D.int IntKind.i64 (Die.b (Sta.d (rollK (Sta.mk i1_1 i2_1 (Die.mk i3_1 i4 i5 i6 i7 i8)) i1))), D.int IntKind.i64 (IntKind.wrap IntKind.i64 (i11 + (1 : Int))), D.int IntKind.i64 (0 : Int), D.int IntKind.i64 i0, D.int IntKind.i64 i1, D.int IntKind.i64 (0 : Int), D.int IntKind.i64 (0 : Int), D.int IntKind.i64 (0 : Int), D.int IntKind.i64 (0 : Int)]]) (Int.toNat i0) ((12 : Nat) + Int.toNat i1 * (1 : Nat)) [D.int IntKind.i64 (↑(List.length (setRow (16 : Nat) l5 (Int.toNat i0) ((12 : Nat) + Int.toNat i1 * (1 : Nat)) [D.int IntKind.i64 (-1 : Int)])) : Int)]) (l6 ++ [[D.int IntKind.i64 (↑(codeN (Int.toNat i2) (Sta.mk (Sta.x (rollK (Sta.mk i1_1 i2_1 (Die.mk i3_1 i4 i5 i6 i7 i8)) i1)) (Sta.y (rollK (Sta.mk i1_1 i2_1 (Die.mk i3_1 i4 i5 i6 i7 i8)) i1)) (Die.mk (Die.t (Sta.d (rollK (Sta.mk i1_1 i2_1 (Die.mk i3_1 i4 i5 i6 i7 i8)) i1))) (Die.n (Sta.d (rollK (Sta.mk i1_1 i2_1 (Die.mk i3_1 i4 i5 i6 i7 i8)) i1))) (Die.e (Sta.d (rollK (Sta.mk i1_1 i2_1 (Die.mk i3_1 i4 i5 i6 i7 i8)) i1))) (Die.s (Sta.d (rollK (Sta.mk i1_1 i2_1 (Die.mk i3_1 i4 i5 i6 i7 i8)) i1))) (Die.w (Sta.d (rollK (Sta.mk i1_1 i2_1 (Die.mk i3_1 i4 i5 i6 i7 i8)) i1))) (Die.b (Sta.d (rollK (Sta.mk i1_1 i2_1 (Die.mk i3_1 i4 i5 i6 i7 i8)) i1)))))) : Int)]]) else none else none else none else none else none else none else none else none else none else none else none else none else none else none else none else none else bif decide ((0 : Int) ≤ ixO (ixOf (↑(codeN (Int.toNat i2) (Sta.mk (Sta.x (rollK (Sta.mk i1_1 i2_1 (Die.mk i3_1 i4 i5 i6 i7 i8)) i1)) (Sta.y (rollK (Sta.mk i1_1 i2_1 (Die.mk i3_1 i4 i5 i6 i7 i8)) i1)) (Die.mk (Die.t (Sta.d (rollK (Sta.mk i1_1 i2_1 (Die.mk i3_1 i4 i5 i6 i7 i8)) i1))) (Die.n (Sta.d (rollK (Sta.mk i1_1 i2_1 (Die.mk i3_1 i4 i5 i6 i7 i8)) i1))) (Die.e (Sta.d (rollK (Sta.mk i1_1 i2_1 (Die.mk i3_1 i4 i5 i6 i7 i8)) i1))) (Die.s (Sta.d (rollK (Sta.mk i1_1 i2_1 (Die.mk i3_1 i4 i5 i6 i7 i8)) i1))) (Die.w (Sta.d (rollK (Sta.mk i1_1 i2_1 (Die.mk i3_1 i4 i5 i6 i7 i8)) i1))) (Die.b (Sta.d (rollK (Sta.mk i1_1 i2_1 (Die.mk i3_1 i4 i5 i6 i7 i8)) i1)))))) : Int) l10)) then bif decide (ixO (ixOf (↑(codeN (Int.toNat i2) (Sta.mk (Sta.x (rollK (Sta.mk i1_1 i2_1 (Die.mk i3_1 i4 i5 i6 i7 i8)) i1)) (Sta.y (rollK (Sta.mk i1_1 i2_1 (Die.mk i3_1 i4 i5 i6 i7 i8)) i1)) (Die.mk (Die.t (Sta.d (rollK (Sta.mk i1_1 i2_1 (Die.mk i3_1 i4 i5 i6 i7 i8)) i1))) (Die.n (Sta.d (rollK (Sta.mk i1_1 i2_1 (Die.mk i3_1 i4 i5 i6 i7 i8)) i1))) (Die.e (Sta.d (rollK (Sta.mk i1_1 i2_1 (Die.mk i3_1 i4 i5 i6 i7 i8)) i1))) (Die.s (Sta.d (rollK (Sta.mk i1_1 i2_1 (Die.mk i3_1 i4 i5 i6 i7 i8)) i1))) (Die.w (Sta.d (rollK (Sta.mk i1_1 i2_1 (Die.mk i3_1 i4 i5 i6 i7 i8)) i1))) (Die.b (Sta.d (rollK (Sta.mk i1_1 i2_1 (Die.mk i3_1 i4 i5 i6 i7 i8)) i1)))))) : Int) l10) < (↑(List.length (setRow (16 : Nat) l5 (Int.toNat i0) ((12 : Nat) + Int.toNat i1 * (1 : Nat)) [D.int IntKind.i64 (-1 : Int)])) : Int)) then Option.bind (Option.bind (some (cellD (setRow (16 : Nat) l5 (Int.toNat i0) ((12 : Nat) + Int.toNat i1 * (1 : Nat)) [D.int IntKind.i64 (-1 : Int)]) (Int.toNat (ixO (ixOf (↑(codeN (Int.toNat i2) (Sta.mk (Sta.x (rollK (Sta.mk i1_1 i2_1 (Die.mk i3_1 i4 i5 i6 i7 i8)) i1)) (Sta.y (rollK (Sta.mk i1_1 i2_1 (Die.mk i3_1 i4 i5 i6 i7 i8)) i1)) (Die.mk (Die.t (Sta.d (rollK (Sta.mk i1_1 i2_1 (Die.mk i3_1 i4 i5 i6 i7 i8)) i1))) (Die.n (Sta.d (rollK (Sta.mk i1_1 i2_1 (Die.mk i3_1 i4 i5 i6 i7 i8)) i1))) (Die.e (Sta.d (rollK (Sta.mk i1_1 i2_1 (Die.mk i3_1 i4 i5 i6 i7 i8)) i1))) (Die.s (Sta.d (rollK (Sta.mk i1_1 i2_1 (Die.mk i3_1 i4 i5 i6 i7 i8)) i1))) (Die.w (Sta.d (rollK (Sta.mk i1_1 i2_1 (Die.mk i3_1 i4 i5 i6 i7 i8)) i1))) (Die.b (Sta.d (rollK (Sta.mk i1_1 i2_1 (Die.mk i3_1 i4 i5 i6 i7 i8)) i1)))))) : Int) l10))) (8 : Nat))) (D.int? IntKind.i64)) fun (i16 : Int) => bif decide ((0 : Int) ≤ i0) then bif decide (i0 < (↑(List.length (setRow (16 : Nat) l5 (Int.toNat i0) ((12 : Nat) + Int.toNat i1 * (1 : Nat)) [D.int IntKind.i64 (-1 : Int)])) : Int)) then Option.bind (Option.bind (some (cellD (setRow (16 : Nat) l5 (Int.toNat i0) ((12 : Nat) + Int.toNat i1 * (1 : Nat)) [D.int IntKind.i64 (-1 : Int)]) (Int.toNat i0) (8 : Nat))) (D.int? IntKind.i64)) fun (i17 : Int) => bif i16 == IntKind.wrap IntKind.i64 (i17 + (1 : Int)) then bif decide ((0 : Int) ≤ ixO (ixOf (↑(codeN (Int.toNat i2) (Sta.mk (Sta.x (rollK (Sta.mk i1_1 i2_1 (Die.mk i3_1 i4 i5 i6 i7 i8)) i1)) (Sta.y (rollK (Sta.mk i1_1 i2_1 (Die.mk i3_1 i4 i5 i6 i7 i8)) i1)) (Die.mk (Die.t (Sta.d (rollK (Sta.mk i1_1 i2_1 (Die.mk i3_1 i4 i5 i6 i7 i8)) i1))) (Die.n (Sta.d (rollK (Sta.mk i1_1 i2_1 (Die.mk i3_1 i4 i5 i6 i7 i8)) i1))) (Die.e (Sta.d (rollK (Sta.mk i1_1 i2_1 (Die.mk i3_1 i4 i5 i6 i7 i8)) i1))) (Die.s (Sta.d (rollK (Sta.mk i1_1 i2_1 (Die.mk i3_1 i4 i5 i6 i7 i8)) i1))) (Die.w (Sta.d (rollK (Sta.mk i1_1 i2_1 (Die.mk i3_1 i4 i5 i6 i7 i8)) i1))) (Die.b (Sta.d (rollK (Sta.mk i1_1 i2_1 (Die.mk i3_1 i4 i5 i6 i7 i8)) i1)))))) : Int) l10)) then bif decide (ixO (ixOf (↑(codeN (Int.toNat i2) (Sta.mk (Sta.x (rollK (Sta.mk i1_1 i2_1 (Die.mk i3_1 i4 i5 i6 i7 i8)) i1)) (Sta.y (rollK (Sta.mk i1_1 i2_1 (Die.mk i3_1 i4 i5 i6 i7 i8)) i1)) (Die.mk (Die.t (Sta.d (rollK (Sta.mk i1_1 i2_1 (Die.mk i3_1 i4 i5 i6 i7 i8)) i1))) (Die.n (Sta.d (rollK (Sta.mk i1_1 i2_1 (Die.mk i3_1 i4 i5 i6 i7 i8)) i1))) (Die.e (Sta.d (rollK (Sta.mk i1_1 i2_1 (Die.mk i3_1 i4 i5 i6 i7 i8)) i1))) (Die.s (Sta.d (rollK (Sta.mk i1_1 i2_1 (Die.mk i3_1 i4 i5 i6 i7 i8)) i1))) (Die.w (Sta.d (rollK (Sta.mk i1_1 i2_1 (Die.mk i3_1 i4 i5 i6 i7 i8)) i1))) (Die.b (Sta.d (rollK (Sta.mk i1_1 i2_1 (Die.mk i3_1 i4 i5 i6 i7 i8)) i1)))))) : Int) l10) < (↑(List.length (setRow (16 : Nat) l5 (Int.toNat i0) ((12 : Nat) + Int.toNat i1 * (1 : Nat)) [D.int IntKind.i64 (-1 : Int)])) : Int)) then Option.bind (Option.bind (some (cellD (setRow (16 : Nat) l5 (Int.toNat i0) ((12 : Nat) + Int.toNat i1 * (1 : Nat)) [D.int IntKind.i64 (-1 : Int)]) (Int.toNat (ixO (ixOf (↑(codeN (Int.toNat i2) (Sta.mk (Sta.x (rollK (Sta.mk i1_1 i2_1 (Die.mk i3_1 i4 i5 i6 i7 i8)) i1)) (Sta.y (rollK (Sta.mk i1_1 i2_1 (Die.mk i3_1 i4 i5 i6 i7 i8)) i1)) (Die.mk (Die.t (Sta.d (rollK (Sta.mk i1_1 i2_1 (Die.mk i3_1 i4 i5 i6 i7 i8)) i1))) (Die.n (Sta.d (rollK (Sta.mk i1_1 i2_1 (Die.mk i3_1 i4 i5 i6 i7 i8)) i1))) (Die.e (Sta.d (rollK (Sta.mk i1_1 i2_1 (Die.mk i3_1 i4 i5 i6 i7 i8)) i1))) (Die.s (Sta.d (rollK (Sta.mk i1_1 i2_1 (Die.mk i3_1 i4 i5 i6 i7 i8)) i1))) (Die.w (Sta.d (rollK (Sta.mk i1_1 i2_1 (Die.mk i3_1 i4 i5 i6 i7 i8)) i1))) (Die.b (Sta.d (rollK (Sta.mk i1_1 i2_1 (Die.mk i3_1 i4 i5 i6 i7 i8)) i1)))))) : Int) l10))) (9 : Nat))) (D.int? IntKind.i64)) fun (i18 : Int) => bif decide ((0 : Int) ≤ i0) then bif decide (i0 < (↑(List.length (setRow (16 : Nat) l5 (Int.toNat i0) ((12 : Nat) + Int.toNat i1 * (1 : Nat)) [D.int IntKind.i64 (-1 : Int)])) : Int)) then Option.bind (Option.bind (some (cellD (setRow (16 : Nat) l5 (Int.toNat i0) ((12 : Nat) + Int.toNat i1 * (1 : Nat)) [D.int IntKind.i64 (-1 : Int)]) (Int.toNat i0) (9 : Nat))) (D.int? IntKind.i64)) fun (i19 : Int) => bif decide ((0 : Int) ≤ ixO (ixOf (↑(codeN (Int.toNat i2) (Sta.mk (Sta.x (rollK (Sta.mk i1_1 i2_1 (Die.mk i3_1 i4 i5 i6 i7 i8)) i1)) (Sta.y (rollK (Sta.mk i1_1 i2_1 (Die.mk i3_1 i4 i5 i6 i7 i8)) i1)) (Die.mk (Die.t (Sta.d (rollK (Sta.mk i1_1 i2_1 (Die.mk i3_1 i4 i5 i6 i7 i8)) i1))) (Die.n (Sta.d (rollK (Sta.mk i1_1 i2_1 (Die.mk i3_1 i4 i5 i6 i7 i8)) i1))) (Die.e (Sta.d (rollK (Sta.mk i1_1 i2_1 (Die.mk i3_1 i4 i5 i6 i7 i8)) i1))) (Die.s (Sta.d (rollK (Sta.mk i1_1 i2_1 (Die.mk i3_1 i4 i5 i6 i7 i8)) i1))) (Die.w (Sta.d (rollK (Sta.mk i1_1 i2_1 (Die.mk i3_1 i4 i5 i6 i7 i8)) i1))) (Die.b (Sta.d (rollK (Sta.mk i1_1 i2_1 (Die.mk i3_1 i4 i5 i6 i7 i8)) i1)))))) : Int) l10)) then bif decide (ixO (ixOf (↑(codeN (Int.toNat i2) (Sta.mk (Sta.x (rollK (Sta.mk i1_1 i2_1 (Die.mk i3_1 i4 i5 i6 i7 i8)) i1)) (Sta.y (rollK (Sta.mk i1_1 i2_1 (Die.mk i3_1 i4 i5 i6 i7 i8)) i1)) (Die.mk (Die.t (Sta.d (rollK (Sta.mk i1_1 i2_1 (Die.mk i3_1 i4 i5 i6 i7 i8)) i1))) (Die.n (Sta.d (rollK (Sta.mk i1_1 i2_1 (Die.mk i3_1 i4 i5 i6 i7 i8)) i1))) (Die.e (Sta.d (rollK (Sta.mk i1_1 i2_1 (Die.mk i3_1 i4 i5 i6 i7 i8)) i1))) (Die.s (Sta.d (rollK (Sta.mk i1_1 i2_1 (Die.mk i3_1 i4 i5 i6 i7 i8)) i1))) (Die.w (Sta.d (rollK (Sta.mk i1_1 i2_1 (Die.mk i3_1 i4 i5 i6 i7 i8)) i1))) (Die.b (Sta.d (rollK (Sta.mk i1_1 i2_1 (Die.mk i3_1 i4 i5 i6 i7 i8)) i1)))))) : Int) l10) < (↑(List.length (setRow (16 : Nat) l5 (Int.toNat i0) ((12 : Nat) + Int.toNat i1 * (1 : Nat)) [D.int IntKind.i64 (-1 : Int)])) : Int)) then bif decide ((0 : Int) ≤ i0) then bif decide (i0 < (↑(List.length (setRow (16 : Nat) (setRow (16 : Nat) l5 (Int.toNat i0) ((12 : Nat) + Int.toNat i1 * (1 : Nat)) [D.int IntKind.i64 (-1 : Int)]) (Int.toNat (ixO (ixOf (↑(codeN (Int.toNat i2) (Sta.mk (Sta.x (rollK (Sta.mk i1_1 i2_1 (Die.mk i3_1 i4 i5 i6 i7 i8)) i1)) (Sta.y (rollK (Sta.mk i1_1 i2_1 (Die.mk i3_1 i4 i5 i6 i7 i8)) i1)) (Die.mk (Die.t (Sta.d (rollK (Sta.mk i1_1 i2_1 (Die.mk i3_1 i4 i5 i6 i7 i8)) i1))) (Die.n (Sta.d (rollK (Sta.mk i1_1 i2_1 (Die.mk i3_1 i4 i5 i6 i7 i8)) i1))) (Die.e (Sta.d (rollK (Sta.mk i1_1 i2_1 (Die.mk i3_1 i4 i5 i6 i7 i8)) i1))) (Die.s (Sta.d (rollK (Sta.mk i1_1 i2_1 (Die.mk i3_1 i4 i5 i6 i7 i8)) i1))) (Die.w (Sta.d (rollK (Sta.mk i1_1 i2_1 (Die.mk i3_1 i4 i5 i6 i7 i8)) i1))) (Die.b (Sta.d (rollK (Sta.mk i1_1 i2_1 (Die.mk i3_1 i4 i5 i6 i7 i8)) i1)))))) : Int) l10))) (9 : Nat) [D.int IntKind.i64 (IntKind.wrap IntKind.i64 (i18 + i19))])) : Int)) then bif decide ((0 : Int) ≤ i1) then bif decide (i1 < (4 : Int)) then bif decide ((12 : Nat) + Int.toNat i1 * (1 : Nat) + (1 : Nat) ≤ (16 : Nat)) then spec_wyAll.l7 n m4 m7 i0 (IntKind.wrap IntKind.i64 (i1 + (1 : Int))) i2 i3 l4 (setRow (16 : Nat) (setRow (16 : Nat) (setRow (16 : Nat) l5 (Int.toNat i0) ((12 : Nat) + Int.toNat i1 * (1 : Nat)) [D.int IntKind.i64 (-1 : Int)]) (Int.toNat (ixO (ixOf (↑(codeN (Int.toNat i2) (Sta.mk (Sta.x (rollK (Sta.mk i1_1 i2_1 (Die.mk i3_1 i4 i5 i6 i7 i8)) i1)) (Sta.y (rollK (Sta.mk i1_1 i2_1 (Die.mk i3_1 i4 i5 i6 i7 i8)) i1)) (Die.mk (Die.t (Sta.d (rollK (Sta.mk i1_1 i2_1 (Die.mk i3_1 i4 i5 i6 i7 i8)) i1))) (Die.n (Sta.d (rollK (Sta.mk i1_1 i2_1 (Die.mk i3_1 i4 i5 i6 i7 i8)) i1))) (Die.e (Sta.d (rollK (Sta.mk i1_1 i2_1 (Die.mk i3_1 i4 i5 i6 i7 i8)) i1))) (Die.s (Sta.d (rollK (Sta.mk i1_1 i2_1 (Die.mk i3_1 i4 i5 i6 i7 i8)) i1))) (Die.w (Sta.d (rollK (Sta.mk i1_1 i2_1 (Die.mk i3_1 i4 i5 i6 i7 i8)) i1))) (Die.b (Sta.d (rollK (Sta.mk i1_1 i2_1 (Die.mk i3_1 i4 i5 i6 i7 i8)) i1)))))) : Int) l10))) (9 : Nat) [D.int IntKind.i64 (IntKind.wrap IntKind.i64 (i18 + i19))]) (Int.toNat i0) ((12 : Nat) + Int.toNat i1 * (1 : Nat)) [D.int IntKind.i64 (ixO (ixOf (↑(codeN (Int.toNat i2) (Sta.mk (Sta.x (rollK (Sta.mk i1_1 i2_1 (Die.mk i3_1 i4 i5 i6 i7 i8)) i1)) (Sta.y (rollK (Sta.mk i1_1 i2_1 (Die.mk i3_1 i4 i5 i6 i7 i8)) i1)) (Die.mk (Die.t (Sta.d (rollK (Sta.mk i1_1 i2_1 (Die.mk i3_1 i4 i5 i6 i7 i8)) i1))) (Die.n (Sta.d (rollK (Sta.mk i1_1 i2_1 (Die.mk i3_1 i4 i5 i6 i7 i8)) i1))) (Die.e (Sta.d (rollK (Sta.mk i1_1 i2_1 (Die.mk i3_1 i4 i5 i6 i7 i8)) i1))) (Die.s (Sta.d (rollK (Sta.mk i1_1 i2_1 (Die.mk i3_1 i4 i5 i6 i7 i8)) i1))) (Die.w (Sta.d (rollK (Sta.mk i1_1 i2_1 (Die.mk i3_1 i4 i5 i6 i7 i8)) i1))) (Die.b (Sta.d (rollK (Sta.mk i1_1 i2_1 (Die.mk i3_1 i4 i5 i6 i7 i8)) i1)))))) : Int) l10))]) l6 else none else none else none else none else none else none else none else none else none else none else none else bif decide ((0 : Int) ≤ i0) then bif decide (i0 < (↑(List.length (setRow (16 : Nat) l5 (Int.toNat i0) ((12 : Nat) + Int.toNat i1 * (1 : Nat)) [D.int IntKind.i64 (-1 : Int)])) : Int)) then bif decide ((0 : Int) ≤ i1) then bif decide (i1 < (4 : Int)) then bif decide ((12 : Nat) + Int.toNat i1 * (1 : Nat) + (1 : Nat) ≤ (16 : Nat)) then spec_wyAll.l7 n m4 m7 i0 (IntKind.wrap IntKind.i64 (i1 + (1 : Int))) i2 i3 l4 (setRow (16 : Nat) (setRow (16 : Nat) l5 (Int.toNat i0) ((12 : Nat) + Int.toNat i1 * (1 : Nat)) [D.int IntKind.i64 (-1 : Int)]) (Int.toNat i0) ((12 : Nat) + Int.toNat i1 * (1 : Nat)) [D.int IntKind.i64 (ixO (ixOf (↑(codeN (Int.toNat i2) (Sta.mk (Sta.x (rollK (Sta.mk i1_1 i2_1 (Die.mk i3_1 i4 i5 i6 i7 i8)) i1)) (Sta.y (rollK (Sta.mk i1_1 i2_1 (Die.mk i3_1 i4 i5 i6 i7 i8)) i1)) (Die.mk (Die.t (Sta.d (rollK (Sta.mk i1_1 i2_1 (Die.mk i3_1 i4 i5 i6 i7 i8)) i1))) (Die.n (Sta.d (rollK (Sta.mk i1_1 i2_1 (Die.mk i3_1 i4 i5 i6 i7 i8)) i1))) (Die.e (Sta.d (rollK (Sta.mk i1_1 i2_1 (Die.mk i3_1 i4 i5 i6 i7 i8)) i1))) (Die.s (Sta.d (rollK (Sta.mk i1_1 i2_1 (Die.mk i3_1 i4 i5 i6 i7 i8)) i1))) (Die.w (Sta.d (rollK (Sta.mk i1_1 i2_1 (Die.mk i3_1 i4 i5 i6 i7 i8)) i1))) (Die.b (Sta.d (rollK (Sta.mk i1_1 i2_1 (Die.mk i3_1 i4 i5 i6 i7 i8)) i1)))))) : Int) l10))]) l6 else none else none else none else none else none else none else none else none else none else none else none else none else none else spec_wyAll.l7 n m4 m7 i0 (IntKind.wrap IntKind.i64 (i1 + (1 : Int))) i2 i3 l4 (setRow (16 : Nat) l5 (Int.toNat i0) ((12 : Nat) + Int.toNat i1 * (1 : Nat)) [D.int IntKind.i64 (-1 : Int)]) l6 else none else none else none else none else none else none else none else none else none else none else none else none else spec_wyAll.l4 n m4 (IntKind.wrap IntKind.i64 (i0 + (1 : Int))) i2 i3 l4 l5 l6 := by kernel_rfl
noncomputable def spec_wyAll.res (n : Nat) (a0_0 : Int) (a0_1 : Int) (a0_2 : List (List D)) (a1_0 : Int) (a1_1 : Int) (a1_2 : Int) (a1_3 : Int) (a1_4 : Int) (a1_5 : Int) (a1_6 : Int) (a1_7 : Int) : Option (List Q) :=
  bif inR a0_0 (0 : Int) (7 : Int) then bif inR a1_0 (0 : Int) (6 : Int) then bif inR a1_1 (0 : Int) (6 : Int) then bif Die.good (Die.mk a1_2 a1_3 a1_4 a1_5 a1_6 a1_7) then spec_wyAll.l4 n n (0 : Int) a0_0 a0_1 a0_2 [[D.int IntKind.i64 a1_0, D.int IntKind.i64 a1_1, D.int IntKind.i64 a1_2, D.int IntKind.i64 a1_3, D.int IntKind.i64 a1_4, D.int IntKind.i64 a1_5, D.int IntKind.i64 a1_6, D.int IntKind.i64 a1_7, D.int IntKind.i64 (0 : Int), D.int IntKind.i64 (1 : Int), D.int IntKind.i64 (-1 : Int), D.int IntKind.i64 (0 : Int), D.int IntKind.i64 (0 : Int), D.int IntKind.i64 (0 : Int), D.int IntKind.i64 (0 : Int), D.int IntKind.i64 (0 : Int)]] [[D.int IntKind.i64 (↑(codeN (Int.toNat a0_0) (Sta.mk a1_0 a1_1 (Die.mk a1_2 a1_3 a1_4 a1_5 a1_6 a1_7))) : Int)]] else none else none else none else none
theorem spec_wyAll.run (n : Nat) (a0_0 : Int) (a0_1 : Int) (a0_2 : List (List D)) (a1_0 : Int) (a1_1 : Int) (a1_2 : Int) (a1_3 : Int) (a1_4 : Int) (a1_5 : Int) (a1_6 : Int) (a1_7 : Int) :
    run1 spec_wyAll.cfg [RK.own (16 : Nat)] n Tryd.f71 [Q.agg [D.int IntKind.i64 a0_0, D.int IntKind.i64 a0_1, D.sl (1 : Nat) a0_2], Q.agg [D.int IntKind.i64 a1_0, D.int IntKind.i64 a1_1, D.int IntKind.i64 a1_2, D.int IntKind.i64 a1_3, D.int IntKind.i64 a1_4, D.int IntKind.i64 a1_5, D.int IntKind.i64 a1_6, D.int IntKind.i64 a1_7]] = spec_wyAll.res n a0_0 a0_1 a0_2 a1_0 a1_1 a1_2 a1_3 a1_4 a1_5 a1_6 a1_7 := by kernel_rfl
theorem spec_wyAll.ev {n : Nat} {a0_0 : Int} {a0_1 : Int} {a0_2 : List (List D)} {a1_0 : Int} {a1_1 : Int} {a1_2 : Int} {a1_3 : Int} {a1_4 : Int} {a1_5 : Int} {a1_6 : Int} {a1_7 : Int} {r : List Q} (h : spec_wyAll.res n a0_0 a0_1 a0_2 a1_0 a1_1 a1_2 a1_3 a1_4 a1_5 a1_6 a1_7 = some r) : Snd Tryd.prog C0 71 [.agg [.int .i64 a0_0, .int .i64 a0_1, .sl 1 a0_2], .agg [.int .i64 a1_0, .int .i64 a1_1, .int .i64 a1_2, .int .i64 a1_3, .int .i64 a1_4, .int .i64 a1_5, .int .i64 a1_6, .int .i64 a1_7]] r :=
  snd_ev (C := spec_wyAll.cfg) cfg0 mix rfl rfl rfl rfl rfl (.cons spec_boRoll_i.ok (.cons spec_wyCode.ok (.cons spec_wyPlace.ok .nil))) .nil rfl Tryd.func71 (by kernel_rfl) (by kernel_rfl) rfl ((spec_wyAll.run n a0_0 a0_1 a0_2 a1_0 a1_1 a1_2 a1_3 a1_4 a1_5 a1_6 a1_7).trans h)

theorem flC_gd {w h : Nat} {cs : List UInt8} : ∀ x y, flC (w : Int) (h : Int) cs x y = true → 0 ≤ x ∧ x < (w : Int) ∧ 0 ≤ y ∧ y < (h : Int) := by
  intro x y hp
  unfold flC at hp
  rw [Bool.and_eq_true, Bool.and_eq_true] at hp
  obtain ⟨⟨h1, h2⟩, _⟩ := hp
  have := inR_out h1
  have := inR_out h2
  omega
theorem codes_snoc (w : Nat) (l : List Sta) (t : Sta) : intC.encs (codes w l) ++ [[D.int .i64 ((codeN w t : Nat) : Int)]] = intC.encs (codes w (l ++ [t])) := by
  rw [intC_snoc]; simp [codes]
theorem inr_nat {w : Nat} (h : w ≤ 7) : inR (w : Int) 0 7 = true := by
  unfold inR
  rw [Bool.and_eq_true, decide_eq_true_eq, decide_eq_true_eq]; omega
theorem inr6 {x : Int} {w : Nat} (h0 : 0 ≤ x) (h1 : x < (w : Int)) (hw : w ≤ 7) : inR x 0 6 = true := by
  unfold inR
  rw [Bool.and_eq_true, decide_eq_true_eq, decide_eq_true_eq]; omega
section
variable {w h : Nat} {cs : List UInt8}
theorem spec_wyAll.l7_run {n m4 : Nat} (hw : w ≤ 7) (hh : h ≤ 7) (hc : cs.length = w * h) (hcd : u8C.decs (u8C.encs cs) = some cs) :
    ∀ (d dir m k : Nat) (N : List Nd), dir + d = 4 → d < m → k < N.length → CInv w h (N.map Nd.core) → COrd k (N.map Nd.core) →
    spec_wyAll.l7 n m4 m (k : Int) (dir : Int) (w : Int) (h : Int) (u8C.encs cs) (ndC.encs N) (intC.encs (codes w (N.map Nd.u))) = spec_wyAll.l4 n m4 ((k + 1 : Nat) : Int) (w : Int) (h : Int) (u8C.encs cs) (ndC.encs (visF (flC w h cs) k d dir N)) (intC.encs (codes w ((visF (flC w h cs) k d dir N).map Nd.u))) := by
  intro d
  induction d with
  | zero =>
    intro dir m k N hi hm hk hv ho
    obtain ⟨m, rfl⟩ : ∃ m', m = m' + 1 := ⟨m - 1, by omega⟩
    have h1 : ¬ (dir : Int) < 4 := by omega
    have hlen := cinv_big hw hh hv
    rw [List.length_map] at hlen
    rw [spec_wyAll.l7_eq]
    simp only [h1, decide_false, cond_false, wrap_succ (show k ≤ LIM by unfold LIM; unfold BIG at hlen; omega)]
    rfl
  | succ d ih =>
    intro dir m k N hi hm hk hv ho
    obtain ⟨m, rfl⟩ : ∃ m', m = m' + 1 := ⟨m - 1, by omega⟩
    have hd : dir < 4 := by omega
    have h1 : (dir : Int) < 4 := by omega
    have hlen := cinv_big hw hh hv
    rw [List.length_map] at hlen
    unfold BIG at hlen
    have hki : (k : Int) < ((N.length : Nat) : Int) := by omega
    have h12 : 12 + dir + 1 ≤ 16 := by omega
    obtain ⟨N0, hN0⟩ : ∃ N0, N0 = N.set k (N[k].nx (dir : Int) (-1)) := ⟨_, rfl⟩
    have e0 : setRow 16 (ndC.encs N) k (12 + dir) [D.int .i64 (-1)] = ndC.encs N0 := by rw [ndC_nx hk hd, hN0]
    have hl0 : N0.length = N.length := by rw [hN0, List.length_set]
    have hk0 : k < N0.length := by omega
    have hki0 : (k : Int) < ((N0.length : Nat) : Int) := by omega
    have hu0 : N0.map Nd.u = N.map Nd.u := by rw [hN0]; exact map_set_u hk (Nd.nx_u ..)
    have hcore0 : N0.map Nd.core = N.map Nd.core := by rw [hN0]; exact set_core (List.getElem?_eq_getElem hk) (core_nx ..)
    obtain ⟨c0, c1, c2, c3, c4, c5, c6, c7⟩ := nd_cells hk0
    obtain ⟨c8, c9, c10, c11⟩ := nd_cells2 hk0
    have hgd : Gds w h N0[k].u := by
      have := hv.gd N0[k].core (by rw [← hcore0]; exact List.mem_map_of_mem (List.getElem_mem hk0))
      exact this
    have hfar := far_le ho (k + 1) k N0[k].core (by omega) (by rw [← hcore0, List.getElem?_map, List.getElem?_eq_getElem hk0]; rfl)
    have hfar : 0 ≤ N0[k].far ∧ N0[k].far ≤ (k : Int) := hfar
    have hwf : IntKind.wrap .i64 (N0[k].far + 1) = N0[k].far + 1 := wrap_in (by omega) (by omega)
    have gx : inR N0[k].u.x 0 6 = true := inr6 hgd.x0 hgd.x1 hw
    have gy : inR N0[k].u.y 0 6 = true := inr6 hgd.y0 hgd.y1 hh
    have hcd2 : intC.decs (intC.encs (codes w (N.map Nd.u))) = some (codes w (N.map Nd.u)) := Cod.decs_encs (by unfold codes LIM; rw [List.length_map, List.length_map]; omega)
    have hlc : (codes w (N.map Nd.u)).length + 1 ≤ 17179869184 := by unfold codes; rw [List.length_map, List.length_map]; omega
    have hl1 : N0.length + 1 ≤ 17179869184 := by omega
    have hgw := inr_nat hw
    have hgh := inr_nat hh
    have hro : rollO ⟨N0[k].u.x, N0[k].u.y, ⟨N0[k].u.d.t, N0[k].u.d.n, N0[k].u.d.e, N0[k].u.d.s, N0[k].u.d.w, N0[k].u.d.b⟩⟩ (dir : Int) = some (rollK N0[k].u (dir : Int)) := rfl
    obtain ⟨t, ht⟩ : ∃ t, t = rollK N0[k].u (dir : Int) := ⟨_, rfl⟩
    have hnv := hv.visit flC_gd k (dir : Int) (p := flC (w : Int) (h : Int) cs)
    have hno := (ho.visit (p := flC (w : Int) (h : Int) cs) (dir := (dir : Int)) (by omega)).1
    rw [← visit_core] at hnv hno
    have hnl := visit_len (flC (w : Int) (h : Int) cs) k (dir : Int) N
    have step := ih (dir + 1) m k (visit (flC w h cs) k (dir : Int) N) (by omega) (by omega) (by omega) hnv hno
    rw [show visF (flC w h cs) k (d + 1) dir N = visF (flC w h cs) k d (dir + 1) (visit (flC w h cs) k (dir : Int) N) from rfl]
    refine Eq.trans ?_ step
    rw [spec_wyAll.l7_eq]
    simp only [h1, hki, hki0, h12, e0, Cod.encs_len, Int.natCast_nonneg, Int.toNat_natCast, Nat.mul_one, decide_true, cond_true, c0, c1, c2, c3, c4, c5, c6, c7, c8, Option.bind_some, hcd, hgw, hgh, hc, gx, gy, hro, ← ht, hwf, hl1, hlc, wrap_succ (show dir ≤ LIM by unfold LIM; omega), Die.eta]
    cases hp : flC (w : Int) (h : Int) cs t.x t.y with
    | false =>
      rw [ht] at hp
      simp only [cond_false]
      rw [visit_out hk hN0 hk0 hp, hu0]
    | true =>
      obtain ⟨x0, x1, y0, y1⟩ := flC_gd _ _ hp
      have tx : inR t.x 0 6 = true := inr6 x0 x1 hw
      have ty : inR t.y 0 6 = true := inr6 y0 y1 hh
      have tg : t.d.good = true := by rw [ht]; exact good_roll hgd.g _
      have tgd : Gds w h t := ⟨x0, x1, y0, y1, tg⟩
      have hix : ixOf (codeN w t : Nat) (codes w (N.map Nd.u)) = posOf t (N0.map Nd.u) := by
        rw [hu0]
        exact ixOf_codes tgd (fun u hu => by
          obtain ⟨a, ha, rfl⟩ := List.mem_map.1 hu
          exact hv.gd a.core (List.mem_map_of_mem ha))
      rw [ht] at hp
      simp only [cond_true, tx, ty, show Die.good ⟨t.d.t, t.d.n, t.d.e, t.d.s, t.d.w, t.d.b⟩ = true from tg, hcd2, Option.bind_some, hix]
      cases hpos : posOf t (N0.map Nd.u) with
      | some j =>
        obtain ⟨hj, _⟩ := posOf_some hpos
        rw [List.length_map] at hj
        have hj0 : ¬ ((j : Nat) : Int) < 0 := by omega
        have hji : (j : Int) < ((N0.length : Nat) : Int) := by omega
        obtain ⟨d8, d9, _, _⟩ := nd_cells2 hj
        rw [ht] at hpos
        rw [visit_met hk hN0 hk0 hp hpos hj, visT_u, hu0]
        unfold visT
        simp only [show ixO (some j) = (j : Int) from rfl, hj0, hji, hki0, Cod.encs_len, Int.natCast_nonneg, Int.toNat_natCast, decide_true, decide_false, cond_true, cond_false, Option.bind_some, c8, d8, hwf, ieq]
        have r1 := ndC_wd hj (IntKind.wrap .i64 (N0[j].words + N0[k].words))
        have r2 := ndC_nx hk0 hd (j : Int)
        obtain ⟨M, hM⟩ : ∃ M, M = N0.set j { N0[j] with words := IntKind.i64.wrap (N0[j].words + N0[k].words) } := ⟨_, rfl⟩
        have hkM : k < M.length := by rw [hM, List.length_set]; exact hk0
        have hkMi : (k : Int) < ((M.length : Nat) : Int) := by omega
        have r3 := ndC_nx hkM hd (j : Int)
        rw [← hM] at r1
        cases decide (N0[j].far = N0[k].far + 1) with
        | true =>
          simp only [← hM, cond_true, hki0, hkMi, hji, d9, c9, r1, r3, h1, h12, Cod.encs_len, Int.natCast_nonneg, Int.toNat_natCast, Nat.mul_one, decide_true, Option.bind_some]
        | false =>
          simp only [cond_false, cond_true, hki0, hji, d9, c9, r2, h1, h12, Cod.encs_len, Int.natCast_nonneg, Int.toNat_natCast, Nat.mul_one, decide_true, Option.bind_some]
      | none =>
        obtain ⟨N1, hN1⟩ : ∃ N1, N1 = N0 ++ [⟨t, N0[k].far + 1, 0, (k : Int), (dir : Int), 0, 0, 0, 0⟩] := ⟨_, rfl⟩
        have hl2 : N1.length = N0.length + 1 := by rw [hN1, List.length_append, List.length_singleton]
        have hj : N0.length < N1.length := by omega
        have hk1 : k < N1.length := by omega
        have hki1 : (k : Int) < ((N1.length : Nat) : Int) := by omega
        have hji : ((N0.length : Nat) : Int) < ((N1.length : Nat) : Int) := by omega
        have e1 : ndC.encs N0 ++ [[D.int .i64 t.x, D.int .i64 t.y, D.int .i64 t.d.t, D.int .i64 t.d.n, D.int .i64 t.d.e, D.int .i64 t.d.s, D.int .i64 t.d.w, D.int .i64 t.d.b, D.int .i64 (N0[k].far + 1), D.int .i64 0, D.int .i64 (k : Int), D.int .i64 (dir : Int), D.int .i64 0, D.int .i64 0, D.int .i64 0, D.int .i64 0]] = ndC.encs N1 := by
          rw [hN1]; exact ndC_snoc N0 ⟨t, N0[k].far + 1, 0, (k : Int), (dir : Int), 0, 0, 0, 0⟩
        have e2 := codes_snoc w (N.map Nd.u) t
        have hu1 : N1.map Nd.u = N.map Nd.u ++ [t] := by rw [hN1, List.map_append, hu0]; rfl
        obtain ⟨d8, d9, _, _⟩ := nd_cells2 hj
        obtain ⟨b8, b9, _, _⟩ := nd_cells2 hk1
        have hf1 : N1[k] = N0[k] := by
          subst hN1
          rw [List.getElem_append_left hk0]
        rw [ht] at hpos
        have hN1' := hN1
        rw [ht] at hN1'
        rw [visit_new hk hN0 hk0 hp hpos hN1' hk1 hj, visT_u, hu1]
        unfold visT
        have r1 := ndC_wd hj (IntKind.wrap .i64 (N1[N0.length].words + N1[k].words))
        have r2 := ndC_nx hk1 hd ((N0.length : Nat) : Int)
        obtain ⟨M, hM⟩ : ∃ M, M = N1.set N0.length { N1[N0.length] with words := IntKind.i64.wrap (N1[N0.length].words + N1[k].words) } := ⟨_, rfl⟩
        have hkM : k < M.length := by rw [hM, List.length_set]; exact hk1
        have hkMi : (k : Int) < ((M.length : Nat) : Int) := by omega
        have r3 := ndC_nx hkM hd ((N0.length : Nat) : Int)
        rw [← hM] at r1
        have hwf1 : IntKind.wrap .i64 (N1[k].far + 1) = N1[k].far + 1 := by rw [hf1]; exact hwf
        simp only [show ixO none = (-1 : Int) from rfl, show decide ((-1 : Int) < 0) = true from rfl, hji, hki0, hki1, hl1, hlc, hwf, hwf1, e1, e2, Cod.encs_len, Int.natCast_nonneg, Int.toNat_natCast, decide_true, cond_true, Option.bind_some, c8, d8, b8, ieq]
        cases decide (N1[N0.length].far = N1[k].far + 1) with
        | true =>
          simp only [← hM, cond_true, hki1, hkMi, hji, d9, b9, r1, r3, h1, h12, Cod.encs_len, Int.natCast_nonneg, Int.toNat_natCast, Nat.mul_one, decide_true, Option.bind_some]
        | false =>
          simp only [cond_false, cond_true, hki1, hji, d9, b9, r2, h1, h12, Cod.encs_len, Int.natCast_nonneg, Int.toNat_natCast, Nat.mul_one, decide_true, Option.bind_some]
theorem spec_wyAll.l4_run {n : Nat} (hn : 4 < n) (hw : w ≤ 7) (hh : h ≤ 7) (hc : cs.length = w * h) (hcd : u8C.decs (u8C.encs cs) = some cs) :
    ∀ (f k m : Nat) (N : List Nd), k + f = BIG → f < m → CInv w h (N.map Nd.core) → COrd k (N.map Nd.core) →
    spec_wyAll.l4 n m (k : Int) (w : Int) (h : Int) (u8C.encs cs) (ndC.encs N) (intC.encs (codes w (N.map Nd.u))) = some [Q.one (.sl 16 (ndC.encs (bf (flC w h cs) f k N)))] := by
  intro f
  induction f with
  | zero =>
    intro k m N hf hm hv ho
    obtain ⟨m, rfl⟩ : ∃ m', m = m' + 1 := ⟨m - 1, by omega⟩
    have hlen := cinv_big hw hh hv
    rw [List.length_map] at hlen
    have h1 : ¬ (k : Int) < ((N.length : Nat) : Int) := by omega
    rw [spec_wyAll.l4_eq]
    simp only [Cod.encs_len, h1, decide_false, cond_false]
    rfl
  | succ f ih =>
    intro k m N hf hm hv ho
    obtain ⟨m, rfl⟩ : ∃ m', m = m' + 1 := ⟨m - 1, by omega⟩
    rw [spec_wyAll.l4_eq, bf]
    by_cases hk : k < N.length
    · have h1 : (k : Int) < ((N.length : Nat) : Int) := by omega
      have hv4 := hv.visit4 flC_gd k (p := flC (w : Int) (h : Int) cs)
      obtain ⟨ho4, hl4⟩ := ho.visit4 (p := flC (w : Int) (h : Int) cs)
      rw [← visit4_core] at hv4 ho4 hl4
      rw [List.length_map, List.length_map] at hl4
      simp only [Cod.encs_len, h1, hk, decide_true, cond_true]
      refine Eq.trans (spec_wyAll.l7_run (n := n) (m4 := m) hw hh hc hcd 4 0 n k N rfl hn hk hv ho) ?_
      rw [visF4]
      exact ih (k + 1) m (visit4 (flC w h cs) k N) (by omega) (by omega) hv4 (ho4.step (by rw [List.length_map]; omega))
    · have h1 : ¬ (k : Int) < ((N.length : Nat) : Int) := by omega
      simp only [Cod.encs_len, h1, hk, decide_false, cond_false]
end
def spec_wyAll.stub : Stub
  | [.agg [.int .i64 gw, .int .i64 gh, .sl 1 es], .agg [.int .i64 x, .int .i64 y, .int .i64 t, .int .i64 n, .int .i64 e, .int .i64 s, .int .i64 w, .int .i64 b]] => .any (u8C.decs es) fun cs => .gd (Sp.inR gw 0 7) (.gd (Sp.inR gh 0 7) (.gd (decide (cs.length = gw.toNat * gh.toNat)) (.gd (Sp.inR x 0 (gw - 1)) (.gd (Sp.inR y 0 (gh - 1)) (.gd (Sp.Die.good ⟨t, n, e, s, w, b⟩) (.ret [.one (.sl 16 (ndC.encs (Sp.wyN (Sp.flC gw gh cs) ⟨x, y, ⟨t, n, e, s, w, b⟩⟩)))]))))))
  | _ => .fail
theorem spec_wyAll.ok : StubOk Tryd.prog C0 71 spec_wyAll.stub := by
  intro args res hst
  unfold spec_wyAll.stub at hst
  split at hst
  · rename_i gw gh es x y t n e s w b
    obtain ⟨cs, h1, h0⟩ := any_out hst
    obtain ⟨rfl, hl⟩ := Cod.decs_inv h1
    obtain ⟨h2, h0⟩ := gd_out h0
    obtain ⟨h3, h0⟩ := gd_out h0
    obtain ⟨h4, h0⟩ := gd_out h0
    obtain ⟨h5, h0⟩ := gd_out h0
    obtain ⟨h6, h0⟩ := gd_out h0
    obtain ⟨h7, h0⟩ := gd_out h0
    cases h0
    obtain ⟨w0, w7⟩ := inR_out h2
    obtain ⟨g0, g7⟩ := inR_out h3
    obtain ⟨x0, x6⟩ := inR_out h5
    obtain ⟨y0, y6⟩ := inR_out h6
    obtain ⟨W, rfl⟩ := Int.eq_ofNat_of_zero_le w0
    obtain ⟨H, rfl⟩ := Int.eq_ofNat_of_zero_le g0
    have h4 := of_decide_eq_true h4
    rw [Int.toNat_natCast, Int.toNat_natCast] at h4
    obtain ⟨N, hN⟩ : ∃ N, BIG + 64 ≤ N := ⟨BIG + 64, Nat.le_refl _⟩
    refine spec_wyAll.ev (n := N) ?_
    unfold spec_wyAll.res
    have gx : inR x 0 6 = true := inr6 (w := W) x0 (by omega) (by omega)
    have gy : inR y 0 6 = true := inr6 (w := H) y0 (by omega) (by omega)
    have hg : Gds W H ⟨x, y, ⟨t, n, e, s, w, b⟩⟩ := ⟨x0, by show x < (W : Int); omega, y0, by show y < (H : Int); omega, h7⟩
    have hv : CInv W H ([nd0 ⟨x, y, ⟨t, n, e, s, w, b⟩⟩].map Nd.core) := cr0_inv hg
    have ho : COrd 0 ([nd0 ⟨x, y, ⟨t, n, e, s, w, b⟩⟩].map Nd.core) := cr0_ord _
    have key := spec_wyAll.l4_run (n := N) (cs := cs) (by omega) (by omega) (by omega) h4 h1 BIG 0 N [nd0 ⟨x, y, ⟨t, n, e, s, w, b⟩⟩] (by omega) (by omega) hv ho
    rw [h2, gx, gy, h7]
    exact key
  · cases hst
end Go.Proofs.EV.PL
