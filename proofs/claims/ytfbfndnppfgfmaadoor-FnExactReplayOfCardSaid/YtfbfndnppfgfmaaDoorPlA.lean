import Derived.Test.YtfbfndnppfgfmaaDoorProg
import Derived.Test.YtfbfndnppfgfmaaDoorEvC
set_option linter.unusedVariables false
/-! The seat's types. -/
namespace Go.Proofs.EV.PL
open Go Go.Proofs Go.Proofs.EV
def tyl : List (TypeId × TI) := [
  (1, ⟨.func, 1, [.nl .nilf], false⟩),
  (2, ⟨.int .i64, 1, [.int .i64], false⟩),
  (3, ⟨.int .i64, 1, [.int .i64], false⟩),
  (4, ⟨.bool, 1, [.bool], false⟩),
  (5, ⟨.int .u8, 1, [.int .u8], false⟩),
  (6, ⟨.int .u8, 1, [.int .u8], false⟩),
  (7, ⟨.struct [(0, 2), (1, 3), (2, 4), (3, 6)], 4, [.int .i64, .int .i64, .bool, .int .u8], true⟩),
  (8, ⟨.struct [(0, 2), (1, 3), (2, 4), (3, 6)], 4, [.int .i64, .int .i64, .bool, .int .u8], true⟩),
  (9, ⟨.string, 1, [.str], false⟩),
  (10, ⟨.string, 1, [.str], false⟩),
  (11, ⟨.string, 1, [.str], false⟩),
  (12, ⟨.int .u64, 1, [.int .u64], false⟩),
  (13, ⟨.struct [(0, 9), (1, 12)], 2, [.str, .int .u64], false⟩),
  (14, ⟨.struct [(0, 9), (1, 12)], 2, [.str, .int .u64], false⟩),
  (15, ⟨.pointer 167, 1, [.nl .nilp], false⟩),
  (16, ⟨.pointer 170, 1, [.nl .nilp], false⟩),
  (17, ⟨.pointer 178, 1, [.nl .nilp], false⟩),
  (18, ⟨.struct [(0, 17)], 1, [.nl .nilp], false⟩),
  (19, ⟨.struct [(0, 17)], 1, [.nl .nilp], false⟩),
  (20, ⟨.iface, 1, [.nl .nili], false⟩),
  (21, ⟨.int .i32, 1, [.int .i32], false⟩),
  (22, ⟨.struct [(0, 3), (1, 3), (2, 3), (3, 3), (4, 3), (5, 3)], 6, [.int .i64, .int .i64, .int .i64, .int .i64, .int .i64, .int .i64], true⟩),
  (23, ⟨.struct [(0, 3), (1, 3), (2, 3), (3, 3), (4, 3), (5, 3)], 6, [.int .i64, .int .i64, .int .i64, .int .i64, .int .i64, .int .i64], true⟩),
  (24, ⟨.struct [(0, 3), (1, 3), (2, 23)], 8, [.int .i64, .int .i64, .int .i64, .int .i64, .int .i64, .int .i64, .int .i64, .int .i64], true⟩),
  (25, ⟨.struct [(0, 3), (1, 3), (2, 23)], 8, [.int .i64, .int .i64, .int .i64, .int .i64, .int .i64, .int .i64, .int .i64, .int .i64], true⟩),
  (26, ⟨.struct [(0, 9), (1, 25)], 9, [.str, .int .i64, .int .i64, .int .i64, .int .i64, .int .i64, .int .i64, .int .i64, .int .i64], true⟩),
  (27, ⟨.struct [(0, 9), (1, 25)], 9, [.str, .int .i64, .int .i64, .int .i64, .int .i64, .int .i64, .int .i64, .int .i64, .int .i64], true⟩),
  (28, ⟨.func, 1, [.nl .nilf], false⟩),
  (29, ⟨.func, 1, [.nl .nilf], false⟩),
  (30, ⟨.struct [(0, 3), (1, 3), (2, 3), (3, 3), (4, 3), (5, 3)], 6, [.int .i64, .int .i64, .int .i64, .int .i64, .int .i64, .int .i64], true⟩),
  (31, ⟨.struct [(0, 3), (1, 3), (2, 30)], 8, [.int .i64, .int .i64, .int .i64, .int .i64, .int .i64, .int .i64, .int .i64, .int .i64], true⟩),
  (32, ⟨.struct [(0, 3), (1, 3), (2, 30)], 8, [.int .i64, .int .i64, .int .i64, .int .i64, .int .i64, .int .i64, .int .i64, .int .i64], true⟩),
  (33, ⟨.struct [(0, 9), (1, 32)], 9, [.str, .int .i64, .int .i64, .int .i64, .int .i64, .int .i64, .int .i64, .int .i64, .int .i64], true⟩),
  (34, ⟨.struct [(0, 9), (1, 32)], 9, [.str, .int .i64, .int .i64, .int .i64, .int .i64, .int .i64, .int .i64, .int .i64, .int .i64], true⟩),
  (35, ⟨.func, 1, [.nl .nilf], false⟩),
  (36, ⟨.func, 1, [.nl .nilf], false⟩),
  (37, ⟨.struct [(0, 9), (1, 25), (9, 3), (10, 3), (11, 3)], 12, [.str, .int .i64, .int .i64, .int .i64, .int .i64, .int .i64, .int .i64, .int .i64, .int .i64, .int .i64, .int .i64, .int .i64], true⟩),
  (38, ⟨.struct [(0, 9), (1, 25), (9, 3), (10, 3), (11, 3)], 12, [.str, .int .i64, .int .i64, .int .i64, .int .i64, .int .i64, .int .i64, .int .i64, .int .i64, .int .i64, .int .i64, .int .i64], true⟩),
  (39, ⟨.func, 1, [.nl .nilf], false⟩),
  (40, ⟨.func, 1, [.nl .nilf], false⟩),
  (41, ⟨.struct [(0, 9), (1, 32), (9, 3), (10, 3), (11, 3)], 12, [.str, .int .i64, .int .i64, .int .i64, .int .i64, .int .i64, .int .i64, .int .i64, .int .i64, .int .i64, .int .i64, .int .i64], true⟩),
  (42, ⟨.struct [(0, 9), (1, 32), (9, 3), (10, 3), (11, 3)], 12, [.str, .int .i64, .int .i64, .int .i64, .int .i64, .int .i64, .int .i64, .int .i64, .int .i64, .int .i64, .int .i64, .int .i64], true⟩),
  (43, ⟨.func, 1, [.nl .nilf], false⟩),
  (44, ⟨.func, 1, [.nl .nilf], false⟩),
  (46, ⟨.func, 1, [.nl .nilf], false⟩),
  (47, ⟨.func, 1, [.nl .nilf], false⟩),
  (49, ⟨.func, 1, [.nl .nilf], false⟩),
  (50, ⟨.func, 1, [.nl .nilf], false⟩),
  (51, ⟨.func, 1, [.nl .nilf], false⟩),
  (53, ⟨.func, 1, [.nl .nilf], false⟩),
  (54, ⟨.func, 1, [.nl .nilf], false⟩),
  (55, ⟨.slice 9, 1, [.sl 1], false⟩),
  (57, ⟨.func, 1, [.nl .nilf], false⟩),
  (58, ⟨.func, 1, [.nl .nilf], false⟩),
  (59, ⟨.func, 1, [.nl .nilf], false⟩),
  (60, ⟨.func, 1, [.nl .nilf], false⟩),
  (61, ⟨.func, 1, [.nl .nilf], false⟩),
  (62, ⟨.func, 1, [.nl .nilf], false⟩),
  (63, ⟨.slice 9, 1, [.sl 1], false⟩),
  (65, ⟨.func, 1, [.nl .nilf], false⟩),
  (66, ⟨.func, 1, [.nl .nilf], false⟩),
  (67, ⟨.func, 1, [.nl .nilf], false⟩),
  (68, ⟨.slice 5, 1, [.sl 1], false⟩),
  (69, ⟨.struct [(0, 3), (1, 3), (2, 68)], 3, [.int .i64, .int .i64, .sl 1], false⟩),
  (70, ⟨.struct [(0, 3), (1, 3), (2, 68)], 3, [.int .i64, .int .i64, .sl 1], false⟩),
  (72, ⟨.func, 1, [.nl .nilf], false⟩),
  (73, ⟨.func, 1, [.nl .nilf], false⟩),
  (74, ⟨.func, 1, [.nl .nilf], false⟩),
  (75, ⟨.func, 1, [.nl .nilf], false⟩),
  (76, ⟨.func, 1, [.nl .nilf], false⟩),
  (77, ⟨.func, 1, [.nl .nilf], false⟩),
  (79, ⟨.func, 1, [.nl .nilf], false⟩),
  (80, ⟨.slice 32, 1, [.sl 8], false⟩),
  (82, ⟨.func, 1, [.nl .nilf], false⟩),
  (83, ⟨.func, 1, [.nl .nilf], false⟩),
  (84, ⟨.func, 1, [.nl .nilf], false⟩),
  (85, ⟨.func, 1, [.nl .nilf], false⟩),
  (87, ⟨.func, 1, [.nl .nilf], false⟩),
  (89, ⟨.func, 1, [.nl .nilf], false⟩),
  (90, ⟨.func, 1, [.nl .nilf], false⟩),
  (91, ⟨.func, 1, [.nl .nilf], false⟩),
  (92, ⟨.func, 1, [.nl .nilf], false⟩),
  (93, ⟨.func, 1, [.nl .nilf], false⟩),
  (94, ⟨.func, 1, [.nl .nilf], false⟩),
  (95, ⟨.func, 1, [.nl .nilf], false⟩),
  (96, ⟨.func, 1, [.nl .nilf], false⟩),
  (97, ⟨.func, 1, [.nl .nilf], false⟩),
  (99, ⟨.func, 1, [.nl .nilf], false⟩),
  (100, ⟨.func, 1, [.nl .nilf], false⟩),
  (101, ⟨.func, 1, [.nl .nilf], false⟩),
  (102, ⟨.func, 1, [.nl .nilf], false⟩),
  (103, ⟨.func, 1, [.nl .nilf], false⟩),
  (104, ⟨.func, 1, [.nl .nilf], false⟩),
  (105, ⟨.func, 1, [.nl .nilf], false⟩),
  (106, ⟨.func, 1, [.nl .nilf], false⟩),
  (107, ⟨.func, 1, [.nl .nilf], false⟩),
  (108, ⟨.func, 1, [.nl .nilf], false⟩),
  (109, ⟨.func, 1, [.nl .nilf], false⟩),
  (110, ⟨.func, 1, [.nl .nilf], false⟩),
  (111, ⟨.func, 1, [.nl .nilf], false⟩),
  (112, ⟨.func, 1, [.nl .nilf], false⟩),
  (113, ⟨.slice 3, 1, [.sl 1], false⟩),
  (114, ⟨.func, 1, [.nl .nilf], false⟩),
  (115, ⟨.func, 1, [.nl .nilf], false⟩),
  (116, ⟨.func, 1, [.nl .nilf], false⟩),
  (117, ⟨.func, 1, [.nl .nilf], false⟩),
  (118, ⟨.func, 1, [.nl .nilf], false⟩),
  (119, ⟨.func, 1, [.nl .nilf], false⟩),
  (120, ⟨.pointer 122, 1, [.nl .nilp], false⟩),
  (121, ⟨.struct [(0, 120), (1, 68)], 2, [.nl .nilp, .sl 1], false⟩),
  (122, ⟨.struct [(0, 120), (1, 68)], 2, [.nl .nilp, .sl 1], false⟩),
  (123, ⟨.func, 1, [.nl .nilf], false⟩),
  (124, ⟨.iface, 1, [.nl .nili], false⟩),
  (125, ⟨.iface, 1, [.nl .nili], false⟩),
  (127, ⟨.func, 1, [.nl .nilf], false⟩),
  (128, ⟨.func, 1, [.nl .nilf], false⟩),
  (129, ⟨.func, 1, [.nl .nilf], false⟩),
  (130, ⟨.func, 1, [.nl .nilf], false⟩),
  (131, ⟨.array 256 4, 256, [.bool, .bool, .bool, .bool, .bool, .bool, .bool, .bool, .bool, .bool, .bool, .bool, .bool, .bool, .bool, .bool, .bool, .bool, .bool, .bool, .bool, .bool, .bool, .bool, .bool, .bool, .bool, .bool, .bool, .bool, .bool, .bool, .bool, .bool, .bool, .bool, .bool, .bool, .bool, .bool, .bool, .bool, .bool, .bool, .bool, .bool, .bool, .bool, .bool, .bool, .bool, .bool, .bool, .bool, .bool, .bool, .bool, .bool, .bool, .bool, .bool, .bool, .bool, .bool, .bool, .bool, .bool, .bool, .bool, .bool, .bool, .bool, .bool, .bool, .bool, .bool, .bool, .bool, .bool, .bool, .bool, .bool, .bool, .bool, .bool, .bool, .bool, .bool, .bool, .bool, .bool, .bool, .bool, .bool, .bool, .bool, .bool, .bool, .bool, .bool, .bool, .bool, .bool, .bool, .bool, .bool, .bool, .bool, .bool, .bool, .bool, .bool, .bool, .bool, .bool, .bool, .bool, .bool, .bool, .bool, .bool, .bool, .bool, .bool, .bool, .bool, .bool, .bool, .bool, .bool, .bool, .bool, .bool, .bool, .bool, .bool, .bool, .bool, .bool, .bool, .bool, .bool, .bool, .bool, .bool, .bool, .bool, .bool, .bool, .bool, .bool, .bool, .bool, .bool, .bool, .bool, .bool, .bool, .bool, .bool, .bool, .bool, .bool, .bool, .bool, .bool, .bool, .bool, .bool, .bool, .bool, .bool, .bool, .bool, .bool, .bool, .bool, .bool, .bool, .bool, .bool, .bool, .bool, .bool, .bool, .bool, .bool, .bool, .bool, .bool, .bool, .bool, .bool, .bool, .bool, .bool, .bool, .bool, .bool, .bool, .bool, .bool, .bool, .bool, .bool, .bool, .bool, .bool, .bool, .bool, .bool, .bool, .bool, .bool, .bool, .bool, .bool, .bool, .bool, .bool, .bool, .bool, .bool, .bool, .bool, .bool, .bool, .bool, .bool, .bool, .bool, .bool, .bool, .bool, .bool, .bool, .bool, .bool, .bool, .bool, .bool, .bool, .bool, .bool, .bool, .bool, .bool, .bool, .bool, .bool, .bool, .bool, .bool, .bool, .bool, .bool], false⟩),
  (132, ⟨.array 256 4, 256, [.bool, .bool, .bool, .bool, .bool, .bool, .bool, .bool, .bool, .bool, .bool, .bool, .bool, .bool, .bool, .bool, .bool, .bool, .bool, .bool, .bool, .bool, .bool, .bool, .bool, .bool, .bool, .bool, .bool, .bool, .bool, .bool, .bool, .bool, .bool, .bool, .bool, .bool, .bool, .bool, .bool, .bool, .bool, .bool, .bool, .bool, .bool, .bool, .bool, .bool, .bool, .bool, .bool, .bool, .bool, .bool, .bool, .bool, .bool, .bool, .bool, .bool, .bool, .bool, .bool, .bool, .bool, .bool, .bool, .bool, .bool, .bool, .bool, .bool, .bool, .bool, .bool, .bool, .bool, .bool, .bool, .bool, .bool, .bool, .bool, .bool, .bool, .bool, .bool, .bool, .bool, .bool, .bool, .bool, .bool, .bool, .bool, .bool, .bool, .bool, .bool, .bool, .bool, .bool, .bool, .bool, .bool, .bool, .bool, .bool, .bool, .bool, .bool, .bool, .bool, .bool, .bool, .bool, .bool, .bool, .bool, .bool, .bool, .bool, .bool, .bool, .bool, .bool, .bool, .bool, .bool, .bool, .bool, .bool, .bool, .bool, .bool, .bool, .bool, .bool, .bool, .bool, .bool, .bool, .bool, .bool, .bool, .bool, .bool, .bool, .bool, .bool, .bool, .bool, .bool, .bool, .bool, .bool, .bool, .bool, .bool, .bool, .bool, .bool, .bool, .bool, .bool, .bool, .bool, .bool, .bool, .bool, .bool, .bool, .bool, .bool, .bool, .bool, .bool, .bool, .bool, .bool, .bool, .bool, .bool, .bool, .bool, .bool, .bool, .bool, .bool, .bool, .bool, .bool, .bool, .bool, .bool, .bool, .bool, .bool, .bool, .bool, .bool, .bool, .bool, .bool, .bool, .bool, .bool, .bool, .bool, .bool, .bool, .bool, .bool, .bool, .bool, .bool, .bool, .bool, .bool, .bool, .bool, .bool, .bool, .bool, .bool, .bool, .bool, .bool, .bool, .bool, .bool, .bool, .bool, .bool, .bool, .bool, .bool, .bool, .bool, .bool, .bool, .bool, .bool, .bool, .bool, .bool, .bool, .bool, .bool, .bool, .bool, .bool, .bool, .bool], false⟩),
  (134, ⟨.func, 1, [.nl .nilf], false⟩),
  (135, ⟨.func, 1, [.nl .nilf], false⟩),
  (136, ⟨.pointer 132, 1, [.nl .nilp], false⟩),
  (137, ⟨.func, 1, [.nl .nilf], false⟩),
  (138, ⟨.func, 1, [.nl .nilf], false⟩),
  (139, ⟨.func, 1, [.nl .nilf], false⟩),
  (140, ⟨.func, 1, [.nl .nilf], false⟩),
  (141, ⟨.pointer 5, 1, [.nl .nilp], false⟩),
  (142, ⟨.func, 1, [.nl .nilf], false⟩),
  (143, ⟨.func, 1, [.nl .nilf], false⟩),
  (145, ⟨.func, 1, [.nl .nilf], false⟩),
  (146, ⟨.func, 1, [.nl .nilf], false⟩),
  (147, ⟨.func, 1, [.nl .nilf], false⟩),
  (148, ⟨.func, 1, [.nl .nilf], false⟩),
  (149, ⟨.func, 1, [.nl .nilf], false⟩),
  (150, ⟨.func, 1, [.nl .nilf], false⟩),
  (151, ⟨.func, 1, [.nl .nilf], false⟩),
  (153, ⟨.func, 1, [.nl .nilf], false⟩),
  (154, ⟨.func, 1, [.nl .nilf], false⟩),
  (155, ⟨.func, 1, [.nl .nilf], false⟩),
  (156, ⟨.int .u64, 1, [.int .u64], false⟩),
  (157, ⟨.func, 1, [.nl .nilf], false⟩),
  (158, ⟨.int .u32, 1, [.int .u32], false⟩),
  (160, ⟨.func, 1, [.nl .nilf], false⟩),
  (161, ⟨.array 256 5, 256, [.int .u8, .int .u8, .int .u8, .int .u8, .int .u8, .int .u8, .int .u8, .int .u8, .int .u8, .int .u8, .int .u8, .int .u8, .int .u8, .int .u8, .int .u8, .int .u8, .int .u8, .int .u8, .int .u8, .int .u8, .int .u8, .int .u8, .int .u8, .int .u8, .int .u8, .int .u8, .int .u8, .int .u8, .int .u8, .int .u8, .int .u8, .int .u8, .int .u8, .int .u8, .int .u8, .int .u8, .int .u8, .int .u8, .int .u8, .int .u8, .int .u8, .int .u8, .int .u8, .int .u8, .int .u8, .int .u8, .int .u8, .int .u8, .int .u8, .int .u8, .int .u8, .int .u8, .int .u8, .int .u8, .int .u8, .int .u8, .int .u8, .int .u8, .int .u8, .int .u8, .int .u8, .int .u8, .int .u8, .int .u8, .int .u8, .int .u8, .int .u8, .int .u8, .int .u8, .int .u8, .int .u8, .int .u8, .int .u8, .int .u8, .int .u8, .int .u8, .int .u8, .int .u8, .int .u8, .int .u8, .int .u8, .int .u8, .int .u8, .int .u8, .int .u8, .int .u8, .int .u8, .int .u8, .int .u8, .int .u8, .int .u8, .int .u8, .int .u8, .int .u8, .int .u8, .int .u8, .int .u8, .int .u8, .int .u8, .int .u8, .int .u8, .int .u8, .int .u8, .int .u8, .int .u8, .int .u8, .int .u8, .int .u8, .int .u8, .int .u8, .int .u8, .int .u8, .int .u8, .int .u8, .int .u8, .int .u8, .int .u8, .int .u8, .int .u8, .int .u8, .int .u8, .int .u8, .int .u8, .int .u8, .int .u8, .int .u8, .int .u8, .int .u8, .int .u8, .int .u8, .int .u8, .int .u8, .int .u8, .int .u8, .int .u8, .int .u8, .int .u8, .int .u8, .int .u8, .int .u8, .int .u8, .int .u8, .int .u8, .int .u8, .int .u8, .int .u8, .int .u8, .int .u8, .int .u8, .int .u8, .int .u8, .int .u8, .int .u8, .int .u8, .int .u8, .int .u8, .int .u8, .int .u8, .int .u8, .int .u8, .int .u8, .int .u8, .int .u8, .int .u8, .int .u8, .int .u8, .int .u8, .int .u8, .int .u8, .int .u8, .int .u8, .int .u8, .int .u8, .int .u8, .int .u8, .int .u8, .int .u8, .int .u8, .int .u8, .int .u8, .int .u8, .int .u8, .int .u8, .int .u8, .int .u8, .int .u8, .int .u8, .int .u8, .int .u8, .int .u8, .int .u8, .int .u8, .int .u8, .int .u8, .int .u8, .int .u8, .int .u8, .int .u8, .int .u8, .int .u8, .int .u8, .int .u8, .int .u8, .int .u8, .int .u8, .int .u8, .int .u8, .int .u8, .int .u8, .int .u8, .int .u8, .int .u8, .int .u8, .int .u8, .int .u8, .int .u8, .int .u8, .int .u8, .int .u8, .int .u8, .int .u8, .int .u8, .int .u8, .int .u8, .int .u8, .int .u8, .int .u8, .int .u8, .int .u8, .int .u8, .int .u8, .int .u8, .int .u8, .int .u8, .int .u8, .int .u8, .int .u8, .int .u8, .int .u8, .int .u8, .int .u8, .int .u8, .int .u8, .int .u8, .int .u8, .int .u8, .int .u8, .int .u8, .int .u8, .int .u8, .int .u8, .int .u8, .int .u8, .int .u8, .int .u8, .int .u8], false⟩),
  (162, ⟨.struct [(0, 5), (1, 5)], 2, [.int .u8, .int .u8], true⟩),
  (163, ⟨.struct [(0, 5), (1, 5)], 2, [.int .u8, .int .u8], true⟩),
  (164, ⟨.array 16 163, 32, [.int .u8, .int .u8, .int .u8, .int .u8, .int .u8, .int .u8, .int .u8, .int .u8, .int .u8, .int .u8, .int .u8, .int .u8, .int .u8, .int .u8, .int .u8, .int .u8, .int .u8, .int .u8, .int .u8, .int .u8, .int .u8, .int .u8, .int .u8, .int .u8, .int .u8, .int .u8, .int .u8, .int .u8, .int .u8, .int .u8, .int .u8, .int .u8], false⟩),
  (165, ⟨.func, 1, [.nl .nilf], false⟩),
  (166, ⟨.struct [(0, 17), (1, 17), (2, 17), (3, 9)], 4, [.nl .nilp, .nl .nilp, .nl .nilp, .str], false⟩),
  (167, ⟨.struct [(0, 17), (1, 17), (2, 17), (3, 9)], 4, [.nl .nilp, .nl .nilp, .nl .nilp, .str], false⟩),
  (171, ⟨.func, 1, [.nl .nilf], false⟩),
  (172, ⟨.int .u8, 1, [.int .u8], false⟩),
  (173, ⟨.int .u8, 1, [.int .u8], false⟩),
  (174, ⟨.func, 1, [.nl .nilf], false⟩),
  (175, ⟨.int .i32, 1, [.int .i32], false⟩),
  (176, ⟨.int .i32, 1, [.int .i32], false⟩),
  (177, ⟨.struct [(0, 12), (1, 12), (2, 158), (3, 172), (4, 5), (5, 5), (6, 173), (7, 174), (8, 141), (9, 175), (10, 176)], 11, [.int .u64, .int .u64, .int .u32, .int .u8, .int .u8, .int .u8, .int .u8, .nl .nilf, .nl .nilp, .int .i32, .int .i32], false⟩),
  (178, ⟨.struct [(0, 12), (1, 12), (2, 158), (3, 172), (4, 5), (5, 5), (6, 173), (7, 174), (8, 141), (9, 175), (10, 176)], 11, [.int .u64, .int .u64, .int .u32, .int .u8, .int .u8, .int .u8, .int .u8, .nl .nilf, .nl .nilp, .int .i32, .int .i32], false⟩),
  (179, ⟨.func, 1, [.nl .nilf], false⟩),
  (180, ⟨.func, 1, [.nl .nilf], false⟩)]
def sigF : Nat → List RK
  | 0 => []
  | 1 => []
  | 2 => []
  | 3 => [.one (.bool)]
  | 4 => [.one (.bool)]
  | 5 => [.one (.bool)]
  | 6 => [.one (.bool)]
  | 7 => [.one (.bool)]
  | 8 => [.one (.bool)]
  | 9 => [.one (.bool)]
  | 10 => [.one (.bool)]
  | 11 => [.one (.bool)]
  | 12 => [.one (.bool)]
  | 13 => [.one (.bool)]
  | 14 => [.one (.bool)]
  | 15 => [.one (.int .i64)]
  | 16 => [.one (.bool)]
  | 17 => [.agg [.str, .int .i64, .int .i64, .int .i64, .int .i64, .int .i64, .int .i64, .int .i64, .int .i64]]
  | 18 => [.one (.bool)]
  | 19 => [.one (.int .i64)]
  | 20 => [.one (.bool)]
  | 21 => [.agg [.str, .int .i64, .int .i64, .int .i64, .int .i64, .int .i64, .int .i64, .int .i64, .int .i64, .int .i64, .int .i64, .int .i64]]
  | 22 => [.one (.bool)]
  | 23 => [.one (.str), .one (.bool)]
  | 24 => [.one (.str), .one (.bool)]
  | 25 => [.one (.str), .one (.bool)]
  | 26 => [.one (.str), .one (.bool)]
  | 27 => [.one (.str), .one (.bool)]
  | 28 => [.one (.str), .one (.bool)]
  | 29 => [.one (.str), .one (.bool)]
  | 30 => [.one (.str), .one (.bool)]
  | 31 => [.one (.bool), .one (.bool)]
  | 32 => [.one (.bool), .one (.bool)]
  | 33 => [.one (.str), .one (.bool)]
  | 34 => [.one (.str), .one (.bool)]
  | 35 => [.agg [.str, .int .i64, .int .i64, .int .i64, .int .i64, .int .i64, .int .i64, .int .i64, .int .i64, .int .i64, .int .i64, .int .i64], .one (.bool)]
  | 36 => [.agg [.str, .int .i64, .int .i64, .int .i64, .int .i64, .int .i64, .int .i64, .int .i64, .int .i64, .int .i64, .int .i64, .int .i64], .one (.bool)]
  | 37 => [.one (.bool)]
  | 38 => [.own 1, .one (.bool)]
  | 39 => [.own 1, .one (.bool)]
  | 40 => [.one (.bool)]
  | 41 => [.one (.int .i64)]
  | 42 => [.one (.int .i64)]
  | 43 => [.one (.str), .one (.bool)]
  | 44 => [.agg [.int .i64, .int .i64, .int .i64, .int .i64, .int .i64, .int .i64, .int .i64, .int .i64]]
  | 45 => [.one (.str), .one (.bool)]
  | 46 => [.one (.str), .one (.bool)]
  | 47 => [.one (.str), .one (.bool)]
  | 48 => [.one (.bool)]
  | 49 => [.own 1, .one (.bool)]
  | 50 => [.one (.bool)]
  | 51 => [.one (.int .u8)]
  | 52 => [.one (.bool)]
  | 53 => [.agg [.int .i64, .int .i64, .sl 1], .one (.bool)]
  | 54 => [.one (.str)]
  | 55 => [.agg [.int .i64, .int .i64, .sl 1]]
  | 56 => [.own 1, .one (.bool)]
  | 57 => [.own 1]
  | 58 => [.one (.str)]
  | 59 => [.agg [.int .i64, .int .i64, .sl 1], .one (.bool)]
  | 60 => [.own 1, .one (.bool)]
  | 61 => [.agg [.int .i64, .int .i64, .sl 1], .own 1, .one (.bool)]
  | 62 => [.own 1, .one (.bool)]
  | 63 => [.own 1]
  | 64 => [.one (.bool)]
  | 65 => [.own 8, .one (.bool)]
  | 66 => [.one (.bool)]
  | 67 => [.one (.bool)]
  | 68 => [.own 8, .one (.bool)]
  | 69 => [.one (.bool)]
  | 70 => [.one (.int .i64)]
  | 71 => [.agg [.int .i64, .int .i64, .int .i64, .int .i64, .int .i64, .int .i64, .int .i64, .int .i64], .one (.bool)]
  | 72 => [.agg [.int .i64, .int .i64, .int .i64, .int .i64, .int .i64, .int .i64, .int .i64, .int .i64], .one (.bool)]
  | 73 => [.one (.int .i64), .one (.int .i64)]
  | 74 => [.one (.bool)]
  | 75 => [.one (.str)]
  | 76 => [.one (.str), .one (.bool)]
  | 77 => [.one (.str)]
  | 78 => [.one (.str)]
  | 79 => [.agg [.int .i64, .int .i64, .int .i64, .int .i64, .int .i64, .int .i64]]
  | 80 => [.own 1]
  | 81 => [.one (.bool)]
  | 82 => [.one (.int .i64), .one (.bool)]
  | 83 => [.agg [.int .i64, .int .i64, .sl 1], .one (.bool)]
  | 84 => [.one (.bool)]
  | 85 => [.one (.bool)]
  | 86 => [.one (.bool)]
  | 87 => [.one (.bool)]
  | 88 => [.own 1, .one (.bool)]
  | 89 => [.one (.str)]
  | 90 => [.one (.int .i64)]
  | 91 => [.one (.bool)]
  | 92 => [.one (.int .i64)]
  | 93 => [.own 8]
  | 94 => [.one (.str)]
  | 95 => [.own 8]
  | 96 => [.one (.bool)]
  | 97 => [.agg [.int .i64, .int .i64, .int .i64, .int .i64, .int .i64, .int .i64]]
  | 98 => [.agg [.int .i64, .int .i64, .int .i64, .int .i64, .int .i64, .int .i64]]
  | 99 => [.one (.bool)]
  | 100 => [.own 1]
  | 101 => [.one (.str)]
  | 102 => [.one (.bool)]
  | 103 => [.own 1]
  | 104 => [.own 1]
  | 105 => [.one (.bool)]
  | 106 => [.one (.bool)]
  | 107 => [.own 1]
  | 108 => []
  | 109 => [.one (.int .i64), .one (.nl .nili)]
  | 110 => [.one (.str)]
  | 111 => [.one (.int .i64)]
  | 112 => [.one (.int .i64)]
  | 113 => [.one (.int .i64)]
  | 114 => [.one (.str)]
  | 115 => [.agg [.int .i64, .int .i64, .int .i64, .int .i64, .int .i64, .int .i64, .int .i64, .int .i64], .one (.bool)]
  | 116 => [.one (.str)]
  | 117 => [.one (.str)]
  | 118 => [.agg [.bool, .bool, .bool, .bool, .bool, .bool, .bool, .bool, .bool, .bool, .bool, .bool, .bool, .bool, .bool, .bool, .bool, .bool, .bool, .bool, .bool, .bool, .bool, .bool, .bool, .bool, .bool, .bool, .bool, .bool, .bool, .bool, .bool, .bool, .bool, .bool, .bool, .bool, .bool, .bool, .bool, .bool, .bool, .bool, .bool, .bool, .bool, .bool, .bool, .bool, .bool, .bool, .bool, .bool, .bool, .bool, .bool, .bool, .bool, .bool, .bool, .bool, .bool, .bool, .bool, .bool, .bool, .bool, .bool, .bool, .bool, .bool, .bool, .bool, .bool, .bool, .bool, .bool, .bool, .bool, .bool, .bool, .bool, .bool, .bool, .bool, .bool, .bool, .bool, .bool, .bool, .bool, .bool, .bool, .bool, .bool, .bool, .bool, .bool, .bool, .bool, .bool, .bool, .bool, .bool, .bool, .bool, .bool, .bool, .bool, .bool, .bool, .bool, .bool, .bool, .bool, .bool, .bool, .bool, .bool, .bool, .bool, .bool, .bool, .bool, .bool, .bool, .bool, .bool, .bool, .bool, .bool, .bool, .bool, .bool, .bool, .bool, .bool, .bool, .bool, .bool, .bool, .bool, .bool, .bool, .bool, .bool, .bool, .bool, .bool, .bool, .bool, .bool, .bool, .bool, .bool, .bool, .bool, .bool, .bool, .bool, .bool, .bool, .bool, .bool, .bool, .bool, .bool, .bool, .bool, .bool, .bool, .bool, .bool, .bool, .bool, .bool, .bool, .bool, .bool, .bool, .bool, .bool, .bool, .bool, .bool, .bool, .bool, .bool, .bool, .bool, .bool, .bool, .bool, .bool, .bool, .bool, .bool, .bool, .bool, .bool, .bool, .bool, .bool, .bool, .bool, .bool, .bool, .bool, .bool, .bool, .bool, .bool, .bool, .bool, .bool, .bool, .bool, .bool, .bool, .bool, .bool, .bool, .bool, .bool, .bool, .bool, .bool, .bool, .bool, .bool, .bool, .bool, .bool, .bool, .bool, .bool, .bool, .bool, .bool, .bool, .bool, .bool, .bool, .bool, .bool, .bool, .bool, .bool, .bool, .bool, .bool, .bool, .bool, .bool, .bool], .one (.bool)]
  | 119 => [.one (.str)]
  | 120 => [.one (.str)]
  | 121 => [.one (.str)]
  | 122 => [.one (.str)]
  | 123 => [.agg [.int .i64, .int .i64, .int .i64, .int .i64, .int .i64, .int .i64, .int .i64, .int .i64], .one (.bool)]
  | 124 => [.one (.bool)]
  | 125 => [.one (.bool)]
  | 126 => [.one (.bool)]
  | 127 => [.own 1]
  | 128 => []
  | 129 => []
  | 130 => [.one (.int .i64)]
  | 131 => [.one (.int .i64), .one (.int .i64)]
  | 132 => [.agg [.int .i64, .int .i64, .int .i64, .int .i64, .int .i64, .int .i64]]
  | 133 => [.one (.bool)]
  | 134 => [.one (.int .i32), .one (.int .i64)]
  | 135 => [.one (.bool)]
  | 136 => [.one (.int .i32), .one (.int .i64)]
  | 137 => [.one (.int .i64), .one (.int .i64)]
  | 138 => [.agg [.int .i64, .int .i64, .int .i64, .int .i64, .int .i64, .int .i64]]
  | 139 => [.one (.int .i64)]
  | 140 => [.one (.bool)]
  | 141 => [.own 1]
  | 142 => [.one (.nl .nilp)]
  | 143 => [.own 1]
  | 144 => [.one (.int .i64)]
  | 145 => [.one (.int .i64)]
  | 146 => [.one (.int .i64)]
  | 147 => [.one (.int .i64)]
  | 148 => [.one (.int .i32), .one (.int .i64)]
  | 149 => [.one (.int .i64)]
  | 150 => [.one (.bool)]
  | 151 => [.one (.int .i64)]
  | 152 => [.one (.int .u32), .one (.int .u32)]
  | 153 => [.one (.int .i64)]
  | 154 => [.one (.bool)]
  | 155 => [.one (.str)]
  | 156 => []
  | 157 => [.one (.str)]
  | 158 => []
  | 159 => [.one (.str)]
  | 160 => []
  | 161 => [.one (.str)]
  | 162 => []
  | 163 => [.one (.str)]
  | 164 => []
  | 165 => [.one (.str)]
  | 166 => []
  | 167 => [.one (.int .i64)]
  | 168 => [.one (.str)]
  | 169 => []
  | 170 => [.one (.bool)]
  | 171 => [.one (.str)]
  | 172 => [.one (.int .i64), .one (.bool)]
  | 173 => []
  | 174 => [.one (.str)]
  | 175 => []
  | 176 => []
  | 177 => []
  | 178 => []
  | 179 => []
  | _ => []
def borF : Nat → Bool
  | 41 => true
  | _ => false
def newsF : Nat → Nat
  | _ => 0
instance : Dr := ⟨⟨False⟩⟩
def C0 : Cfg := { ty := tysOf tyl, M := fun _ _ => .fail, sig := sigF, glob := fun _ => .undef, keep := fun _ => none, nb := 0, bor := borF, news := newsF, MM := fun _ _ _ => .fail }
theorem cfg0 : CfgOk Tryd.prog C0 := cfgOk_tys rfl (by kernel_rfl)
theorem mix : Tryd.prog.follows .mixedOrders = true := by kernel_rfl
end Go.Proofs.EV.PL
set_option linter.unusedVariables false
set_option linter.unusedSimpArgs false
/-! Dice: what they are, in both packages. -/
namespace Go.Proofs.EV.PL
open Go Go.Proofs Go.Proofs.EV Sp
/-! spec_l1In -/
noncomputable def spec_l1In.cfg : Cfg := { C0 with keep := fun _ => none, nb := 0, M := tabM [], MM := tabB [] }
noncomputable def spec_l1In.res (n : Nat) (a0 : Int) (a1 : Int) (a2 : Int) : Option (List Q) :=
  bif decide (a0 ≥ a1) then some [Q.one (D.bool (decide (a0 ≤ a2)))] else some [Q.one (D.bool false)]
theorem spec_l1In.run (n : Nat) (a0 : Int) (a1 : Int) (a2 : Int) :
    run1 spec_l1In.cfg [RK.one LK.bool] n Tryd.f86 [Q.one (D.int IntKind.i64 a0), Q.one (D.int IntKind.i64 a1), Q.one (D.int IntKind.i64 a2)] = spec_l1In.res n a0 a1 a2 := by kernel_rfl
theorem spec_l1In.ev {n : Nat} {a0 : Int} {a1 : Int} {a2 : Int} {r : List Q} (h : spec_l1In.res n a0 a1 a2 = some r) : Snd Tryd.prog C0 86 [.one (.int .i64 a0), .one (.int .i64 a1), .one (.int .i64 a2)] r :=
  snd_ev (C := spec_l1In.cfg) cfg0 mix rfl rfl rfl rfl rfl .nil .nil rfl Tryd.func86 (by kernel_rfl) (by kernel_rfl) rfl ((spec_l1In.run n a0 a1 a2).trans h)

def spec_l1In.stub : Stub
  | [.one (.int .i64 a), .one (.int .i64 b), .one (.int .i64 c)] => .ret [.one (.bool (Sp.inR a b c))]
  | _ => .fail
theorem spec_l1In.ok : StubOk Tryd.prog C0 86 spec_l1In.stub := by
  intro args res h
  unfold spec_l1In.stub at h
  split at h
  · rename_i a b c
    cases h
    refine spec_l1In.ev (n := 0) ?_
    unfold spec_l1In.res Sp.inR
    by_cases h1 : b ≤ a <;> simp [h1]
  · cases h
/-! impl_in -/
noncomputable def impl_in.cfg : Cfg := { C0 with keep := fun _ => none, nb := 0, M := tabM [], MM := tabB [] }
noncomputable def impl_in.res (n : Nat) (a0 : Int) (a1 : Int) (a2 : Int) : Option (List Q) :=
  bif decide (a1 ≤ a0) then some [Q.one (D.bool (decide (a0 ≤ a2)))] else some [Q.one (D.bool false)]
theorem impl_in.run (n : Nat) (a0 : Int) (a1 : Int) (a2 : Int) :
    run1 impl_in.cfg [RK.one LK.bool] n Tryd.f52 [Q.one (D.int IntKind.i64 a0), Q.one (D.int IntKind.i64 a1), Q.one (D.int IntKind.i64 a2)] = impl_in.res n a0 a1 a2 := by kernel_rfl
theorem impl_in.ev {n : Nat} {a0 : Int} {a1 : Int} {a2 : Int} {r : List Q} (h : impl_in.res n a0 a1 a2 = some r) : Snd Tryd.prog C0 52 [.one (.int .i64 a0), .one (.int .i64 a1), .one (.int .i64 a2)] r :=
  snd_ev (C := impl_in.cfg) cfg0 mix rfl rfl rfl rfl rfl .nil .nil rfl Tryd.func52 (by kernel_rfl) (by kernel_rfl) rfl ((impl_in.run n a0 a1 a2).trans h)

def impl_in.stub : Stub
  | [.one (.int .i64 a), .one (.int .i64 b), .one (.int .i64 c)] => .ret [.one (.bool (Sp.inR a b c))]
  | _ => .fail
theorem impl_in.ok : StubOk Tryd.prog C0 52 impl_in.stub := by
  intro args res h
  unfold impl_in.stub at h
  split at h
  · rename_i a b c
    cases h
    refine impl_in.ev (n := 0) ?_
    unfold impl_in.res Sp.inR
    by_cases h1 : b ≤ a <;> simp [h1]
  · cases h
/-! spec_diFaces -/
noncomputable def spec_diFaces.cfg : Cfg := { C0 with keep := fun _ => none, nb := 0, M := tabM [], MM := tabB [] }
noncomputable def spec_diFaces.res (n : Nat) (a0_0 : Int) (a0_1 : Int) (a0_2 : Int) (a0_3 : Int) (a0_4 : Int) (a0_5 : Int) : Option (List Q) :=
  some [Q.one (D.sl (1 : Nat) [[D.int IntKind.i64 a0_0], [D.int IntKind.i64 a0_1], [D.int IntKind.i64 a0_2], [D.int IntKind.i64 a0_3], [D.int IntKind.i64 a0_4], [D.int IntKind.i64 a0_5]])]
theorem spec_diFaces.run (n : Nat) (a0_0 : Int) (a0_1 : Int) (a0_2 : Int) (a0_3 : Int) (a0_4 : Int) (a0_5 : Int) :
    run1 spec_diFaces.cfg [RK.own (1 : Nat)] n Tryd.f100 [Q.agg [D.int IntKind.i64 a0_0, D.int IntKind.i64 a0_1, D.int IntKind.i64 a0_2, D.int IntKind.i64 a0_3, D.int IntKind.i64 a0_4, D.int IntKind.i64 a0_5]] = spec_diFaces.res n a0_0 a0_1 a0_2 a0_3 a0_4 a0_5 := by kernel_rfl
theorem spec_diFaces.ev {n : Nat} {a0_0 : Int} {a0_1 : Int} {a0_2 : Int} {a0_3 : Int} {a0_4 : Int} {a0_5 : Int} {r : List Q} (h : spec_diFaces.res n a0_0 a0_1 a0_2 a0_3 a0_4 a0_5 = some r) : Snd Tryd.prog C0 100 [.agg [.int .i64 a0_0, .int .i64 a0_1, .int .i64 a0_2, .int .i64 a0_3, .int .i64 a0_4, .int .i64 a0_5]] r :=
  snd_ev (C := spec_diFaces.cfg) cfg0 mix rfl rfl rfl rfl rfl .nil .nil rfl Tryd.func100 (by kernel_rfl) (by kernel_rfl) rfl ((spec_diFaces.run n a0_0 a0_1 a0_2 a0_3 a0_4 a0_5).trans h)

def spec_diFaces.stub : Stub
  | [.agg [.int .i64 t, .int .i64 n, .int .i64 e, .int .i64 s, .int .i64 w, .int .i64 b]] => .ret [.one (.sl 1 [[.int .i64 t], [.int .i64 n], [.int .i64 e], [.int .i64 s], [.int .i64 w], [.int .i64 b]])]
  | _ => .fail
theorem spec_diFaces.ok : StubOk Tryd.prog C0 100 spec_diFaces.stub := by
  intro args res h
  unfold spec_diFaces.stub at h
  split at h
  · cases h; exact spec_diFaces.ev (n := 0) rfl
  · cases h
/-! impl_Die_faces -/
noncomputable def impl_Die_faces.cfg : Cfg := { C0 with keep := fun _ => none, nb := 0, M := tabM [], MM := tabB [] }
noncomputable def impl_Die_faces.res (n : Nat) (a0_0 : Int) (a0_1 : Int) (a0_2 : Int) (a0_3 : Int) (a0_4 : Int) (a0_5 : Int) : Option (List Q) :=
  some [Q.one (D.sl (1 : Nat) [[D.int IntKind.i64 a0_0], [D.int IntKind.i64 a0_1], [D.int IntKind.i64 a0_2], [D.int IntKind.i64 a0_3], [D.int IntKind.i64 a0_4], [D.int IntKind.i64 a0_5]])]
theorem impl_Die_faces.run (n : Nat) (a0_0 : Int) (a0_1 : Int) (a0_2 : Int) (a0_3 : Int) (a0_4 : Int) (a0_5 : Int) :
    run1 impl_Die_faces.cfg [RK.own (1 : Nat)] n Tryd.f103 [Q.agg [D.int IntKind.i64 a0_0, D.int IntKind.i64 a0_1, D.int IntKind.i64 a0_2, D.int IntKind.i64 a0_3, D.int IntKind.i64 a0_4, D.int IntKind.i64 a0_5]] = impl_Die_faces.res n a0_0 a0_1 a0_2 a0_3 a0_4 a0_5 := by kernel_rfl
theorem impl_Die_faces.ev {n : Nat} {a0_0 : Int} {a0_1 : Int} {a0_2 : Int} {a0_3 : Int} {a0_4 : Int} {a0_5 : Int} {r : List Q} (h : impl_Die_faces.res n a0_0 a0_1 a0_2 a0_3 a0_4 a0_5 = some r) : Snd Tryd.prog C0 103 [.agg [.int .i64 a0_0, .int .i64 a0_1, .int .i64 a0_2, .int .i64 a0_3, .int .i64 a0_4, .int .i64 a0_5]] r :=
  snd_ev (C := impl_Die_faces.cfg) cfg0 mix rfl rfl rfl rfl rfl .nil .nil rfl Tryd.func103 (by kernel_rfl) (by kernel_rfl) rfl ((impl_Die_faces.run n a0_0 a0_1 a0_2 a0_3 a0_4 a0_5).trans h)

def impl_Die_faces.stub : Stub
  | [.agg [.int .i64 t, .int .i64 n, .int .i64 e, .int .i64 s, .int .i64 w, .int .i64 b]] => .ret [.one (.sl 1 [[.int .i64 t], [.int .i64 n], [.int .i64 e], [.int .i64 s], [.int .i64 w], [.int .i64 b]])]
  | _ => .fail
theorem impl_Die_faces.ok : StubOk Tryd.prog C0 103 impl_Die_faces.stub := by
  intro args res h
  unfold impl_Die_faces.stub at h
  split at h
  · cases h; exact impl_Die_faces.ev (n := 0) rfl
  · cases h
/-! spec_l1All -/
noncomputable def spec_l1All.cfg : Cfg := { C0 with keep := fun | 2 => some [1, 2, 9, 10, 11] | _ => none, nb := 0, M := tabM [(86, spec_l1In.stub)], MM := tabB [] }
noncomputable def spec_l1All.l2 (n : Nat) (m2 : Nat) (i0 : Int) (i1 : Int) (l2 : List (List D)) (i3 : Int) (i4 : Int) : Option (List Q) :=
  loopAt spec_l1All.cfg [RK.one LK.bool] n Tryd.f140 [1, 0, 1, 0] [] m2 (St.mk [V.undef, V.one true (D.int IntKind.i64 i0), V.one true (D.int IntKind.i64 i1), V.undef, V.undef, V.undef, V.undef, V.undef, V.undef, V.one false (D.sl (1 : Nat) l2), V.one true (D.int IntKind.i64 i3), V.one true (D.int IntKind.i64 i4), V.undef, V.undef, V.undef, V.undef, V.undef, V.undef, V.undef, V.undef, V.undef] [])
theorem spec_l1All.l2_eq (n : Nat) (m2 : Nat) (i0 : Int) (i1 : Int) (l2 : List (List D)) (i3 : Int) (i4 : Int) :
    spec_l1All.l2 n (m2 + 1) i0 i1 l2 i3 i4 = bif decide (i4 < i3) then bif decide ((0 : Int) ≤ i4) then bif decide (i4 < (↑(List.length l2) : Int)) then Option.bind (Option.bind (some (cellD l2 (Int.toNat i4) (0 : Nat))) (D.int? IntKind.i64)) fun (i1_1 : Int) => bif !inR i1_1 i0 i1 then some [Q.one (D.bool false)] else spec_l1All.l2 n m2 i0 i1 l2 i3 (IntKind.wrap IntKind.i64 (i4 + (1 : Int))) else none else none else some [Q.one (D.bool true)] := by kernel_rfl
noncomputable def spec_l1All.res (n : Nat) (a0 : List (List D)) (a1 : Int) (a2 : Int) : Option (List Q) :=
  spec_l1All.l2 n n a1 a2 a0 (↑(List.length a0) : Int) (0 : Int)
theorem spec_l1All.run (n : Nat) (a0 : List (List D)) (a1 : Int) (a2 : Int) :
    run1 spec_l1All.cfg [RK.one LK.bool] n Tryd.f140 [Q.one (D.sl (1 : Nat) a0), Q.one (D.int IntKind.i64 a1), Q.one (D.int IntKind.i64 a2)] = spec_l1All.res n a0 a1 a2 := by kernel_rfl
theorem spec_l1All.ev {n : Nat} {a0 : List (List D)} {a1 : Int} {a2 : Int} {r : List Q} (h : spec_l1All.res n a0 a1 a2 = some r) : Snd Tryd.prog C0 140 [.one (.sl 1 a0), .one (.int .i64 a1), .one (.int .i64 a2)] r :=
  snd_ev (C := spec_l1All.cfg) cfg0 mix rfl rfl rfl rfl rfl (.cons spec_l1In.ok .nil) .nil rfl Tryd.func140 (by kernel_rfl) (by kernel_rfl) rfl ((spec_l1All.run n a0 a1 a2).trans h)

theorem spec_l1All.loop {n : Nat} {lo hi : Int} {l : List Int} (hl : l.length ≤ LIM) : ∀ (d k m : Nat), k + d = l.length → d < m → spec_l1All.l2 n m lo hi (intC.encs l) l.length k = some [Q.one (.bool (Sp.allR (l.drop k) lo hi))] := by
  intro d
  induction d with
  | zero =>
    intro k m hk hm
    obtain ⟨m, rfl⟩ : ∃ m', m = m' + 1 := ⟨m - 1, by omega⟩
    obtain rfl : k = l.length := by omega
    simp [spec_l1All.l2_eq, Sp.allR]
  | succ d ih =>
    intro k m hk hm
    obtain ⟨m, rfl⟩ : ∃ m', m = m' + 1 := ⟨m - 1, by omega⟩
    have hlt : k < l.length := by omega
    rw [spec_l1All.l2_eq, List.drop_eq_getElem_cons hlt]
    simp only [Cod.encs_len, Int.ofNat_lt, hlt, decide_true, cond_true, Int.natCast_nonneg, Int.toNat_natCast, intC_int hlt, Option.bind_some, wrap_succ (show k ≤ LIM by omega), ih (k + 1) m (by omega) (by omega)]
    cases h : Sp.inR l[k] lo hi <;> simp only [Sp.allR, List.all_cons, h, Bool.not_true, Bool.not_false, cond_true, cond_false, Bool.true_and, Bool.false_and]
def spec_l1All.stub : Stub
  | [.one (.sl 1 es), .one (.int .i64 lo), .one (.int .i64 hi)] => .any (intC.decs es) fun l => .ret [.one (.bool (Sp.allR l lo hi))]
  | _ => .fail
theorem spec_l1All.ok : StubOk Tryd.prog C0 140 spec_l1All.stub := by
  intro args res h
  unfold spec_l1All.stub at h
  split at h
  · obtain ⟨l, h1, h2⟩ := any_out h
    obtain ⟨rfl, hl⟩ := Cod.decs_inv h1
    cases h2
    refine spec_l1All.ev (n := l.length + 1) ?_
    unfold spec_l1All.res
    simpa using spec_l1All.loop (n := l.length + 1) hl l.length 0 (l.length + 1) (by omega) (by omega)
  · cases h
/-! spec_diGood -/
noncomputable def spec_diGood.cfg : Cfg := { C0 with keep := fun _ => none, nb := 0, M := tabM [(100, spec_diFaces.stub), (140, spec_l1All.stub)], MM := tabB [] }
noncomputable def spec_diGood.res (n : Nat) (a0_0 : Int) (a0_1 : Int) (a0_2 : Int) (a0_3 : Int) (a0_4 : Int) (a0_5 : Int) : Option (List Q) :=
  some [Q.one (D.bool (allR [a0_0, a0_1, a0_2, a0_3, a0_4, a0_5] (0 : Int) (9 : Int)))]
theorem spec_diGood.run (n : Nat) (a0_0 : Int) (a0_1 : Int) (a0_2 : Int) (a0_3 : Int) (a0_4 : Int) (a0_5 : Int) :
    run1 spec_diGood.cfg [RK.one LK.bool] n Tryd.f126 [Q.agg [D.int IntKind.i64 a0_0, D.int IntKind.i64 a0_1, D.int IntKind.i64 a0_2, D.int IntKind.i64 a0_3, D.int IntKind.i64 a0_4, D.int IntKind.i64 a0_5]] = spec_diGood.res n a0_0 a0_1 a0_2 a0_3 a0_4 a0_5 := by kernel_rfl
theorem spec_diGood.ev {n : Nat} {a0_0 : Int} {a0_1 : Int} {a0_2 : Int} {a0_3 : Int} {a0_4 : Int} {a0_5 : Int} {r : List Q} (h : spec_diGood.res n a0_0 a0_1 a0_2 a0_3 a0_4 a0_5 = some r) : Snd Tryd.prog C0 126 [.agg [.int .i64 a0_0, .int .i64 a0_1, .int .i64 a0_2, .int .i64 a0_3, .int .i64 a0_4, .int .i64 a0_5]] r :=
  snd_ev (C := spec_diGood.cfg) cfg0 mix rfl rfl rfl rfl rfl (.cons spec_diFaces.ok (.cons spec_l1All.ok .nil)) .nil rfl Tryd.func126 (by kernel_rfl) (by kernel_rfl) rfl ((spec_diGood.run n a0_0 a0_1 a0_2 a0_3 a0_4 a0_5).trans h)

def spec_diGood.stub : Stub
  | [.agg [.int .i64 t, .int .i64 n, .int .i64 e, .int .i64 s, .int .i64 w, .int .i64 b]] => .ret [.one (.bool (Sp.Die.good ⟨t, n, e, s, w, b⟩))]
  | _ => .fail
theorem spec_diGood.ok : StubOk Tryd.prog C0 126 spec_diGood.stub := by
  intro args res h
  unfold spec_diGood.stub at h
  split at h
  · cases h; exact spec_diGood.ev (n := 0) rfl
  · cases h
/-! impl_IsDie_1 -/
noncomputable def impl_IsDie_1.cfg : Cfg := { C0 with keep := fun _ => none, nb := 0, M := tabM [(52, impl_in.stub)], MM := tabB [] }
noncomputable def impl_IsDie_1.res (n : Nat) (a0 : Int) : Option (List Q) :=
  some [Q.one (D.bool !inR a0 (0 : Int) (9 : Int))]
theorem impl_IsDie_1.run (n : Nat) (a0 : Int) :
    run1 impl_IsDie_1.cfg [RK.one LK.bool] n Tryd.f125 [Q.one (D.int IntKind.i64 a0)] = impl_IsDie_1.res n a0 := by kernel_rfl
theorem impl_IsDie_1.ev {n : Nat} {a0 : Int} {r : List Q} (h : impl_IsDie_1.res n a0 = some r) : Snd Tryd.prog C0 125 [.one (.int .i64 a0)] r :=
  snd_ev (C := impl_IsDie_1.cfg) cfg0 mix rfl rfl rfl rfl rfl (.cons impl_in.ok .nil) .nil rfl Tryd.func125 (by kernel_rfl) (by kernel_rfl) rfl ((impl_IsDie_1.run n a0).trans h)

def impl_IsDie_1.stub : Stub
  | [.one (.int .i64 a)] => .ret [.one (.bool (!Sp.inR a 0 9))]
  | _ => .fail
theorem impl_IsDie_1.ok : StubOk Tryd.prog C0 125 impl_IsDie_1.stub := by
  intro args res h
  unfold impl_IsDie_1.stub at h
  split at h
  · cases h; exact impl_IsDie_1.ev (n := 0) rfl
  · cases h
/-! idx_isDie -/
noncomputable def idx_isDie.cfg : Cfg := { C0 with keep := fun | 2 => some [0, 1, 7, 8] | _ => none, nb := 0, M := tabM [(125, impl_IsDie_1.stub)], MM := tabB [] }
noncomputable def idx_isDie.l2 (n : Nat) (m2 : Nat) (l0 : List (List D)) (i1 : Int) (i2 : Int) : Option (List Q) :=
  loopAt idx_isDie.cfg [RK.one (LK.int IntKind.i64)] n Tryd.f139 [1, 0, 1, 0] [] m2 (St.mk [V.one false (D.sl (1 : Nat) l0), V.one false (D.fn (125 : Nat) [] []), V.undef, V.undef, V.undef, V.undef, V.undef, V.one true (D.int IntKind.i64 i1), V.one true (D.int IntKind.i64 i2), V.undef, V.undef, V.undef, V.undef, V.undef, V.undef, V.undef, V.undef, V.undef, V.undef] [])
theorem idx_isDie.l2_eq (n : Nat) (m2 : Nat) (l0 : List (List D)) (i1 : Int) (i2 : Int) :
    idx_isDie.l2 n (m2 + 1) l0 i1 i2 = bif decide (i2 < i1) then bif decide ((0 : Int) ≤ i2) then bif decide (i2 < (↑(List.length l0) : Int)) then Option.bind (Option.bind (some (cellD l0 (Int.toNat i2) (0 : Nat))) (D.int? IntKind.i64)) fun (i1_1 : Int) => bif !inR i1_1 (0 : Int) (9 : Int) then some [Q.one (D.int IntKind.i64 i2)] else idx_isDie.l2 n m2 l0 i1 (IntKind.wrap IntKind.i64 (i2 + (1 : Int))) else none else none else some [Q.one (D.int IntKind.i64 (-1 : Int))] := by kernel_rfl
noncomputable def idx_isDie.res (n : Nat) (a0 : List (List D)) : Option (List Q) :=
  idx_isDie.l2 n n a0 (↑(List.length a0) : Int) (0 : Int)
theorem idx_isDie.run (n : Nat) (a0 : List (List D)) :
    run1 idx_isDie.cfg [RK.one (LK.int IntKind.i64)] n Tryd.f139 [Q.one (D.sl (1 : Nat) a0), Q.one (D.fn (125 : FuncId) [] [])] = idx_isDie.res n a0 := by kernel_rfl
theorem idx_isDie.ev {n : Nat} {a0 : List (List D)} {r : List Q} (h : idx_isDie.res n a0 = some r) : Snd Tryd.prog C0 139 [.one (.sl 1 a0), .one (.fn 125 [] [])] r :=
  snd_ev (C := idx_isDie.cfg) cfg0 mix rfl rfl rfl rfl rfl (.cons impl_IsDie_1.ok .nil) .nil rfl Tryd.func139 (by kernel_rfl) (by kernel_rfl) rfl ((idx_isDie.run n a0).trans h)

theorem idx_isDie.loop {n : Nat} {l : List Int} (hl : l.length ≤ LIM) : ∀ (d k m : Nat), k + d = l.length → d < m → idx_isDie.l2 n m (intC.encs l) l.length k = some [Q.one (.int .i64 (Sp.idxFrom (fun x => !Sp.inR x 0 9) (l.drop k) k))] := by
  intro d
  induction d with
  | zero =>
    intro k m hk hm
    obtain ⟨m, rfl⟩ : ∃ m', m = m' + 1 := ⟨m - 1, by omega⟩
    obtain rfl : k = l.length := by omega
    simp [idx_isDie.l2_eq, Sp.idxFrom]
  | succ d ih =>
    intro k m hk hm
    obtain ⟨m, rfl⟩ : ∃ m', m = m' + 1 := ⟨m - 1, by omega⟩
    have hlt : k < l.length := by omega
    rw [idx_isDie.l2_eq, List.drop_eq_getElem_cons hlt]
    simp only [Cod.encs_len, Int.ofNat_lt, hlt, decide_true, cond_true, Int.natCast_nonneg, Int.toNat_natCast, intC_int hlt, Option.bind_some, wrap_succ (show k ≤ LIM by omega), ih (k + 1) m (by omega) (by omega), Sp.idxFrom]
    rcases Bool.eq_false_or_eq_true ((fun x => !Sp.inR x 0 9) l[k]) with h | h <;> (try dsimp only at h) <;> simp only [h, cond_true, cond_false, Die.eta]
def idx_isDie.stub : Stub
  | [.one (.sl 1 es), .one (.fn 125 [] [])] => .any (intC.decs es) fun l => .ret [.one (.int .i64 (Sp.idxFrom (fun x => !Sp.inR x 0 9) l 0))]
  | _ => .fail
theorem idx_isDie.ok : StubOk Tryd.prog C0 139 idx_isDie.stub := by
  intro args res h
  unfold idx_isDie.stub at h
  split at h
  · obtain ⟨l, h1, h2⟩ := any_out h
    obtain ⟨rfl, hl⟩ := Cod.decs_inv h1
    cases h2
    refine idx_isDie.ev (n := l.length + 1) ?_
    unfold idx_isDie.res
    simpa using idx_isDie.loop (n := l.length + 1) hl l.length 0 (l.length + 1) (by omega) (by omega)
  · cases h
/-! con_isDie -/
noncomputable def con_isDie.cfg : Cfg := { C0 with keep := fun _ => none, nb := 0, M := tabM [(139, idx_isDie.stub)], MM := tabB [] }
noncomputable def con_isDie.res (n : Nat) (a0 : List (List D)) : Option (List Q) :=
  Option.bind (Cod.decs intC a0) fun (l1 : List Int) => some [Q.one (D.bool (decide (idxFrom (fun (x : Int) => !inR x (0 : Int) (9 : Int)) l1 (0 : Nat) ≥ (0 : Int))))]
theorem con_isDie.run (n : Nat) (a0 : List (List D)) :
    run1 con_isDie.cfg [RK.one LK.bool] n Tryd.f124 [Q.one (D.sl (1 : Nat) a0), Q.one (D.fn (125 : FuncId) [] [])] = con_isDie.res n a0 := by kernel_rfl
theorem con_isDie.ev {n : Nat} {a0 : List (List D)} {r : List Q} (h : con_isDie.res n a0 = some r) : Snd Tryd.prog C0 124 [.one (.sl 1 a0), .one (.fn 125 [] [])] r :=
  snd_ev (C := con_isDie.cfg) cfg0 mix rfl rfl rfl rfl rfl (.cons idx_isDie.ok .nil) .nil rfl Tryd.func124 (by kernel_rfl) (by kernel_rfl) rfl ((con_isDie.run n a0).trans h)

def con_isDie.stub : Stub
  | [.one (.sl 1 es), .one (.fn 125 [] [])] => .any (intC.decs es) fun l => .ret [.one (.bool (Sp.anyB (fun x => !Sp.inR x 0 9) l))]
  | _ => .fail
theorem con_isDie.ok : StubOk Tryd.prog C0 124 con_isDie.stub := by
  intro args res h
  unfold con_isDie.stub at h
  split at h
  · obtain ⟨l, h1, h2⟩ := any_out h
    obtain ⟨rfl, hl⟩ := Cod.decs_inv h1
    cases h2
    refine con_isDie.ev (n := 0) ?_
    unfold con_isDie.res
    simp only [Cod.decs_encs hl, Option.bind_some]
    rw [Sp.anyB, ← Sp.idxFrom_any l (fun x => !Sp.inR x 0 9) 0]
  · cases h
/-! impl_IsDie -/
noncomputable def impl_IsDie.cfg : Cfg := { C0 with keep := fun _ => none, nb := 0, M := tabM [(103, impl_Die_faces.stub), (124, con_isDie.stub)], MM := tabB [] }
noncomputable def impl_IsDie.res (n : Nat) (a0_0 : Int) (a0_1 : Int) (a0_2 : Int) (a0_3 : Int) (a0_4 : Int) (a0_5 : Int) : Option (List Q) :=
  some [Q.one (D.bool !anyB (fun (x : Int) => !inR x (0 : Int) (9 : Int)) [a0_0, a0_1, a0_2, a0_3, a0_4, a0_5])]
theorem impl_IsDie.run (n : Nat) (a0_0 : Int) (a0_1 : Int) (a0_2 : Int) (a0_3 : Int) (a0_4 : Int) (a0_5 : Int) :
    run1 impl_IsDie.cfg [RK.one LK.bool] n Tryd.f102 [Q.agg [D.int IntKind.i64 a0_0, D.int IntKind.i64 a0_1, D.int IntKind.i64 a0_2, D.int IntKind.i64 a0_3, D.int IntKind.i64 a0_4, D.int IntKind.i64 a0_5]] = impl_IsDie.res n a0_0 a0_1 a0_2 a0_3 a0_4 a0_5 := by kernel_rfl
theorem impl_IsDie.ev {n : Nat} {a0_0 : Int} {a0_1 : Int} {a0_2 : Int} {a0_3 : Int} {a0_4 : Int} {a0_5 : Int} {r : List Q} (h : impl_IsDie.res n a0_0 a0_1 a0_2 a0_3 a0_4 a0_5 = some r) : Snd Tryd.prog C0 102 [.agg [.int .i64 a0_0, .int .i64 a0_1, .int .i64 a0_2, .int .i64 a0_3, .int .i64 a0_4, .int .i64 a0_5]] r :=
  snd_ev (C := impl_IsDie.cfg) cfg0 mix rfl rfl rfl rfl rfl (.cons impl_Die_faces.ok (.cons con_isDie.ok .nil)) .nil rfl Tryd.func102 (by kernel_rfl) (by kernel_rfl) rfl ((impl_IsDie.run n a0_0 a0_1 a0_2 a0_3 a0_4 a0_5).trans h)

def impl_IsDie.stub : Stub
  | [.agg [.int .i64 t, .int .i64 n, .int .i64 e, .int .i64 s, .int .i64 w, .int .i64 b]] => .ret [.one (.bool (Sp.Die.good ⟨t, n, e, s, w, b⟩))]
  | _ => .fail
theorem impl_IsDie.ok : StubOk Tryd.prog C0 102 impl_IsDie.stub := by
  intro args res h
  unfold impl_IsDie.stub at h
  split at h
  · cases h
    refine impl_IsDie.ev (n := 0) ?_
    simp [impl_IsDie.res, Sp.Die.good, Sp.allR, Sp.Die.faces, Sp.anyB]
  · cases h
end Go.Proofs.EV.PL
set_option linter.unusedVariables false
set_option linter.unusedSimpArgs false
/-! Texts: trimmed, searched, split. -/
namespace Go.Proofs.EV.PL
open Go Go.Proofs Go.Proofs.EV Sp
/-! strings_asciiSet_contains -/
noncomputable def strings_asciiSet_contains.cfg : Cfg := { C0 with keep := fun _ => none, nb := 0, M := tabM [], MM := tabB [] }
noncomputable def strings_asciiSet_contains.res (n : Nat) (cs : List D) (a1 : Int) : Option (List Q) :=
  bif decide ((0 : Int) ≤ a1) then bif decide (a1 < (256 : Int)) then bif decide (Int.toNat a1 * (1 : Nat) + (1 : Nat) ≤ List.length cs) then Option.bind (Option.bind (some (cellD [cs] (0 : Nat) (Int.toNat a1 * (1 : Nat)))) D.bool?) fun (b1 : Bool) => some [Q.one (D.bool b1)] else none else none else none
theorem strings_asciiSet_contains.run (n : Nat) (cs : List D) (a1 : Int) :
    run1 strings_asciiSet_contains.cfg [RK.one LK.bool] n Tryd.f133 [Q.one (D.pt cs), Q.one (D.int IntKind.u8 a1)] = strings_asciiSet_contains.res n cs a1 := by kernel_rfl
theorem strings_asciiSet_contains.ev {n : Nat} {cs : List D} {a1 : Int} {r : List Q} (h : strings_asciiSet_contains.res n cs a1 = some r) : Snd Tryd.prog C0 133 [.one (.pt cs), .one (.int .u8 a1)] r :=
  snd_ev (C := strings_asciiSet_contains.cfg) cfg0 mix rfl rfl rfl rfl rfl .nil .nil rfl Tryd.func133 (by kernel_rfl) (by kernel_rfl) rfl ((strings_asciiSet_contains.run n cs a1).trans h)

def strings_asciiSet_contains.stub : Stub
  | [.one (.pt cs), .one (.int .u8 c)] => .any (Sp.setOf cs) fun t => .gd (decide (0 ≤ c ∧ c < 256)) (.ret [.one (.bool (Sp.inSet t c))])
  | _ => .fail
theorem strings_asciiSet_contains.ok : StubOk Tryd.prog C0 133 strings_asciiSet_contains.stub := by
  intro args res h
  unfold strings_asciiSet_contains.stub at h
  split at h
  · rename_i cs c
    obtain ⟨t, h1, h2⟩ := any_out h
    obtain ⟨h3, h4⟩ := gd_out h2
    obtain ⟨h5, h6⟩ := of_decide_eq_true h3
    cases h4
    obtain ⟨k1, k2⟩ := TQ.isSet_get _ (setOf_is h1)
    obtain ⟨i, rfl⟩ : ∃ i : Nat, c = (i : Int) := ⟨c.toNat, by omega⟩
    have hi : i < 256 := by omega
    have g1 : i * 1 + 1 ≤ cs.length := by omega
    refine strings_asciiSet_contains.ev (n := 0) ?_
    have e : D.bool? (cellD [cs] 0 (i * 1)) = some (inSet t (i : Nat)) := by
      unfold cellD
      rw [Nat.mul_one]
      show D.bool? (cs.getD i .nilp) = _
      rw [k2 i hi]; rfl
    unfold strings_asciiSet_contains.res
    simp only [h5, h6, Int.toNat_natCast, g1, decide_true, cond_true, e, Option.bind_some]
  · cases h
/-! strings_trimLeftASCII -/
noncomputable def strings_trimLeftASCII.cfg : Cfg := { C0 with keep := fun | 1 => some [0, 1] | _ => none, nb := 0, M := tabM [(133, strings_asciiSet_contains.stub)], MM := tabB [] }
noncomputable def strings_trimLeftASCII.l1 (n : Nat) (m1 : Nat) (s0 : ByteArray) (l1 : List D) : Option (List Q) :=
  loopAt strings_trimLeftASCII.cfg [RK.one LK.str] n Tryd.f119 [1, 0, 0] [] m1 (St.mk [V.one true (D.str s0), V.one false (D.pt l1), V.undef, V.undef, V.undef, V.undef, V.undef, V.undef, V.undef, V.undef, V.undef, V.undef, V.undef, V.undef, V.undef, V.undef] [])
theorem strings_trimLeftASCII.l1_eq (n : Nat) (m1 : Nat) (s0 : ByteArray) (l1 : List D) :
    strings_trimLeftASCII.l1 n (m1 + 1) s0 l1 = bif decide ((↑(ByteArray.size s0) : Int) > (0 : Int)) then bif decide ((0 : Int) < (↑(ByteArray.size s0) : Int)) then Option.bind (setOf l1) fun (s1 : ByteArray) => bif decide ((0 : Int) ≤ byteAt s0 (Int.toNat (0 : Int)) ∧ byteAt s0 (Int.toNat (0 : Int)) < (256 : Int)) then bif !inSet s1 (byteAt s0 (Int.toNat (0 : Int))) then some [Q.one (D.str s0)] else bif decide ((1 : Int) ≤ (↑(ByteArray.size s0) : Int)) then strings_trimLeftASCII.l1 n m1 (ByteArray.extract s0 (Int.toNat (1 : Int)) (ByteArray.size s0)) l1 else none else none else none else some [Q.one (D.str s0)] := by kernel_rfl
noncomputable def strings_trimLeftASCII.res (n : Nat) (a0 : ByteArray) (cs : List D) : Option (List Q) :=
  strings_trimLeftASCII.l1 n n a0 cs
theorem strings_trimLeftASCII.run (n : Nat) (a0 : ByteArray) (cs : List D) :
    run1 strings_trimLeftASCII.cfg [RK.one LK.str] n Tryd.f119 [Q.one (D.str a0), Q.one (D.pt cs)] = strings_trimLeftASCII.res n a0 cs := by kernel_rfl
theorem strings_trimLeftASCII.ev {n : Nat} {a0 : ByteArray} {cs : List D} {r : List Q} (h : strings_trimLeftASCII.res n a0 cs = some r) : Snd Tryd.prog C0 119 [.one (.str a0), .one (.pt cs)] r :=
  snd_ev (C := strings_trimLeftASCII.cfg) cfg0 mix rfl rfl rfl rfl rfl (.cons strings_asciiSet_contains.ok .nil) .nil rfl Tryd.func119 (by kernel_rfl) (by kernel_rfl) rfl ((strings_trimLeftASCII.run n a0 cs).trans h)

theorem byteAt_in (s : ByteArray) (i : Nat) : 0 ≤ byteAt s i ∧ byteAt s i < 256 := by
  unfold byteAt
  have := (s.data.toList.getD i 0).toNat_lt
  omega
theorem strings_trimLeftASCII.l1_run {n : Nat} {cs : List D} {t : ByteArray} (hc : setOf cs = some t) : ∀ (d m : Nat) (s : ByteArray), s.size ≤ d → d < m →
    strings_trimLeftASCII.l1 n m s cs = some [Q.one (.str (TQ.trimLnQ (inSet t) d s))] := by
  intro d
  induction d with
  | zero =>
    intro m s hs hm
    obtain ⟨m, rfl⟩ : ∃ m', m = m' + 1 := ⟨m - 1, by omega⟩
    have h1 : ¬ ((s.size : Nat) : Int) > 0 := by omega
    rw [strings_trimLeftASCII.l1_eq]
    simp only [h1, decide_false, cond_false, TQ.trimLnQ]
  | succ d ih =>
    intro m s hs hm
    obtain ⟨m, rfl⟩ : ∃ m', m = m' + 1 := ⟨m - 1, by omega⟩
    rw [strings_trimLeftASCII.l1_eq, TQ.trimLnQ]
    by_cases h0 : 0 < s.size
    · have h1 : ((s.size : Nat) : Int) > 0 := by omega
      have h2 : (0 : Int) < ((s.size : Nat) : Int) := by omega
      have h3 : (1 : Int) ≤ ((s.size : Nat) : Int) := by omega
      have hb := byteAt_in s 0
      have hsz : (s.extract 1 s.size).size ≤ d := by rw [ByteArray.size_extract]; omega
      simp only [h0, h1, h2, h3, hc, hb, and_self, decide_true, cond_true, Option.bind_some, Int.toNat_zero, show Int.toNat (1 : Int) = 1 from rfl, ih m _ hsz (by omega)]
      cases inSet t (byteAt s 0) <;> rfl
    · have h1 : ¬ ((s.size : Nat) : Int) > 0 := by omega
      simp only [h0, h1, decide_false, cond_false]
def strings_trimLeftASCII.stub : Stub
  | [.one (.str s), .one (.pt cs)] => .any (Sp.setOf cs) fun t => .ret [.one (.str (Sp.TQ.trimLQ (Sp.inSet t) s))]
  | _ => .fail
theorem strings_trimLeftASCII.ok : StubOk Tryd.prog C0 119 strings_trimLeftASCII.stub := by
  intro args res h
  unfold strings_trimLeftASCII.stub at h
  split at h
  · rename_i s cs
    obtain ⟨t, h1, h2⟩ := any_out h
    cases h2
    refine strings_trimLeftASCII.ev (n := s.size + 1) ?_
    exact strings_trimLeftASCII.l1_run (n := s.size + 1) h1 s.size (s.size + 1) s (Nat.le_refl _) (by omega)
  · cases h
/-! strings_trimRightASCII -/
noncomputable def strings_trimRightASCII.cfg : Cfg := { C0 with keep := fun | 1 => some [0, 1] | _ => none, nb := 0, M := tabM [(133, strings_asciiSet_contains.stub)], MM := tabB [] }
noncomputable def strings_trimRightASCII.l1 (n : Nat) (m1 : Nat) (s0 : ByteArray) (l1 : List D) : Option (List Q) :=
  loopAt strings_trimRightASCII.cfg [RK.one LK.str] n Tryd.f120 [1, 0, 0] [] m1 (St.mk [V.one true (D.str s0), V.one false (D.pt l1), V.undef, V.undef, V.undef, V.undef, V.undef, V.undef, V.undef, V.undef, V.undef, V.undef, V.undef, V.undef, V.undef, V.undef, V.undef, V.undef, V.undef, V.undef, V.undef, V.undef] [])
theorem strings_trimRightASCII.l1_eq (n : Nat) (m1 : Nat) (s0 : ByteArray) (l1 : List D) :
    strings_trimRightASCII.l1 n (m1 + 1) s0 l1 = bif decide ((↑(ByteArray.size s0) : Int) > (0 : Int)) then bif decide ((0 : Int) ≤ IntKind.wrap IntKind.i64 ((↑(ByteArray.size s0) : Int) - (1 : Int))) then bif decide (IntKind.wrap IntKind.i64 ((↑(ByteArray.size s0) : Int) - (1 : Int)) < (↑(ByteArray.size s0) : Int)) then Option.bind (setOf l1) fun (s1 : ByteArray) => bif decide ((0 : Int) ≤ byteAt s0 (Int.toNat (IntKind.wrap IntKind.i64 ((↑(ByteArray.size s0) : Int) - (1 : Int)))) ∧ byteAt s0 (Int.toNat (IntKind.wrap IntKind.i64 ((↑(ByteArray.size s0) : Int) - (1 : Int)))) < (256 : Int)) then bif !inSet s1 (byteAt s0 (Int.toNat (IntKind.wrap IntKind.i64 ((↑(ByteArray.size s0) : Int) - (1 : Int))))) then some [Q.one (D.str s0)] else bif decide ((0 : Int) ≤ IntKind.wrap IntKind.i64 ((↑(ByteArray.size s0) : Int) - (1 : Int))) then bif decide (IntKind.wrap IntKind.i64 ((↑(ByteArray.size s0) : Int) - (1 : Int)) ≤ (↑(ByteArray.size s0) : Int)) then strings_trimRightASCII.l1 n m1 (ByteArray.extract s0 (0 : Nat) (Int.toNat (IntKind.wrap IntKind.i64 ((↑(ByteArray.size s0) : Int) - (1 : Int))))) l1 else none else none else none else none else none else some [Q.one (D.str s0)] := by kernel_rfl
noncomputable def strings_trimRightASCII.res (n : Nat) (a0 : ByteArray) (cs : List D) : Option (List Q) :=
  strings_trimRightASCII.l1 n n a0 cs
theorem strings_trimRightASCII.run (n : Nat) (a0 : ByteArray) (cs : List D) :
    run1 strings_trimRightASCII.cfg [RK.one LK.str] n Tryd.f120 [Q.one (D.str a0), Q.one (D.pt cs)] = strings_trimRightASCII.res n a0 cs := by kernel_rfl
theorem strings_trimRightASCII.ev {n : Nat} {a0 : ByteArray} {cs : List D} {r : List Q} (h : strings_trimRightASCII.res n a0 cs = some r) : Snd Tryd.prog C0 120 [.one (.str a0), .one (.pt cs)] r :=
  snd_ev (C := strings_trimRightASCII.cfg) cfg0 mix rfl rfl rfl rfl rfl (.cons strings_asciiSet_contains.ok .nil) .nil rfl Tryd.func120 (by kernel_rfl) (by kernel_rfl) rfl ((strings_trimRightASCII.run n a0 cs).trans h)

theorem strings_trimRightASCII.l1_run {n : Nat} {cs : List D} {t : ByteArray} (hc : setOf cs = some t) : ∀ (d m : Nat) (s : ByteArray), s.size ≤ d → s.size ≤ LIM → d < m →
    strings_trimRightASCII.l1 n m s cs = some [Q.one (.str (TQ.trimRnQ (inSet t) d s))] := by
  intro d
  induction d with
  | zero =>
    intro m s hs hl hm
    obtain ⟨m, rfl⟩ : ∃ m', m = m' + 1 := ⟨m - 1, by omega⟩
    have h1 : ¬ ((s.size : Nat) : Int) > 0 := by omega
    rw [strings_trimRightASCII.l1_eq]
    simp only [h1, decide_false, cond_false, TQ.trimRnQ]
  | succ d ih =>
    intro m s hs hl hm
    obtain ⟨m, rfl⟩ : ∃ m', m = m' + 1 := ⟨m - 1, by omega⟩
    rw [strings_trimRightASCII.l1_eq, TQ.trimRnQ]
    by_cases h0 : 0 < s.size
    · have h1 : ((s.size : Nat) : Int) > 0 := by omega
      have hw : IntKind.wrap .i64 (((s.size : Nat) : Int) - 1) = ((s.size - 1 : Nat) : Int) := by unfold LIM at hl; rw [wrap_in (by omega) (by omega)]; omega
      have h2 : ((s.size - 1 : Nat) : Int) < ((s.size : Nat) : Int) := by omega
      have h3 : ((s.size - 1 : Nat) : Int) ≤ ((s.size : Nat) : Int) := by omega
      have hb := byteAt_in s (s.size - 1)
      have hsz : (s.extract 0 (s.size - 1)).size ≤ d := by rw [ByteArray.size_extract]; omega
      have hsl : (s.extract 0 (s.size - 1)).size ≤ LIM := by rw [ByteArray.size_extract]; omega
      simp only [h0, h1, hw, h2, h3, hc, hb, and_self, decide_true, cond_true, Option.bind_some, Int.natCast_nonneg, Int.toNat_natCast, ih m _ hsz hsl (by omega)]
      cases inSet t (byteAt s (s.size - 1)) <;> rfl
    · have h1 : ¬ ((s.size : Nat) : Int) > 0 := by omega
      simp only [h0, h1, decide_false, cond_false]
def strings_trimRightASCII.stub : Stub
  | [.one (.str s), .one (.pt cs)] => .any (Sp.setOf cs) fun t => .gd (decide (s.size ≤ LIM)) (.ret [.one (.str (Sp.TQ.trimRQ (Sp.inSet t) s))])
  | _ => .fail
theorem strings_trimRightASCII.ok : StubOk Tryd.prog C0 120 strings_trimRightASCII.stub := by
  intro args res h
  unfold strings_trimRightASCII.stub at h
  split at h
  · rename_i s cs
    obtain ⟨t, h1, h2⟩ := any_out h
    obtain ⟨h3, h4⟩ := gd_out h2
    cases h4
    refine strings_trimRightASCII.ev (n := s.size + 1) ?_
    exact strings_trimRightASCII.l1_run (n := s.size + 1) h1 s.size (s.size + 1) s (Nat.le_refl _) (of_decide_eq_true h3) (by omega)
  · cases h
noncomputable def mkc : Cfg := { C0 with nb := 0, M := tabM [], MM := tabB [] }
def mkR (s : ByteArray) : List Q := [.agg ((List.range 256).map fun i => D.bool (Sp.inSet s (i : Nat))), .one (.bool true)]
theorem mkr0 : run1 mkc (C0.sig 118) 20 Tryd.f118 [.one (.str lit0)] = some (mkR lit0) := by kernel_rfl
theorem mkr1 : run1 mkc (C0.sig 118) 20 Tryd.f118 [.one (.str lit1)] = some (mkR lit1) := by kernel_rfl
theorem mkr2 : run1 mkc (C0.sig 118) 20 Tryd.f118 [.one (.str lit2)] = some (mkR lit2) := by kernel_rfl
theorem mkr3 : run1 mkc (C0.sig 118) 20 Tryd.f118 [.one (.str lit3)] = some (mkR lit3) := by kernel_rfl
def strings_makeASCIISet.stub : Stub
  | [.one (.str s)] => .gd (Sp.isLit s) (.ret [.agg ((List.range 256).map fun i => D.bool (Sp.inSet s (i : Nat))), .one (.bool true)])
  | _ => .fail
theorem strings_makeASCIISet.ok : StubOk Tryd.prog C0 118 strings_makeASCIISet.stub := by
  intro args res h
  unfold strings_makeASCIISet.stub at h
  split at h
  · rename_i s
    obtain ⟨h1, h2⟩ := gd_out h
    cases h2
    have key : ∀ t, run1 mkc (C0.sig 118) 20 Tryd.f118 [.one (.str t)] = some (mkR t) → Snd Tryd.prog C0 118 [.one (.str t)] (mkR t) := fun t ht =>
      snd_ev (C := mkc) cfg0 mix rfl rfl rfl rfl rfl .nil .nil rfl Tryd.func118 (by kernel_rfl) (by kernel_rfl) rfl ht
    rcases isLit_or h1 with rfl | rfl | rfl | rfl
    · exact key _ mkr0
    · exact key _ mkr1
    · exact key _ mkr2
    · exact key _ mkr3
  · cases h
/-! strings_Trim0 -/
noncomputable def strings_Trim0.cfg : Cfg := { C0 with keep := fun _ => none, nb := 0, M := tabM [(118, strings_makeASCIISet.stub), (119, strings_trimLeftASCII.stub), (120, strings_trimRightASCII.stub)], MM := tabB [] }
noncomputable def strings_Trim0.res (n : Nat) (a0 : ByteArray) : Option (List Q) :=
  bif strEq a0 (ByteArray.mk #[]) then some [Q.one (D.str a0)] else bif decide (ByteArray.size a0 ≤ (17179869184 : Nat)) then some [Q.one (D.str (TQ.trimLQ (inSet lit0) (TQ.trimRQ (inSet lit0) a0)))] else none
theorem strings_Trim0.run (n : Nat) (a0 : ByteArray) :
    run1 strings_Trim0.cfg [RK.one LK.str] n Tryd.f94 [Q.one (D.str a0), Q.one (D.str (ByteArray.mk #[(110 : UInt8), (101 : UInt8), (115 : UInt8), (119 : UInt8)]))] = strings_Trim0.res n a0 := by kernel_rfl
theorem strings_Trim0.ev {n : Nat} {a0 : ByteArray} {r : List Q} (h : strings_Trim0.res n a0 = some r) : Snd Tryd.prog C0 94 [.one (.str a0), .one (.str ⟨#[110, 101, 115, 119]⟩)] r :=
  snd_ev (C := strings_Trim0.cfg) cfg0 mix rfl rfl rfl rfl rfl (.cons strings_makeASCIISet.ok (.cons strings_trimLeftASCII.ok (.cons strings_trimRightASCII.ok .nil))) .nil rfl Tryd.func94 (by kernel_rfl) (by kernel_rfl) rfl ((strings_Trim0.run n a0).trans h)

/-! strings_Trim1 -/
noncomputable def strings_Trim1.cfg : Cfg := { C0 with keep := fun _ => none, nb := 0, M := tabM [(118, strings_makeASCIISet.stub), (119, strings_trimLeftASCII.stub), (120, strings_trimRightASCII.stub)], MM := tabB [] }
noncomputable def strings_Trim1.res (n : Nat) (a0 : ByteArray) : Option (List Q) :=
  bif strEq a0 (ByteArray.mk #[]) then some [Q.one (D.str a0)] else bif decide (ByteArray.size a0 ≤ (17179869184 : Nat)) then some [Q.one (D.str (TQ.trimLQ (inSet lit1) (TQ.trimRQ (inSet lit1) a0)))] else none
theorem strings_Trim1.run (n : Nat) (a0 : ByteArray) :
    run1 strings_Trim1.cfg [RK.one LK.str] n Tryd.f94 [Q.one (D.str a0), Q.one (D.str (ByteArray.mk #[(46 : UInt8), (35 : UInt8)]))] = strings_Trim1.res n a0 := by kernel_rfl
theorem strings_Trim1.ev {n : Nat} {a0 : ByteArray} {r : List Q} (h : strings_Trim1.res n a0 = some r) : Snd Tryd.prog C0 94 [.one (.str a0), .one (.str ⟨#[46, 35]⟩)] r :=
  snd_ev (C := strings_Trim1.cfg) cfg0 mix rfl rfl rfl rfl rfl (.cons strings_makeASCIISet.ok (.cons strings_trimLeftASCII.ok (.cons strings_trimRightASCII.ok .nil))) .nil rfl Tryd.func94 (by kernel_rfl) (by kernel_rfl) rfl ((strings_Trim1.run n a0).trans h)

/-! strings_Trim2 -/
noncomputable def strings_Trim2.cfg : Cfg := { C0 with keep := fun _ => none, nb := 0, M := tabM [(118, strings_makeASCIISet.stub), (119, strings_trimLeftASCII.stub), (120, strings_trimRightASCII.stub)], MM := tabB [] }
noncomputable def strings_Trim2.res (n : Nat) (a0 : ByteArray) : Option (List Q) :=
  bif strEq a0 (ByteArray.mk #[]) then some [Q.one (D.str a0)] else bif decide (ByteArray.size a0 ≤ (17179869184 : Nat)) then some [Q.one (D.str (TQ.trimLQ (inSet lit2) (TQ.trimRQ (inSet lit2) a0)))] else none
theorem strings_Trim2.run (n : Nat) (a0 : ByteArray) :
    run1 strings_Trim2.cfg [RK.one LK.str] n Tryd.f94 [Q.one (D.str a0), Q.one (D.str (ByteArray.mk #[(46 : UInt8), (35 : UInt8), (45 : UInt8), (111 : UInt8)]))] = strings_Trim2.res n a0 := by kernel_rfl
theorem strings_Trim2.ev {n : Nat} {a0 : ByteArray} {r : List Q} (h : strings_Trim2.res n a0 = some r) : Snd Tryd.prog C0 94 [.one (.str a0), .one (.str ⟨#[46, 35, 45, 111]⟩)] r :=
  snd_ev (C := strings_Trim2.cfg) cfg0 mix rfl rfl rfl rfl rfl (.cons strings_makeASCIISet.ok (.cons strings_trimLeftASCII.ok (.cons strings_trimRightASCII.ok .nil))) .nil rfl Tryd.func94 (by kernel_rfl) (by kernel_rfl) rfl ((strings_Trim2.run n a0).trans h)

/-! strings_Trim3 -/
noncomputable def strings_Trim3.cfg : Cfg := { C0 with keep := fun _ => none, nb := 0, M := tabM [(118, strings_makeASCIISet.stub), (119, strings_trimLeftASCII.stub), (120, strings_trimRightASCII.stub)], MM := tabB [] }
noncomputable def strings_Trim3.res (n : Nat) (a0 : ByteArray) : Option (List Q) :=
  bif strEq a0 (ByteArray.mk #[]) then some [Q.one (D.str a0)] else bif decide (ByteArray.size a0 ≤ (17179869184 : Nat)) then some [Q.one (D.str (TQ.trimLQ (inSet lit3) (TQ.trimRQ (inSet lit3) a0)))] else none
theorem strings_Trim3.run (n : Nat) (a0 : ByteArray) :
    run1 strings_Trim3.cfg [RK.one LK.str] n Tryd.f94 [Q.one (D.str a0), Q.one (D.str (ByteArray.mk #[(46 : UInt8), (35 : UInt8), (48 : UInt8), (49 : UInt8), (50 : UInt8), (51 : UInt8), (52 : UInt8), (53 : UInt8), (54 : UInt8), (55 : UInt8), (56 : UInt8), (57 : UInt8)]))] = strings_Trim3.res n a0 := by kernel_rfl
theorem strings_Trim3.ev {n : Nat} {a0 : ByteArray} {r : List Q} (h : strings_Trim3.res n a0 = some r) : Snd Tryd.prog C0 94 [.one (.str a0), .one (.str ⟨#[46, 35, 48, 49, 50, 51, 52, 53, 54, 55, 56, 57]⟩)] r :=
  snd_ev (C := strings_Trim3.cfg) cfg0 mix rfl rfl rfl rfl rfl (.cons strings_makeASCIISet.ok (.cons strings_trimLeftASCII.ok (.cons strings_trimRightASCII.ok .nil))) .nil rfl Tryd.func94 (by kernel_rfl) (by kernel_rfl) rfl ((strings_Trim3.run n a0).trans h)

def strings_Trim.stub : Stub
  | [.one (.str s), .one (.str t)] => .gd (Sp.isLit t) (.gd (decide (s.size ≤ LIM)) (.ret [.one (.str (Sp.TQ.trimDQ (Sp.inSet t) s))]))
  | _ => .fail
theorem strings_Trim.ok : StubOk Tryd.prog C0 94 strings_Trim.stub := by
  intro args res h
  unfold strings_Trim.stub at h
  split at h
  · rename_i s t
    obtain ⟨h1, h2⟩ := gd_out h
    obtain ⟨h3, h4⟩ := gd_out h2
    cases h4
    have h3 : s.size ≤ 17179869184 := of_decide_eq_true h3
    rcases isLit_or h1 with rfl | rfl | rfl | rfl
    · refine strings_Trim0.ev (n := 0) ?_
      unfold strings_Trim0.res TQ.trimDQ
      simp only [h3, decide_true, cond_true]
      cases strEq s ⟨#[]⟩ <;> rfl
    · refine strings_Trim1.ev (n := 0) ?_
      unfold strings_Trim1.res TQ.trimDQ
      simp only [h3, decide_true, cond_true]
      cases strEq s ⟨#[]⟩ <;> rfl
    · refine strings_Trim2.ev (n := 0) ?_
      unfold strings_Trim2.res TQ.trimDQ
      simp only [h3, decide_true, cond_true]
      cases strEq s ⟨#[]⟩ <;> rfl
    · refine strings_Trim3.ev (n := 0) ?_
      unfold strings_Trim3.res TQ.trimDQ
      simp only [h3, decide_true, cond_true]
      cases strEq s ⟨#[]⟩ <;> rfl
  · cases h
end Go.Proofs.EV.PL
set_option linter.unusedVariables false
set_option linter.unusedSimpArgs false
/-! Texts split; words of rolls. -/
namespace Go.Proofs.EV.PL
open Go Go.Proofs Go.Proofs.EV Sp
def i_bytealg_CountString.stub : Stub
  | [.one (.str s), .one (.int .u8 c)] => .ret [.one (.int .i64 (Sp.ctB s (Sp.toU8 c) : Nat))]
  | _ => .fail
theorem i_bytealg_CountString.ok : StubOk Tryd.prog C0 112 i_bytealg_CountString.stub := by
  intro args res h
  unfold i_bytealg_CountString.stub at h
  split at h
  · rename_i s c
    cases h
    exact countByte_ok Tryd.func112 (by kernel_rfl) rfl rfl rfl rfl s c
  · cases h
def i_bytealg_IndexByteString.stub : Stub
  | [.one (.str s), .one (.int .u8 c)] => .ret [.one (.int .i64 (Sp.ixB s (Sp.toU8 c)))]
  | _ => .fail
theorem i_bytealg_IndexByteString.ok : StubOk Tryd.prog C0 151 i_bytealg_IndexByteString.stub := by
  intro args res h
  unfold i_bytealg_IndexByteString.stub at h
  split at h
  · rename_i s c
    cases h
    exact indexByte_ok Tryd.func151 (by kernel_rfl) rfl rfl rfl rfl s c
  · cases h
/-! i_stringslite_IndexByte -/
noncomputable def i_stringslite_IndexByte.cfg : Cfg := { C0 with keep := fun _ => none, nb := 0, M := tabM [(151, i_bytealg_IndexByteString.stub)], MM := tabB [] }
noncomputable def i_stringslite_IndexByte.res (n : Nat) (a0 : ByteArray) (a1 : Int) : Option (List Q) :=
  some [Q.one (D.int IntKind.i64 (ixB a0 (toU8 a1)))]
theorem i_stringslite_IndexByte.run (n : Nat) (a0 : ByteArray) (a1 : Int) :
    run1 i_stringslite_IndexByte.cfg [RK.one (LK.int IntKind.i64)] n Tryd.f144 [Q.one (D.str a0), Q.one (D.int IntKind.u8 a1)] = i_stringslite_IndexByte.res n a0 a1 := by kernel_rfl
theorem i_stringslite_IndexByte.ev {n : Nat} {a0 : ByteArray} {a1 : Int} {r : List Q} (h : i_stringslite_IndexByte.res n a0 a1 = some r) : Snd Tryd.prog C0 144 [.one (.str a0), .one (.int .u8 a1)] r :=
  snd_ev (C := i_stringslite_IndexByte.cfg) cfg0 mix rfl rfl rfl rfl rfl (.cons i_bytealg_IndexByteString.ok .nil) .nil rfl Tryd.func144 (by kernel_rfl) (by kernel_rfl) rfl ((i_stringslite_IndexByte.run n a0 a1).trans h)

def i_stringslite_IndexByte.stub : Stub
  | [.one (.str s), .one (.int .u8 c)] => .ret [.one (.int .i64 (Sp.ixB s (Sp.toU8 c)))]
  | _ => .fail
theorem i_stringslite_IndexByte.ok : StubOk Tryd.prog C0 144 i_stringslite_IndexByte.stub := by
  intro args res h
  unfold i_stringslite_IndexByte.stub at h
  split at h
  · cases h
    exact i_stringslite_IndexByte.ev (n := 0) rfl
  · cases h
theorem one_byte {t : ByteArray} (h : t.size = 1) : t = ⟨#[hd8 t]⟩ := by
  obtain ⟨⟨l⟩⟩ := t
  match l, h with
  | [c], _ => rfl
theorem byte_one (c : UInt8) : toU8 (byteAt ⟨#[c]⟩ 0) = c := by
  show UInt8.ofNat (Int.toNat (c.toNat : Int)) = c
  rw [Int.toNat_natCast, UInt8.ofNat_toNat]
/-! strings_Count -/
noncomputable def strings_Count.cfg : Cfg := { C0 with keep := fun | 6 => some [0, 1, 5] | _ => none, nb := 0, M := tabM [(112, i_bytealg_CountString.stub)], MM := tabB [] }
noncomputable def strings_Count.res (n : Nat) (a0 : ByteArray) (c : UInt8) : Option (List Q) :=
  some [Q.one (D.int IntKind.i64 (↑(ctB a0 (toU8 (byteAt (ByteArray.mk #[c]) (Int.toNat (0 : Int))))) : Int))]
theorem strings_Count.run (n : Nat) (a0 : ByteArray) (c : UInt8) :
    run1 strings_Count.cfg [RK.one (LK.int IntKind.i64)] n Tryd.f90 [Q.one (D.str a0), Q.one (D.str (ByteArray.mk #[c]))] = strings_Count.res n a0 c := by kernel_rfl
theorem strings_Count.ev {n : Nat} {a0 : ByteArray} {c : UInt8} {r : List Q} (h : strings_Count.res n a0 c = some r) : Snd Tryd.prog C0 90 [.one (.str a0), .one (.str ⟨#[c]⟩)] r :=
  snd_ev (C := strings_Count.cfg) cfg0 mix rfl rfl rfl rfl rfl (.cons i_bytealg_CountString.ok .nil) .nil rfl Tryd.func90 (by kernel_rfl) (by kernel_rfl) rfl ((strings_Count.run n a0 c).trans h)

def strings_Count.stub : Stub
  | [.one (.str s), .one (.str t)] => .gd (decide (t.size = 1)) (.ret [.one (.int .i64 (Sp.ctB s (Sp.hd8 t) : Nat))])
  | _ => .fail
theorem strings_Count.ok : StubOk Tryd.prog C0 90 strings_Count.stub := by
  intro args res h
  unfold strings_Count.stub at h
  split at h
  · rename_i s t
    obtain ⟨h1, h2⟩ := gd_out h
    cases h2
    have h1 := one_byte (of_decide_eq_true h1)
    generalize hd8 t = c at h1 ⊢
    subst h1
    refine strings_Count.ev (n := 0) ?_
    unfold strings_Count.res
    rw [show Int.toNat (0 : Int) = 0 from rfl, byte_one]
  · cases h
/-! i_stringslite_Index -/
noncomputable def i_stringslite_Index.cfg : Cfg := { C0 with keep := fun | 15 => some [0, 1, 5, 6, 7, 8, 9, 10] | _ => none, nb := 0, M := tabM [(144, i_stringslite_IndexByte.stub)], MM := tabB [] }
noncomputable def i_stringslite_Index.res (n : Nat) (a0 : ByteArray) (c : UInt8) : Option (List Q) :=
  bif strEq (ByteArray.mk #[c]) a0 then some [Q.one (D.int IntKind.i64 (0 : Int))] else some [Q.one (D.int IntKind.i64 (ixB a0 (toU8 (byteAt (ByteArray.mk #[c]) (Int.toNat (0 : Int))))))]
theorem i_stringslite_Index.run (n : Nat) (a0 : ByteArray) (c : UInt8) :
    run1 i_stringslite_Index.cfg [RK.one (LK.int IntKind.i64)] n Tryd.f130 [Q.one (D.str a0), Q.one (D.str (ByteArray.mk #[c]))] = i_stringslite_Index.res n a0 c := by kernel_rfl
theorem i_stringslite_Index.ev {n : Nat} {a0 : ByteArray} {c : UInt8} {r : List Q} (h : i_stringslite_Index.res n a0 c = some r) : Snd Tryd.prog C0 130 [.one (.str a0), .one (.str ⟨#[c]⟩)] r :=
  snd_ev (C := i_stringslite_Index.cfg) cfg0 mix rfl rfl rfl rfl rfl (.cons i_stringslite_IndexByte.ok .nil) .nil rfl Tryd.func130 (by kernel_rfl) (by kernel_rfl) rfl ((i_stringslite_Index.run n a0 c).trans h)

def i_stringslite_Index.stub : Stub
  | [.one (.str s), .one (.str t)] => .gd (decide (t.size = 1)) (.ret [.one (.int .i64 (Sp.ixB s (Sp.hd8 t)))])
  | _ => .fail
theorem i_stringslite_Index.ok : StubOk Tryd.prog C0 130 i_stringslite_Index.stub := by
  intro args res h
  unfold i_stringslite_Index.stub at h
  split at h
  · rename_i s t
    obtain ⟨h1, h2⟩ := gd_out h
    cases h2
    have h1 := one_byte (of_decide_eq_true h1)
    generalize hd8 t = c at h1 ⊢
    subst h1
    refine i_stringslite_Index.ev (n := 0) ?_
    unfold i_stringslite_Index.res
    rw [show Int.toNat (0 : Int) = 0 from rfl, byte_one]
    cases hs : strEq ⟨#[c]⟩ s with
    | false => rfl
    | true =>
      obtain rfl := strEq_eq hs
      have : ixB ⟨#[c]⟩ c = 0 := by
        show (if c == c then (0 : Int) else _) = 0
        simp
      rw [this]; rfl
  · cases h
/-! strings_Index -/
noncomputable def strings_Index.cfg : Cfg := { C0 with keep := fun _ => none, nb := 0, M := tabM [(130, i_stringslite_Index.stub)], MM := tabB [] }
noncomputable def strings_Index.res (n : Nat) (a0 : ByteArray) (a1 : ByteArray) : Option (List Q) :=
  bif decide (ByteArray.size a1 = (1 : Nat)) then some [Q.one (D.int IntKind.i64 (ixB a0 (hd8 a1)))] else none
theorem strings_Index.run (n : Nat) (a0 : ByteArray) (a1 : ByteArray) :
    run1 strings_Index.cfg [RK.one (LK.int IntKind.i64)] n Tryd.f113 [Q.one (D.str a0), Q.one (D.str a1)] = strings_Index.res n a0 a1 := by kernel_rfl
theorem strings_Index.ev {n : Nat} {a0 : ByteArray} {a1 : ByteArray} {r : List Q} (h : strings_Index.res n a0 a1 = some r) : Snd Tryd.prog C0 113 [.one (.str a0), .one (.str a1)] r :=
  snd_ev (C := strings_Index.cfg) cfg0 mix rfl rfl rfl rfl rfl (.cons i_stringslite_Index.ok .nil) .nil rfl Tryd.func113 (by kernel_rfl) (by kernel_rfl) rfl ((strings_Index.run n a0 a1).trans h)

def strings_Index.stub : Stub
  | [.one (.str s), .one (.str t)] => .gd (decide (t.size = 1)) (.ret [.one (.int .i64 (Sp.ixB s (Sp.hd8 t)))])
  | _ => .fail
theorem strings_Index.ok : StubOk Tryd.prog C0 113 strings_Index.stub := by
  intro args res h
  unfold strings_Index.stub at h
  split at h
  · rename_i s t
    obtain ⟨h1, h2⟩ := gd_out h
    cases h2
    refine strings_Index.ev (n := 0) ?_
    unfold strings_Index.res
    rw [h1]; rfl
  · cases h
/-! strings_genSplit -/
noncomputable def strings_genSplit.cfg : Cfg := { C0 with keep := fun | 11 => some [0, 1, 2, 3, 9, 10] | _ => none, nb := 0, M := tabM [(90, strings_Count.stub), (113, strings_Index.stub)], MM := tabB [] }
noncomputable def strings_genSplit.l11 (n : Nat) (m11 : Nat) (s0 : ByteArray) (s1 : ByteArray) (i2 : Int) (i3 : Int) (i4 : Int) (l5 : List (List D)) : Option (List Q) :=
  loopAt strings_genSplit.cfg [RK.own (1 : Nat)] n Tryd.f127 [1, 1, 1, 1, 1, 1, 1, 1, 0, 0] [] m11 (St.mk [V.one true (D.str s0), V.one true (D.str s1), V.one true (D.int IntKind.i64 i2), V.one true (D.int IntKind.i64 i3), V.undef, V.undef, V.undef, V.undef, V.undef, V.rw (0 : Nat), V.one true (D.int IntKind.i64 i4), V.undef, V.undef, V.undef, V.undef, V.undef, V.undef, V.undef, V.undef, V.undef, V.undef, V.undef, V.undef, V.undef, V.undef, V.undef, V.undef, V.undef, V.undef, V.undef, V.undef, V.undef, V.undef, V.undef, V.undef, V.undef, V.undef, V.undef, V.undef, V.undef, V.undef, V.undef, V.undef, V.undef, V.undef, V.undef, V.undef, V.undef, V.undef, V.undef, V.undef, V.undef, V.undef, V.undef, V.undef, V.undef, V.undef, V.undef, V.undef, V.undef, V.undef, V.undef, V.undef, V.undef, V.undef, V.undef] [Ob.row false (1 : Nat) l5])
theorem strings_genSplit.l11_eq (n : Nat) (m11 : Nat) (s0 : ByteArray) (s1 : ByteArray) (i2 : Int) (i3 : Int) (i4 : Int) (l5 : List (List D)) :
    strings_genSplit.l11 n (m11 + 1) s0 s1 i2 i3 i4 l5 = bif decide (i4 < i3) then bif decide (ByteArray.size s1 = (1 : Nat)) then bif decide (ixB s0 (hd8 s1) < (0 : Int)) then bif decide ((0 : Int) ≤ i4) then bif decide (i4 < (↑(List.length l5) : Int)) then bif decide ((0 : Int) ≤ IntKind.wrap IntKind.i64 (i4 + (1 : Int))) then bif decide (IntKind.wrap IntKind.i64 (i4 + (1 : Int)) ≤ (↑(List.length (setRow (1 : Nat) l5 (Int.toNat i4) (0 : Nat) [D.str s0])) : Int)) then some [Q.one (D.sl (1 : Nat) (List.take (Int.toNat (IntKind.wrap IntKind.i64 (i4 + (1 : Int))) - (0 : Nat)) (setRow (1 : Nat) l5 (Int.toNat i4) (0 : Nat) [D.str s0])))] else none else none else none else none else bif decide ((0 : Int) ≤ IntKind.wrap IntKind.i64 (ixB s0 (hd8 s1) + i2)) then bif decide (IntKind.wrap IntKind.i64 (ixB s0 (hd8 s1) + i2) ≤ (↑(ByteArray.size s0) : Int)) then bif decide ((0 : Int) ≤ i4) then bif decide (i4 < (↑(List.length l5) : Int)) then bif decide ((0 : Int) ≤ IntKind.wrap IntKind.i64 (ixB s0 (hd8 s1) + (↑(ByteArray.size s1) : Int))) then bif decide (IntKind.wrap IntKind.i64 (ixB s0 (hd8 s1) + (↑(ByteArray.size s1) : Int)) ≤ (↑(ByteArray.size s0) : Int)) then strings_genSplit.l11 n m11 (ByteArray.extract s0 (Int.toNat (IntKind.wrap IntKind.i64 (ixB s0 (hd8 s1) + (↑(ByteArray.size s1) : Int)))) (ByteArray.size s0)) s1 i2 i3 (IntKind.wrap IntKind.i64 (i4 + (1 : Int))) (setRow (1 : Nat) l5 (Int.toNat i4) (0 : Nat) [D.str (ByteArray.extract s0 (0 : Nat) (Int.toNat (IntKind.wrap IntKind.i64 (ixB s0 (hd8 s1) + i2))))]) else none else none else none else none else none else none else none else bif decide ((0 : Int) ≤ i4) then bif decide (i4 < (↑(List.length l5) : Int)) then bif decide ((0 : Int) ≤ IntKind.wrap IntKind.i64 (i4 + (1 : Int))) then bif decide (IntKind.wrap IntKind.i64 (i4 + (1 : Int)) ≤ (↑(List.length (setRow (1 : Nat) l5 (Int.toNat i4) (0 : Nat) [D.str s0])) : Int)) then some [Q.one (D.sl (1 : Nat) (List.take (Int.toNat (IntKind.wrap IntKind.i64 (i4 + (1 : Int))) - (0 : Nat)) (setRow (1 : Nat) l5 (Int.toNat i4) (0 : Nat) [D.str s0])))] else none else none else none else none := by kernel_rfl
noncomputable def strings_genSplit.res (n : Nat) (a0 : ByteArray) (c : UInt8) : Option (List Q) :=
  bif decide ((0 : Int) ≤ min (IntKind.wrap IntKind.i64 ((↑(ctB a0 (hd8 (ByteArray.mk #[c]))) : Int) + (1 : Int))) (IntKind.wrap IntKind.i64 ((↑(ByteArray.size a0) : Int) + (1 : Int)))) then bif decide (min (IntKind.wrap IntKind.i64 ((↑(ctB a0 (hd8 (ByteArray.mk #[c]))) : Int) + (1 : Int))) (IntKind.wrap IntKind.i64 ((↑(ByteArray.size a0) : Int) + (1 : Int))) ≤ min (IntKind.wrap IntKind.i64 ((↑(ctB a0 (hd8 (ByteArray.mk #[c]))) : Int) + (1 : Int))) (IntKind.wrap IntKind.i64 ((↑(ByteArray.size a0) : Int) + (1 : Int)))) then bif decide (min (IntKind.wrap IntKind.i64 ((↑(ctB a0 (hd8 (ByteArray.mk #[c]))) : Int) + (1 : Int))) (IntKind.wrap IntKind.i64 ((↑(ByteArray.size a0) : Int) + (1 : Int))) ≤ (17179869184 : Int)) then strings_genSplit.l11 n n a0 (ByteArray.mk #[c]) (0 : Int) (IntKind.wrap IntKind.i64 (min (IntKind.wrap IntKind.i64 ((↑(ctB a0 (hd8 (ByteArray.mk #[c]))) : Int) + (1 : Int))) (IntKind.wrap IntKind.i64 ((↑(ByteArray.size a0) : Int) + (1 : Int))) - (1 : Int))) (0 : Int) (List.replicate (Int.toNat (min (IntKind.wrap IntKind.i64 ((↑(ctB a0 (hd8 (ByteArray.mk #[c]))) : Int) + (1 : Int))) (IntKind.wrap IntKind.i64 ((↑(ByteArray.size a0) : Int) + (1 : Int))))) [D.str (ByteArray.mk #[])]) else none else none else none
theorem strings_genSplit.run (n : Nat) (a0 : ByteArray) (c : UInt8) :
    run1 strings_genSplit.cfg [RK.own (1 : Nat)] n Tryd.f127 [Q.one (D.str a0), Q.one (D.str (ByteArray.mk #[c])), Q.one (D.int IntKind.i64 (0 : Int)), Q.one (D.int IntKind.i64 (-1 : Int))] = strings_genSplit.res n a0 c := by kernel_rfl
theorem strings_genSplit.ev {n : Nat} {a0 : ByteArray} {c : UInt8} {r : List Q} (h : strings_genSplit.res n a0 c = some r) : Snd Tryd.prog C0 127 [.one (.str a0), .one (.str ⟨#[c]⟩), .one (.int .i64 0), .one (.int .i64 (-1))] r :=
  snd_ev (C := strings_genSplit.cfg) cfg0 mix rfl rfl rfl rfl rfl (.cons strings_Count.ok (.cons strings_Index.ok .nil)) .nil rfl Tryd.func127 (by kernel_rfl) (by kernel_rfl) rfl ((strings_genSplit.run n a0 c).trans h)

theorem strings_genSplit.l11_run {n : Nat} {c : UInt8} {t : ByteArray} (ht : t.size = 1) (hc : hd8 t = c) : ∀ (d m : Nat) (s : ByteArray) (done : List ByteArray) (k : Nat), s.size ≤ d → d < m → s.size ≤ LIM → done.length + s.size ≤ LIM → k + 1 = (spl c (bl s)).length →
    strings_genSplit.l11 n m s t 0 ((done.length + k : Nat) : Int) (done.length : Int) (strC.encs (done ++ List.replicate (k + 1) ⟨#[]⟩)) = some [Q.one (.sl 1 (strC.encs (done ++ (spl c (bl s)).map mkB)))] := by
  intro d
  induction d with
  | zero =>
    intro m s done k hd hm hl hl2 hk
    obtain ⟨m, rfl⟩ : ∃ m', m = m' + 1 := ⟨m - 1, by omega⟩
    have hs : bl s = [] := List.eq_nil_of_length_eq_zero (by rw [bl_len]; omega)
    rw [hs] at hk ⊢
    obtain rfl : k = 0 := by simpa [spl] using hk
    have h1 : ¬ ((done.length : Nat) : Int) < ((done.length + 0 : Nat) : Int) := by omega
    have h2 : ((done.length : Nat) : Int) < ((done.length + (0 + 1) : Nat) : Int) := by omega
    have hss : s = mkB [] := by rw [← mkB_bl s, hs]
    rw [strings_genSplit.l11_eq]
    simp only [h1, h2, decide_false, cond_false, decide_true, cond_true, wrap_succ (show done.length ≤ LIM by omega), Int.natCast_nonneg, Int.toNat_natCast, strC_set, set_fill, Cod.encs_len, List.length_append, List.length_singleton, List.length_replicate, List.replicate_zero, List.append_nil, Nat.le_refl, Nat.sub_zero, Cod.encs_take, Int.le_refl]
    rw [List.take_of_length_le (by simp), hss]
    rfl
  | succ d ih =>
    intro m s done k hd hm hl hl2 hk
    obtain ⟨m, rfl⟩ : ∃ m', m = m' + 1 := ⟨m - 1, by omega⟩
    rcases idx_spl c (bl s) with ⟨e1, e2⟩ | ⟨j, e1, e2, e3⟩
    · rw [e2] at hk ⊢
      obtain rfl : k = 0 := by simpa using hk
      have h1 : ¬ ((done.length : Nat) : Int) < ((done.length + 0 : Nat) : Int) := by omega
      have h2 : ((done.length : Nat) : Int) < ((done.length + (0 + 1) : Nat) : Int) := by omega
      rw [strings_genSplit.l11_eq]
      simp only [h1, h2, decide_false, cond_false, decide_true, cond_true, wrap_succ (show done.length ≤ LIM by omega), Int.natCast_nonneg, Int.toNat_natCast, strC_set, set_fill, Cod.encs_len, List.length_append, List.length_singleton, List.length_replicate, List.replicate_zero, List.append_nil, Nat.le_refl, Nat.sub_zero, Cod.encs_take, Int.le_refl]
      rw [List.take_of_length_le (by simp)]
      simp only [List.map_cons, List.map_nil, mkB_bl]
    · rw [e3] at hk ⊢
      rw [bl_len] at e2
      rw [List.length_cons] at hk
      obtain ⟨k, rfl⟩ : ∃ k', k = k' + 1 := ⟨k - 1, by have := spl_count c ((bl s).drop (j + 1)); omega⟩
      have h1 : ((done.length : Nat) : Int) < ((done.length + (k + 1) : Nat) : Int) := by omega
      have h2 : ((done.length : Nat) : Int) < ((done.length + (k + 1 + 1) : Nat) : Int) := by omega
      have hix : ixB s c = (j : Int) := e1
      have h3 : ¬ ((j : Nat) : Int) < 0 := by omega
      have hw : IntKind.wrap .i64 ((j : Int) + 0) = (j : Int) := by unfold LIM at hl; rw [wrap_in (by omega) (by omega)]; omega
      have hw2 : IntKind.wrap .i64 ((j : Int) + ((1 : Nat) : Int)) = ((j + 1 : Nat) : Int) := by unfold LIM at hl; rw [wrap_in (by omega) (by omega)]; omega
      have h4 : ((j : Nat) : Int) ≤ ((s.size : Nat) : Int) := by omega
      have h5 : ((j + 1 : Nat) : Int) ≤ ((s.size : Nat) : Int) := by omega
      have hsz : (s.extract (j + 1) s.size).size = s.size - (j + 1) := by rw [ByteArray.size_extract]; omega
      have hb : bl (s.extract (j + 1) s.size) = (bl s).drop (j + 1) := by rw [bl_ext, List.take_of_length_le (by rw [List.length_drop, bl_len]; omega)]
      have step := ih m (s.extract (j + 1) s.size) (done ++ [mkB ((bl s).take j)]) k (by omega) (by omega) (by omega) (by rw [List.length_append, List.length_singleton]; omega) (by rw [hb]; omega)
      rw [hb, List.length_append, List.length_singleton, show done.length + 1 + k = done.length + (k + 1) by omega] at step
      rw [strings_genSplit.l11_eq]
      simp only [ht, hc, hix, h1, h2, h3, h4, h5, hw, hw2, decide_false, cond_false, decide_true, cond_true, wrap_succ (show done.length ≤ LIM by omega), Int.natCast_nonneg, Int.toNat_natCast, strC_set, set_fill, Cod.encs_len, List.length_append, List.length_replicate, show s.extract 0 j = mkB ((bl s).take j) from by rw [ext_mkB, List.drop_zero, Nat.sub_zero], step]
      rw [List.map_cons, List.append_assoc]; rfl
def strings_genSplit.stub : Stub
  | [.one (.str s), .one (.str t), .one (.int .i64 a), .one (.int .i64 b)] => .gd (decide (a = 0)) (.gd (decide (b = -1)) (.gd (decide (t.size = 1)) (.gd (decide (s.size < LIM)) (.ret [.one (.sl 1 (strC.encs (Sp.rowsB (Sp.hd8 t) s)))]))))
  | _ => .fail
theorem strings_genSplit.ok : StubOk Tryd.prog C0 127 strings_genSplit.stub := by
  intro args res h
  unfold strings_genSplit.stub at h
  split at h
  · rename_i s t a b
    obtain ⟨h1, h⟩ := gd_out h
    obtain ⟨h2, h⟩ := gd_out h
    obtain ⟨h3, h⟩ := gd_out h
    obtain ⟨h4, h⟩ := gd_out h
    cases h
    obtain rfl := of_decide_eq_true h1
    obtain rfl := of_decide_eq_true h2
    have h3 := of_decide_eq_true h3
    have h4 := of_decide_eq_true h4
    have h5 := one_byte h3
    have hcc : hd8 t = hd8 t := rfl
    generalize hd8 t = c at h5 ⊢
    subst h5
    have hcc : hd8 ⟨#[c]⟩ = c := rfl
    refine strings_genSplit.ev (n := s.size + 1) ?_
    have hct : ctB s c ≤ s.size := by unfold ctB; rw [← bl_len]; exact List.count_le_length
    have hsp : ctB s c + 1 = (spl c (bl s)).length := (spl_count c (bl s)).symm
    have hmin : min (IntKind.wrap .i64 ((ctB s c : Int) + 1)) (IntKind.wrap .i64 ((s.size : Int) + 1)) = ((ctB s c + 1 : Nat) : Int) := by
      rw [wrap_succ (by omega), wrap_succ (by omega)]; omega
    have hw : IntKind.wrap .i64 (((ctB s c + 1 : Nat) : Int) - 1) = ((ctB s c : Nat) : Int) := by unfold LIM at h4; rw [wrap_in (by omega) (by omega)]; omega
    have hl : ((ctB s c + 1 : Nat) : Int) ≤ 17179869184 := by unfold LIM at h4; omega
    have key := strings_genSplit.l11_run (n := s.size + 1) h3 hcc s.size (s.size + 1) s [] (ctB s c) (Nat.le_refl _) (by omega) (by omega) (by simp; omega) hsp
    unfold strings_genSplit.res
    simp only [hcc, hmin, hw, hl, Int.natCast_nonneg, Int.le_refl, decide_true, cond_true, Int.toNat_natCast, strC_rep]
    rw [show rowsB c s = (spl c (bl s)).map mkB from rfl]
    simpa using key
  · cases h
/-! strings_Split -/
noncomputable def strings_Split.cfg : Cfg := { C0 with keep := fun _ => none, nb := 0, M := tabM [(127, strings_genSplit.stub)], MM := tabB [] }
noncomputable def strings_Split.res (n : Nat) (a0 : ByteArray) (a1 : ByteArray) : Option (List Q) :=
  bif decide (ByteArray.size a1 = (1 : Nat)) then bif decide (ByteArray.size a0 < (17179869184 : Nat)) then some [Q.one (D.sl (1 : Nat) (Cod.encs strC (rowsB (hd8 a1) a0)))] else none else none
theorem strings_Split.run (n : Nat) (a0 : ByteArray) (a1 : ByteArray) :
    run1 strings_Split.cfg [RK.own (1 : Nat)] n Tryd.f107 [Q.one (D.str a0), Q.one (D.str a1)] = strings_Split.res n a0 a1 := by kernel_rfl
theorem strings_Split.ev {n : Nat} {a0 : ByteArray} {a1 : ByteArray} {r : List Q} (h : strings_Split.res n a0 a1 = some r) : Snd Tryd.prog C0 107 [.one (.str a0), .one (.str a1)] r :=
  snd_ev (C := strings_Split.cfg) cfg0 mix rfl rfl rfl rfl rfl (.cons strings_genSplit.ok .nil) .nil rfl Tryd.func107 (by kernel_rfl) (by kernel_rfl) rfl ((strings_Split.run n a0 a1).trans h)

def strings_Split.stub : Stub
  | [.one (.str s), .one (.str t)] => .gd (decide (t.size = 1)) (.gd (decide (s.size < LIM)) (.ret [.one (.sl 1 (strC.encs (Sp.rowsB (Sp.hd8 t) s)))]))
  | _ => .fail
theorem strings_Split.ok : StubOk Tryd.prog C0 107 strings_Split.stub := by
  intro args res h
  unfold strings_Split.stub at h
  split at h
  · rename_i s t
    obtain ⟨h1, h⟩ := gd_out h
    obtain ⟨h2, h⟩ := gd_out h
    cases h
    refine strings_Split.ev (n := 0) ?_
    unfold strings_Split.res
    have h2 : s.size < 17179869184 := of_decide_eq_true h2
    simp only [of_decide_eq_true h1, h2, decide_true, cond_true]
  · cases h
/-! impl_IsRolls -/
noncomputable def impl_IsRolls.cfg : Cfg := { C0 with keep := fun _ => none, nb := 0, M := tabM [(94, strings_Trim.stub)], MM := tabB [] }
noncomputable def impl_IsRolls.res (n : Nat) (a0 : ByteArray) : Option (List Q) :=
  bif decide ((↑(ByteArray.size a0) : Int) ≤ (60 : Int)) then bif decide (ByteArray.size a0 ≤ (17179869184 : Nat)) then some [Q.one (D.bool (strEq (TQ.trimDQ (inSet (ByteArray.mk #[(110 : UInt8), (101 : UInt8), (115 : UInt8), (119 : UInt8)])) a0) (ByteArray.mk #[])))] else none else some [Q.one (D.bool false)]
theorem impl_IsRolls.run (n : Nat) (a0 : ByteArray) :
    run1 impl_IsRolls.cfg [RK.one LK.bool] n Tryd.f67 [Q.one (D.str a0)] = impl_IsRolls.res n a0 := by kernel_rfl
theorem impl_IsRolls.ev {n : Nat} {a0 : ByteArray} {r : List Q} (h : impl_IsRolls.res n a0 = some r) : Snd Tryd.prog C0 67 [.one (.str a0)] r :=
  snd_ev (C := impl_IsRolls.cfg) cfg0 mix rfl rfl rfl rfl rfl (.cons strings_Trim.ok .nil) .nil rfl Tryd.func67 (by kernel_rfl) (by kernel_rfl) rfl ((impl_IsRolls.run n a0).trans h)

def impl_IsRolls.stub : Stub
  | [.one (.str s)] => .ret [.one (.bool (Sp.isWord s))]
  | _ => .fail
theorem impl_IsRolls.ok : StubOk Tryd.prog C0 67 impl_IsRolls.stub := by
  intro args res h
  unfold impl_IsRolls.stub at h
  split at h
  · rename_i s
    cases h
    refine impl_IsRolls.ev (n := 0) ?_
    unfold impl_IsRolls.res Sp.isWord
    rw [show (ByteArray.mk #[110, 101, 115, 119]) = lit0 from rfl, TQ.trimD_nil, allDir_dirs]
    by_cases h6 : s.size ≤ 60
    · have h7 : ((s.size : Nat) : Int) ≤ 60 := by omega
      have h8 : s.size ≤ 17179869184 := by omega
      simp only [h6, h7, h8, decide_true, cond_true, Bool.true_and]
    · have h7 : ¬ ((s.size : Nat) : Int) ≤ 60 := by omega
      simp only [h6, h7, decide_false, cond_false, Bool.false_and]
  · cases h
/-! spec_diDirs -/
noncomputable def spec_diDirs.cfg : Cfg := { C0 with keep := fun _ => none, nb := 0, M := tabM [], MM := tabB [] }
noncomputable def spec_diDirs.res (n : Nat) : Option (List Q) :=
  some [Q.one (D.str (ByteArray.mk #[(110 : UInt8), (101 : UInt8), (115 : UInt8), (119 : UInt8)]))]
theorem spec_diDirs.run (n : Nat) :
    run1 spec_diDirs.cfg [RK.one LK.str] n Tryd.f114 [] = spec_diDirs.res n := by kernel_rfl
theorem spec_diDirs.ev {n : Nat}  {r : List Q} (h : spec_diDirs.res n  = some r) : Snd Tryd.prog C0 114 [] r :=
  snd_ev (C := spec_diDirs.cfg) cfg0 mix rfl rfl rfl rfl rfl .nil .nil rfl Tryd.func114 (by kernel_rfl) (by kernel_rfl) rfl ((spec_diDirs.run n ).trans h)

def spec_diDirs.stub : Stub
  | [] => .ret [.one (.str ⟨#[110, 101, 115, 119]⟩)]
  | _ => .fail
theorem spec_diDirs.ok : StubOk Tryd.prog C0 114 spec_diDirs.stub := by
  intro args res h
  unfold spec_diDirs.stub at h
  split at h
  · cases h
    exact spec_diDirs.ev (n := 0) rfl
  · cases h
/-! spec_diDir -/
noncomputable def spec_diDir.cfg : Cfg := { C0 with keep := fun | 2 => some [0, 3] | _ => none, nb := 0, M := tabM [(114, spec_diDirs.stub)], MM := tabB [] }
noncomputable def spec_diDir.l2 (n : Nat) (m2 : Nat) (s0 : ByteArray) (i1 : Int) : Option (List Q) :=
  loopAt spec_diDir.cfg [RK.one (LK.int IntKind.i64)] n Tryd.f92 [1, 0, 1, 0] [] m2 (St.mk [V.one true (D.str s0), V.undef, V.undef, V.one true (D.int IntKind.i64 i1), V.undef, V.undef, V.undef, V.undef, V.undef, V.undef, V.undef, V.undef, V.undef, V.undef, V.undef, V.undef] [])
theorem spec_diDir.l2_eq (n : Nat) (m2 : Nat) (s0 : ByteArray) (i1 : Int) :
    spec_diDir.l2 n (m2 + 1) s0 i1 = bif decide (i1 < (4 : Int)) then bif decide ((0 : Int) ≤ IntKind.wrap IntKind.i64 (i1 + (1 : Int))) then bif decide (IntKind.wrap IntKind.i64 (i1 + (1 : Int)) ≤ (4 : Int)) then bif decide ((0 : Int) ≤ i1) then bif decide (i1 ≤ (↑(Int.toNat (IntKind.wrap IntKind.i64 (i1 + (1 : Int)))) : Int)) then bif strEq s0 (ByteArray.extract (ByteArray.mk #[(110 : UInt8), (101 : UInt8), (115 : UInt8), (119 : UInt8)]) (Int.toNat i1) (Int.toNat (IntKind.wrap IntKind.i64 (i1 + (1 : Int))))) then some [Q.one (D.int IntKind.i64 i1)] else spec_diDir.l2 n m2 s0 (IntKind.wrap IntKind.i64 (i1 + (1 : Int))) else none else none else none else none else some [Q.one (D.int IntKind.i64 (-1 : Int))] := by kernel_rfl
noncomputable def spec_diDir.res (n : Nat) (a0 : ByteArray) : Option (List Q) :=
  spec_diDir.l2 n n a0 (0 : Int)
theorem spec_diDir.run (n : Nat) (a0 : ByteArray) :
    run1 spec_diDir.cfg [RK.one (LK.int IntKind.i64)] n Tryd.f92 [Q.one (D.str a0)] = spec_diDir.res n a0 := by kernel_rfl
theorem spec_diDir.ev {n : Nat} {a0 : ByteArray} {r : List Q} (h : spec_diDir.res n a0 = some r) : Snd Tryd.prog C0 92 [.one (.str a0)] r :=
  snd_ev (C := spec_diDir.cfg) cfg0 mix rfl rfl rfl rfl rfl (.cons spec_diDirs.ok .nil) .nil rfl Tryd.func92 (by kernel_rfl) (by kernel_rfl) rfl ((spec_diDir.run n a0).trans h)

theorem strEq_one (b c : UInt8) : strEq ⟨#[b]⟩ ⟨#[c]⟩ = decide ((b.toNat : Int) = (c.toNat : Int)) := by
  unfold strEq
  rw [ByteArray.toList_eq, ByteArray.toList_eq]
  show ([b] == [c]) = _
  by_cases h : b = c
  · subst h; simp
  · have h2 : ¬ ((b.toNat : Int) = (c.toNat : Int)) := fun e => h (UInt8.toNat_inj.1 (by omega))
    rw [decide_eq_false h2]
    simp [h]
theorem spec_diDir.one (b : UInt8) : spec_diDir.res 5 ⟨#[b]⟩ = some [Q.one (.int .i64 (dirIx (b.toNat : Int)))] := by
  have e0 : (ByteArray.mk #[(110 : UInt8), (101 : UInt8), (115 : UInt8), (119 : UInt8)]).extract 0 1 = ⟨#[110]⟩ := by decide +kernel
  have e1 : (ByteArray.mk #[(110 : UInt8), (101 : UInt8), (115 : UInt8), (119 : UInt8)]).extract 1 2 = ⟨#[101]⟩ := by decide +kernel
  have e2 : (ByteArray.mk #[(110 : UInt8), (101 : UInt8), (115 : UInt8), (119 : UInt8)]).extract 2 3 = ⟨#[115]⟩ := by decide +kernel
  have e3 : (ByteArray.mk #[(110 : UInt8), (101 : UInt8), (115 : UInt8), (119 : UInt8)]).extract 3 4 = ⟨#[119]⟩ := by decide +kernel
  have key : ∀ (k : Nat) (c : UInt8) (m : Nat), k < 4 → (ByteArray.mk #[(110 : UInt8), (101 : UInt8), (115 : UInt8), (119 : UInt8)]).extract k (k + 1) = ⟨#[c]⟩ →
      spec_diDir.l2 5 (m + 1) ⟨#[b]⟩ k = bif decide ((b.toNat : Int) = (c.toNat : Int)) then some [Q.one (.int .i64 k)] else spec_diDir.l2 5 m ⟨#[b]⟩ (k + 1 : Nat) := by
    intro k c m hk he
    have h1 : (k : Int) < 4 := by omega
    have h2 : ((k + 1 : Nat) : Int) ≤ 4 := by omega
    have h3 : (k : Int) ≤ ((k + 1 : Nat) : Int) := by omega
    rw [spec_diDir.l2_eq]
    simp only [h1, h2, h3, wrap_succ (show k ≤ LIM by unfold LIM; omega), Int.natCast_nonneg, Int.toNat_natCast, decide_true, cond_true, he, strEq_one]
  have last : spec_diDir.l2 5 1 ⟨#[b]⟩ (4 : Nat) = some [Q.one (.int .i64 (-1))] := by
    rw [spec_diDir.l2_eq]; rfl
  unfold spec_diDir.res
  rw [show (0 : Int) = ((0 : Nat) : Int) from rfl, key 0 110 4 (by decide) e0, key 1 101 3 (by decide) e1, key 2 115 2 (by decide) e2, key 3 119 1 (by decide) e3, last]
  unfold dirIx
  rw [show ((110 : UInt8).toNat : Int) = 110 from rfl, show ((101 : UInt8).toNat : Int) = 101 from rfl, show ((115 : UInt8).toNat : Int) = 115 from rfl, show ((119 : UInt8).toNat : Int) = 119 from rfl]
  cases decide ((b.toNat : Int) = 110) <;> cases decide ((b.toNat : Int) = 101) <;> cases decide ((b.toNat : Int) = 115) <;> cases decide ((b.toNat : Int) = 119) <;> rfl
def spec_diDir.stub : Stub
  | [.one (.str s)] => .gd (decide (s.size = 1)) (.ret [.one (.int .i64 (Sp.dirIx (byteAt s 0)))])
  | _ => .fail
theorem spec_diDir.ok : StubOk Tryd.prog C0 92 spec_diDir.stub := by
  intro args res h
  unfold spec_diDir.stub at h
  split at h
  · rename_i s
    obtain ⟨h1, h2⟩ := gd_out h
    have h1 := of_decide_eq_true h1
    cases h2
    refine spec_diDir.ev (n := 5) ?_
    obtain ⟨⟨l⟩⟩ := s
    match l, h1 with
    | [b], _ => exact spec_diDir.one b
  · cases h
/-! spec_diWord -/
noncomputable def spec_diWord.cfg : Cfg := { C0 with keep := fun | 4 => some [0, 3] | _ => none, nb := 0, M := tabM [(92, spec_diDir.stub)], MM := tabB [] }
noncomputable def spec_diWord.l4 (n : Nat) (m4 : Nat) (s0 : ByteArray) (i1 : Int) : Option (List Q) :=
  loopAt spec_diWord.cfg [RK.one LK.bool] n Tryd.f64 [1, 1, 0, 1, 0] [] m4 (St.mk [V.one true (D.str s0), V.undef, V.undef, V.one true (D.int IntKind.i64 i1), V.undef, V.undef, V.undef, V.undef, V.undef, V.undef, V.undef, V.undef, V.undef, V.undef, V.undef, V.undef, V.undef, V.undef, V.undef, V.undef] [])
theorem spec_diWord.l4_eq (n : Nat) (m4 : Nat) (s0 : ByteArray) (i1 : Int) :
    spec_diWord.l4 n (m4 + 1) s0 i1 = bif decide (i1 < (↑(ByteArray.size s0) : Int)) then bif decide ((0 : Int) ≤ IntKind.wrap IntKind.i64 (i1 + (1 : Int))) then bif decide (IntKind.wrap IntKind.i64 (i1 + (1 : Int)) ≤ (↑(ByteArray.size s0) : Int)) then bif decide ((0 : Int) ≤ i1) then bif decide (i1 ≤ (↑(Int.toNat (IntKind.wrap IntKind.i64 (i1 + (1 : Int)))) : Int)) then bif decide (ByteArray.size (ByteArray.extract s0 (Int.toNat i1) (Int.toNat (IntKind.wrap IntKind.i64 (i1 + (1 : Int))))) = (1 : Nat)) then bif decide (dirIx (byteAt (ByteArray.extract s0 (Int.toNat i1) (Int.toNat (IntKind.wrap IntKind.i64 (i1 + (1 : Int))))) (0 : Nat)) < (0 : Int)) then some [Q.one (D.bool false)] else spec_diWord.l4 n m4 s0 (IntKind.wrap IntKind.i64 (i1 + (1 : Int))) else none else none else none else none else none else some [Q.one (D.bool true)] := by kernel_rfl
noncomputable def spec_diWord.res (n : Nat) (a0 : ByteArray) : Option (List Q) :=
  bif decide ((↑(ByteArray.size a0) : Int) > (60 : Int)) then some [Q.one (D.bool false)] else spec_diWord.l4 n n a0 (0 : Int)
theorem spec_diWord.run (n : Nat) (a0 : ByteArray) :
    run1 spec_diWord.cfg [RK.one LK.bool] n Tryd.f64 [Q.one (D.str a0)] = spec_diWord.res n a0 := by kernel_rfl
theorem spec_diWord.ev {n : Nat} {a0 : ByteArray} {r : List Q} (h : spec_diWord.res n a0 = some r) : Snd Tryd.prog C0 64 [.one (.str a0)] r :=
  snd_ev (C := spec_diWord.cfg) cfg0 mix rfl rfl rfl rfl rfl (.cons spec_diDir.ok .nil) .nil rfl Tryd.func64 (by kernel_rfl) (by kernel_rfl) rfl ((spec_diWord.run n a0).trans h)

theorem ext_one {s : ByteArray} {i : Nat} (h : i < (bl s).length) : (s.extract i (i + 1)).size = 1 ∧ byteAt (s.extract i (i + 1)) 0 = ((bl s)[i].toNat : Int) := by
  have e : bl (s.extract i (i + 1)) = [(bl s)[i]] := by
    rw [bl_ext, show i + 1 - i = 1 by omega, List.drop_eq_getElem_cons h]; rfl
  refine ⟨by rw [← bl_len, e]; rfl, ?_⟩
  rw [byteAt_bl (by rw [e]; simp)]
  simp only [e]
  rfl
theorem spec_diWord.l4_run {n : Nat} {s : ByteArray} (hs : s.size ≤ 60) : ∀ (d i m : Nat), i + d = s.size → d < m →
    spec_diWord.l4 n m s i = some [Q.one (.bool (((bl s).drop i).all dirU))] := by
  intro d
  induction d with
  | zero =>
    intro i m hi hm
    obtain ⟨m, rfl⟩ : ∃ m', m = m' + 1 := ⟨m - 1, by omega⟩
    have h1 : ¬ (i : Int) < ((s.size : Nat) : Int) := by omega
    rw [spec_diWord.l4_eq, List.drop_of_length_le (by rw [bl_len]; omega)]
    simp only [h1, decide_false, cond_false]
    rfl
  | succ d ih =>
    intro i m hi hm
    obtain ⟨m, rfl⟩ : ∃ m', m = m' + 1 := ⟨m - 1, by omega⟩
    have hlt : i < (bl s).length := by rw [bl_len]; omega
    have h1 : (i : Int) < ((s.size : Nat) : Int) := by omega
    have h2 : ((i + 1 : Nat) : Int) ≤ ((s.size : Nat) : Int) := by omega
    have h3 : (i : Int) ≤ ((i + 1 : Nat) : Int) := by omega
    obtain ⟨h4, h5⟩ := ext_one hlt
    rw [spec_diWord.l4_eq, List.drop_eq_getElem_cons hlt, List.all_cons]
    simp only [h1, h2, h3, wrap_succ (show i ≤ LIM by unfold LIM; omega), Int.natCast_nonneg, Int.toNat_natCast, decide_true, cond_true, h4, h5, dirIx_neg, ih (i + 1) m (by omega) (by omega)]
    rw [show dirU (bl s)[i] = dirB ((bl s)[i].toNat : Int) from rfl]
    cases dirB ((bl s)[i].toNat : Int) <;> rfl
def spec_diWord.stub : Stub
  | [.one (.str s)] => .ret [.one (.bool (Sp.isWord s))]
  | _ => .fail
theorem spec_diWord.ok : StubOk Tryd.prog C0 64 spec_diWord.stub := by
  intro args res h
  unfold spec_diWord.stub at h
  split at h
  · rename_i s
    cases h
    refine spec_diWord.ev (n := 100) ?_
    unfold spec_diWord.res Sp.isWord
    by_cases h6 : s.size ≤ 60
    · have h7 : ¬ ((s.size : Nat) : Int) > 60 := by omega
      simp only [h6, h7, decide_true, decide_false, cond_false, Bool.true_and]
      exact spec_diWord.l4_run (n := 100) h6 s.size 0 100 (by omega) (by omega)
    · have h7 : ((s.size : Nat) : Int) > 60 := by omega
      simp only [h6, h7, decide_true, decide_false, cond_true, Bool.false_and]
  · cases h
end Go.Proofs.EV.PL
set_option linter.unusedVariables false
set_option linter.unusedSimpArgs false
/-! Boards read by the program. -/
namespace Go.Proofs.EV.PL
open Go Go.Proofs Go.Proofs.EV Sp
/-! impl_rowsOf -/
noncomputable def impl_rowsOf.cfg : Cfg := { C0 with keep := fun | 4 => some [1, 6, 7, 16, 17, 18] | _ => none, nb := 0, M := tabM [(107, strings_Split.stub), (94, strings_Trim.stub), (52, impl_in.stub)], MM := tabB [] }
noncomputable def impl_rowsOf.l4 (n : Nat) (m4 : Nat) (s0 : ByteArray) (i1 : Int) (i2 : Int) (i3 : Int) (l4 : List (List D)) : Option (List Q) :=
  loopAt impl_rowsOf.cfg [RK.own (1 : Nat), RK.one LK.bool] n Tryd.f88 [1, 1, 1, 0, 1, 0] [] m4 (St.mk [V.undef, V.one true (D.str s0), V.undef, V.undef, V.undef, V.undef, V.rw (0 : Nat), V.one true (D.int IntKind.i64 i1), V.undef, V.undef, V.undef, V.undef, V.undef, V.undef, V.undef, V.undef, V.rw (0 : Nat), V.one true (D.int IntKind.i64 i2), V.one true (D.int IntKind.i64 i3), V.undef, V.undef, V.undef, V.undef, V.undef, V.undef, V.undef, V.undef, V.undef, V.undef, V.undef, V.undef, V.undef, V.undef, V.undef, V.undef, V.undef, V.undef, V.undef, V.undef, V.undef, V.undef, V.undef, V.undef, V.undef, V.undef, V.undef, V.undef, V.undef] [Ob.row false (1 : Nat) l4])
theorem impl_rowsOf.l4_eq (n : Nat) (m4 : Nat) (s0 : ByteArray) (i1 : Int) (i2 : Int) (i3 : Int) (l4 : List (List D)) :
    impl_rowsOf.l4 n (m4 + 1) s0 i1 i2 i3 l4 = bif decide (i3 < i2) then bif decide ((0 : Int) ≤ i3) then bif decide (i3 < (↑(List.length l4) : Int)) then Option.bind (Option.bind (some (cellD l4 (Int.toNat i3) (0 : Nat))) D.str?) fun (s2 : ByteArray) => bif (↑(ByteArray.size s2) : Int) != i1 then some [Q.one (D.sl (1 : Nat) []), Q.one (D.bool false)] else bif isLit s0 then bif decide (ByteArray.size s2 ≤ (17179869184 : Nat)) then bif !strEq (TQ.trimDQ (inSet s0) s2) (ByteArray.mk #[]) then some [Q.one (D.sl (1 : Nat) []), Q.one (D.bool false)] else impl_rowsOf.l4 n m4 s0 i1 i2 (IntKind.wrap IntKind.i64 (i3 + (1 : Int))) l4 else none else none else none else none else bif inR (↑(List.length l4) : Int) (1 : Int) (7 : Int) then bif inR i1 (1 : Int) (7 : Int) then some [Q.one (D.sl (1 : Nat) l4), Q.one (D.bool (decide (IntKind.wrap IntKind.i64 (i1 * (↑(List.length l4) : Int)) ≤ (36 : Int))))] else some [Q.one (D.sl (1 : Nat) l4), Q.one (D.bool false)] else some [Q.one (D.sl (1 : Nat) l4), Q.one (D.bool false)] := by kernel_rfl
noncomputable def impl_rowsOf.res (n : Nat) (a0 : ByteArray) (a1 : ByteArray) : Option (List Q) :=
  bif decide (ByteArray.size a0 < (17179869184 : Nat)) then bif decide ((0 : Int) < (↑(List.length (Cod.encs strC (rowsB (hd8 (ByteArray.mk #[(47 : UInt8)])) a0))) : Int)) then Option.bind (Option.bind (some (cellD (Cod.encs strC (rowsB (hd8 (ByteArray.mk #[(47 : UInt8)])) a0)) (Int.toNat (0 : Int)) (0 : Nat))) D.str?) fun (s1 : ByteArray) => impl_rowsOf.l4 n n a1 (↑(ByteArray.size s1) : Int) (↑(List.length (Cod.encs strC (rowsB (hd8 (ByteArray.mk #[(47 : UInt8)])) a0))) : Int) (0 : Int) (Cod.encs strC (rowsB (hd8 (ByteArray.mk #[(47 : UInt8)])) a0)) else none else none
theorem impl_rowsOf.run (n : Nat) (a0 : ByteArray) (a1 : ByteArray) :
    run1 impl_rowsOf.cfg [RK.own (1 : Nat), RK.one LK.bool] n Tryd.f88 [Q.one (D.str a0), Q.one (D.str a1)] = impl_rowsOf.res n a0 a1 := by kernel_rfl
theorem impl_rowsOf.ev {n : Nat} {a0 : ByteArray} {a1 : ByteArray} {r : List Q} (h : impl_rowsOf.res n a0 a1 = some r) : Snd Tryd.prog C0 88 [.one (.str a0), .one (.str a1)] r :=
  snd_ev (C := impl_rowsOf.cfg) cfg0 mix rfl rfl rfl rfl rfl (.cons strings_Split.ok (.cons strings_Trim.ok (.cons impl_in.ok .nil))) .nil rfl Tryd.func88 (by kernel_rfl) (by kernel_rfl) rfl ((impl_rowsOf.run n a0 a1).trans h)

theorem impl_rowsOf.l4_run {n : Nat} {t : ByteArray} {l : List ByteArray} (ht : isLit t = true) (hx : ∀ x ∈ l, x.size ≤ LIM) (hl : l.length ≤ LIM) (h0 : 0 < l.length) : ∀ (d i m : Nat), i + d = l.length → d < m →
    impl_rowsOf.l4 n m t ((wOf (lb l) : Nat) : Int) ((l.length : Nat) : Int) (i : Int) (strC.encs l) = bif okRows (inSet t) (wOf (lb l)) (l.drop i) then some [Q.one (.sl 1 (strC.encs l)), Q.one (.bool (sizeOk (lb l)))] else some [Q.one (.sl 1 []), Q.one (.bool false)] := by
  intro d
  induction d with
  | zero =>
    intro i m hi hm
    obtain ⟨m, rfl⟩ : ∃ m', m = m' + 1 := ⟨m - 1, by omega⟩
    have h1 : ¬ (i : Int) < (l.length : Int) := by omega
    rw [impl_rowsOf.l4_eq, List.drop_of_length_le (by omega)]
    simp only [h1, decide_false, cond_false, Cod.encs_len]
    show _ = some [Q.one (.sl 1 (strC.encs l)), Q.one (.bool (sizeOk (lb l)))]
    unfold sizeOk
    rw [lb_len]
    cases e1 : inR (l.length : Int) 1 7 with
    | false => rfl
    | true =>
      cases e2 : inR (wOf (lb l) : Int) 1 7 with
      | false => rfl
      | true =>
        simp only [cond_true, Bool.true_and]
        have hm : wOf (lb l) * l.length ≤ 49 := by
          unfold inR at e1 e2
          simp only [Bool.and_eq_true, decide_eq_true_eq] at e1 e2
          have a : l.length ≤ 7 := by omega
          have b : wOf (lb l) ≤ 7 := by omega
          exact Nat.mul_le_mul b a
        have e : (wOf (lb l) : Int) * (l.length : Int) = ((wOf (lb l) * l.length : Nat) : Int) := by rw [Int.natCast_mul]
        rw [e, wrap_in (by omega) (by omega)]
        congr 5
        rw [Bool.eq_iff_iff, decide_eq_true_eq, decide_eq_true_eq]
        omega
  | succ d ih =>
    intro i m hi hm
    obtain ⟨m, rfl⟩ : ∃ m', m = m' + 1 := ⟨m - 1, by omega⟩
    have hlt : i < l.length := by omega
    have h1 : (i : Int) < (l.length : Int) := by omega
    have hsz : l[i].size ≤ 17179869184 := hx _ (List.getElem_mem hlt)
    rw [impl_rowsOf.l4_eq, List.drop_eq_getElem_cons hlt, okRows, List.all_cons]
    simp only [h1, hsz, ht, Cod.encs_len, Int.natCast_nonneg, Int.toNat_natCast, decide_true, cond_true, Option.bind_some, strC_cell hlt, wrap_succ (show i ≤ LIM by omega), TQ.trimD_nil, ih (i + 1) m (by omega) (by omega)]
    have e : (((l[i].size : Nat) : Int) != ((wOf (lb l) : Nat) : Int)) = !decide (l[i].size = wOf (lb l)) := by
      rw [bne]
      congr 1
      rw [Bool.eq_iff_iff, beq_iff_eq, decide_eq_true_eq]
      omega
    rw [e, show List.all (l.drop (i + 1)) (fun x => decide (x.size = wOf (lb l)) && TQ.allDirQ (inSet t) x) = okRows (inSet t) (wOf (lb l)) (l.drop (i + 1)) from rfl]
    cases decide (l[i].size = wOf (lb l))
    · rfl
    · cases TQ.allDirQ (inSet t) l[i] <;> rfl
def impl_rowsOf.stub : Stub
  | [.one (.str b), .one (.str t)] => .gd (Sp.isLit t) (.gd (decide (b.size < LIM)) (.ret [.one (.sl 1 (strC.encs (Sp.gridI (Sp.TQ.dirUQ (Sp.inSet t)) b))), .one (.bool (Sp.isBo (Sp.TQ.dirUQ (Sp.inSet t)) b))]))
  | _ => .fail
theorem impl_rowsOf.ok : StubOk Tryd.prog C0 88 impl_rowsOf.stub := by
  intro args res h
  unfold impl_rowsOf.stub at h
  split at h
  · rename_i b t
    obtain ⟨h1, h⟩ := gd_out h
    obtain ⟨h2, h⟩ := gd_out h
    cases h
    have h2 : b.size < 17179869184 := of_decide_eq_true h2
    have hlen : (rowsB 47 b).length = (rws b).length := List.length_map _
    have hn := rws_ne b
    have hle := rows_len b
    have h0 : 0 < (rowsB 47 b).length := by omega
    have h0' : (0 : Int) < (((rowsB 47 b).length : Nat) : Int) := by omega
    have hrun := impl_rowsOf.l4_run (n := b.size + 2) (t := t) (l := rowsB 47 b) h1 (fun x hx => by have := rowsB_row b x hx; unfold LIM; omega) (by unfold LIM; omega) h0 (rowsB 47 b).length 0 (b.size + 2) (by omega) (by omega)
    rw [List.drop_zero, lb_rowsB, okRows_rws] at hrun
    refine impl_rowsOf.ev (n := b.size + 2) ?_
    unfold impl_rowsOf.res
    rw [show hd8 (ByteArray.mk #[47]) = 47 from rfl, show Int.toNat (0 : Int) = 0 from rfl]
    simp only [h2, h0', Cod.encs_len, strC_cell h0, decide_true, cond_true, Option.bind_some]
    rw [show (rowsB 47 b)[0].size = wOf (rws b) by rw [← lb_w h0, lb_rowsB]]
    refine Eq.trans hrun ?_
    unfold gridI isBo
    cases fine (TQ.dirUQ (inSet t)) (rws b) <;> rfl
  · cases h
/-! impl_board -/
noncomputable def impl_board.cfg : Cfg := { C0 with keep := fun _ => none, nb := 0, M := tabM [(88, impl_rowsOf.stub)], MM := tabB [] }
noncomputable def impl_board.res (n : Nat) (a0 : ByteArray) : Option (List Q) :=
  bif decide (ByteArray.size a0 < (17179869184 : Nat)) then some [Q.one (D.sl (1 : Nat) (Cod.encs strC (gridI (TQ.dirUQ (inSet (ByteArray.mk #[(46 : UInt8), (35 : UInt8)]))) a0))), Q.one (D.bool (isBo (TQ.dirUQ (inSet (ByteArray.mk #[(46 : UInt8), (35 : UInt8)]))) a0))] else none
theorem impl_board.run (n : Nat) (a0 : ByteArray) :
    run1 impl_board.cfg [RK.own (1 : Nat), RK.one LK.bool] n Tryd.f56 [Q.one (D.str a0)] = impl_board.res n a0 := by kernel_rfl
theorem impl_board.ev {n : Nat} {a0 : ByteArray} {r : List Q} (h : impl_board.res n a0 = some r) : Snd Tryd.prog C0 56 [.one (.str a0)] r :=
  snd_ev (C := impl_board.cfg) cfg0 mix rfl rfl rfl rfl rfl (.cons impl_rowsOf.ok .nil) .nil rfl Tryd.func56 (by kernel_rfl) (by kernel_rfl) rfl ((impl_board.run n a0).trans h)

def impl_board.stub : Stub
  | [.one (.str b)] => .gd (decide (b.size < LIM)) (.ret [.one (.sl 1 (strC.encs (Sp.gridI Sp.brd b))), .one (.bool (Sp.isBo Sp.brd b))])
  | _ => .fail
theorem impl_board.ok : StubOk Tryd.prog C0 56 impl_board.stub := by
  intro args res h
  unfold impl_board.stub at h
  split at h
  · rename_i b
    obtain ⟨h2, h⟩ := gd_out h
    cases h
    have h2 : b.size < 17179869184 := of_decide_eq_true h2
    refine impl_board.ev (n := 0) ?_
    unfold impl_board.res
    rw [show (ByteArray.mk #[46, 35]) = lit1 from rfl, q_brd]
    simp only [h2, decide_true, cond_true]
  · cases h
/-! impl_ground -/
noncomputable def impl_ground.cfg : Cfg := { C0 with keep := fun _ => none, nb := 0, M := tabM [(88, impl_rowsOf.stub), (90, strings_Count.stub)], MM := tabB [] }
noncomputable def impl_ground.res (n : Nat) (a0 : ByteArray) : Option (List Q) :=
  bif decide (ByteArray.size a0 < (17179869184 : Nat)) then bif isBo (TQ.dirUQ (inSet (ByteArray.mk #[(46 : UInt8), (35 : UInt8), (45 : UInt8), (111 : UInt8)]))) a0 then some [Q.one (D.sl (1 : Nat) (Cod.encs strC (gridI (TQ.dirUQ (inSet (ByteArray.mk #[(46 : UInt8), (35 : UInt8), (45 : UInt8), (111 : UInt8)]))) a0))), Q.one (D.bool (decide ((↑(ctB a0 (hd8 (ByteArray.mk #[(111 : UInt8)]))) : Int) ≤ (1 : Int))))] else some [Q.one (D.sl (1 : Nat) (Cod.encs strC (gridI (TQ.dirUQ (inSet (ByteArray.mk #[(46 : UInt8), (35 : UInt8), (45 : UInt8), (111 : UInt8)]))) a0))), Q.one (D.bool false)] else none
theorem impl_ground.run (n : Nat) (a0 : ByteArray) :
    run1 impl_ground.cfg [RK.own (1 : Nat), RK.one LK.bool] n Tryd.f60 [Q.one (D.str a0)] = impl_ground.res n a0 := by kernel_rfl
theorem impl_ground.ev {n : Nat} {a0 : ByteArray} {r : List Q} (h : impl_ground.res n a0 = some r) : Snd Tryd.prog C0 60 [.one (.str a0)] r :=
  snd_ev (C := impl_ground.cfg) cfg0 mix rfl rfl rfl rfl rfl (.cons impl_rowsOf.ok (.cons strings_Count.ok .nil)) .nil rfl Tryd.func60 (by kernel_rfl) (by kernel_rfl) rfl ((impl_ground.run n a0).trans h)

def impl_ground.stub : Stub
  | [.one (.str b)] => .gd (decide (b.size < LIM)) (.ret [.one (.sl 1 (strC.encs (Sp.gridI Sp.gnd b))), .one (.bool (Sp.isGr b))])
  | _ => .fail
theorem impl_ground.ok : StubOk Tryd.prog C0 60 impl_ground.stub := by
  intro args res h
  unfold impl_ground.stub at h
  split at h
  · rename_i b
    obtain ⟨h2, h⟩ := gd_out h
    cases h
    have h2 : b.size < 17179869184 := of_decide_eq_true h2
    refine impl_ground.ev (n := 0) ?_
    unfold impl_ground.res
    rw [show (ByteArray.mk #[46, 35, 45, 111]) = lit2 from rfl, q_gnd, show hd8 (ByteArray.mk #[111]) = 111 from rfl]
    simp only [h2, decide_true, cond_true]
    unfold isGr
    cases isBo gnd b
    · rfl
    · simp only [cond_true, Bool.true_and]
      congr 5
      rw [Bool.eq_iff_iff, decide_eq_true_eq, decide_eq_true_eq]
      omega
  · cases h
/-! impl_labelled -/
noncomputable def impl_labelled.cfg : Cfg := { C0 with keep := fun _ => none, nb := 0, M := tabM [(88, impl_rowsOf.stub)], MM := tabB [] }
noncomputable def impl_labelled.res (n : Nat) (a0 : ByteArray) : Option (List Q) :=
  bif decide (ByteArray.size a0 < (17179869184 : Nat)) then some [Q.one (D.sl (1 : Nat) (Cod.encs strC (gridI (TQ.dirUQ (inSet (ByteArray.mk #[(46 : UInt8), (35 : UInt8), (48 : UInt8), (49 : UInt8), (50 : UInt8), (51 : UInt8), (52 : UInt8), (53 : UInt8), (54 : UInt8), (55 : UInt8), (56 : UInt8), (57 : UInt8)]))) a0))), Q.one (D.bool (isBo (TQ.dirUQ (inSet (ByteArray.mk #[(46 : UInt8), (35 : UInt8), (48 : UInt8), (49 : UInt8), (50 : UInt8), (51 : UInt8), (52 : UInt8), (53 : UInt8), (54 : UInt8), (55 : UInt8), (56 : UInt8), (57 : UInt8)]))) a0))] else none
theorem impl_labelled.run (n : Nat) (a0 : ByteArray) :
    run1 impl_labelled.cfg [RK.own (1 : Nat), RK.one LK.bool] n Tryd.f62 [Q.one (D.str a0)] = impl_labelled.res n a0 := by kernel_rfl
theorem impl_labelled.ev {n : Nat} {a0 : ByteArray} {r : List Q} (h : impl_labelled.res n a0 = some r) : Snd Tryd.prog C0 62 [.one (.str a0)] r :=
  snd_ev (C := impl_labelled.cfg) cfg0 mix rfl rfl rfl rfl rfl (.cons impl_rowsOf.ok .nil) .nil rfl Tryd.func62 (by kernel_rfl) (by kernel_rfl) rfl ((impl_labelled.run n a0).trans h)

def impl_labelled.stub : Stub
  | [.one (.str b)] => .gd (decide (b.size < LIM)) (.ret [.one (.sl 1 (strC.encs (Sp.gridI Sp.lab b))), .one (.bool (Sp.isBo Sp.lab b))])
  | _ => .fail
theorem impl_labelled.ok : StubOk Tryd.prog C0 62 impl_labelled.stub := by
  intro args res h
  unfold impl_labelled.stub at h
  split at h
  · rename_i b
    obtain ⟨h2, h⟩ := gd_out h
    cases h
    have h2 : b.size < 17179869184 := of_decide_eq_true h2
    refine impl_labelled.ev (n := 0) ?_
    unfold impl_labelled.res
    rw [show (ByteArray.mk #[46, 35, 48, 49, 50, 51, 52, 53, 54, 55, 56, 57]) = lit3 from rfl, q_lab]
    simp only [h2, decide_true, cond_true]
  · cases h
/-! impl_grid_has -/
noncomputable def impl_grid_has.cfg : Cfg := { C0 with keep := fun _ => none, nb := 0, M := tabM [(52, impl_in.stub)], MM := tabB [] }
noncomputable def impl_grid_has.res (n : Nat) (a0 : List (List D)) (a1 : Int) (a2 : Int) : Option (List Q) :=
  bif inR a2 (0 : Int) (IntKind.wrap IntKind.i64 ((↑(List.length a0) : Int) - (1 : Int))) then bif decide ((0 : Int) < (↑(List.length a0) : Int)) then Option.bind (Option.bind (some (cellD a0 (Int.toNat (0 : Int)) (0 : Nat))) D.str?) fun (s1 : ByteArray) => some [Q.one (D.bool (inR a1 (0 : Int) (IntKind.wrap IntKind.i64 ((↑(ByteArray.size s1) : Int) - (1 : Int)))))] else none else some [Q.one (D.bool false)]
theorem impl_grid_has.run (n : Nat) (a0 : List (List D)) (a1 : Int) (a2 : Int) :
    run1 impl_grid_has.cfg [RK.one LK.bool] n Tryd.f87 [Q.one (D.sl (1 : Nat) a0), Q.one (D.int IntKind.i64 a1), Q.one (D.int IntKind.i64 a2)] = impl_grid_has.res n a0 a1 a2 := by kernel_rfl
theorem impl_grid_has.ev {n : Nat} {a0 : List (List D)} {a1 : Int} {a2 : Int} {r : List Q} (h : impl_grid_has.res n a0 a1 a2 = some r) : Snd Tryd.prog C0 87 [.one (.sl 1 a0), .one (.int .i64 a1), .one (.int .i64 a2)] r :=
  snd_ev (C := impl_grid_has.cfg) cfg0 mix rfl rfl rfl rfl rfl (.cons impl_in.ok .nil) .nil rfl Tryd.func87 (by kernel_rfl) (by kernel_rfl) rfl ((impl_grid_has.run n a0 a1 a2).trans h)

def impl_grid_has.stub : Stub
  | [.one (.sl 1 es), .one (.int .i64 x), .one (.int .i64 y)] => .any (strC.decs es) fun l => .gd (decide (l.length ≤ LIM)) (.gd (decide (Sp.wOf (Sp.lb l) ≤ LIM)) (.ret [.one (.bool (Sp.inR y 0 ((l.length : Int) - 1) && Sp.inR x 0 ((Sp.wOf (Sp.lb l) : Int) - 1)))]))
  | _ => .fail
theorem impl_grid_has.ok : StubOk Tryd.prog C0 87 impl_grid_has.stub := by
  intro args res h
  unfold impl_grid_has.stub at h
  split at h
  · rename_i es x y
    obtain ⟨l, h1, h0⟩ := any_out h
    obtain ⟨rfl, hl⟩ := Cod.decs_inv h1
    obtain ⟨h2, h0⟩ := gd_out h0
    obtain ⟨h3, h0⟩ := gd_out h0
    cases h0
    have h2 : l.length ≤ 17179869184 := of_decide_eq_true h2
    have h3 : wOf (lb l) ≤ 17179869184 := of_decide_eq_true h3
    refine impl_grid_has.ev (n := 0) ?_
    unfold impl_grid_has.res
    rw [show Int.toNat (0 : Int) = 0 from rfl, Cod.encs_len, wrap_in (x := (l.length : Int) - 1) (by omega) (by omega)]
    cases hy : inR y 0 ((l.length : Int) - 1) with
    | false => rfl
    | true =>
      have h0 : 0 < l.length := by
        unfold inR at hy
        simp only [Bool.and_eq_true, decide_eq_true_eq] at hy
        omega
      have h0' : (0 : Int) < ((l.length : Nat) : Int) := by omega
      simp only [h0', strC_cell h0, decide_true, cond_true, Option.bind_some, ← lb_w h0]
      rw [wrap_in (by omega) (by omega)]; rfl
  · cases h
/-! impl_grid_at -/
noncomputable def impl_grid_at.cfg : Cfg := { C0 with keep := fun _ => none, nb := 0, M := tabM [(87, impl_grid_has.stub)], MM := tabB [] }
noncomputable def impl_grid_at.res (n : Nat) (a0 : List (List D)) (a1 : Int) (a2 : Int) : Option (List Q) :=
  Option.bind (Cod.decs strC a0) fun (l1 : List ByteArray) => bif decide (List.length l1 ≤ (17179869184 : Nat)) then bif decide (wOf (lb l1) ≤ (17179869184 : Nat)) then bif !(inR a2 (0 : Int) ((↑(List.length l1) : Int) - (1 : Int)) && inR a1 (0 : Int) ((↑(wOf (lb l1)) : Int) - (1 : Int))) then some [Q.one (D.int IntKind.u8 (0 : Int))] else bif decide ((0 : Int) ≤ a2) then bif decide (a2 < (↑(List.length a0) : Int)) then Option.bind (Option.bind (some (cellD a0 (Int.toNat a2) (0 : Nat))) D.str?) fun (s2 : ByteArray) => bif decide ((0 : Int) ≤ a1) then bif decide (a1 < (↑(ByteArray.size s2) : Int)) then some [Q.one (D.int IntKind.u8 (byteAt s2 (Int.toNat a1)))] else none else none else none else none else none else none
theorem impl_grid_at.run (n : Nat) (a0 : List (List D)) (a1 : Int) (a2 : Int) :
    run1 impl_grid_at.cfg [RK.one (LK.int IntKind.u8)] n Tryd.f51 [Q.one (D.sl (1 : Nat) a0), Q.one (D.int IntKind.i64 a1), Q.one (D.int IntKind.i64 a2)] = impl_grid_at.res n a0 a1 a2 := by kernel_rfl
theorem impl_grid_at.ev {n : Nat} {a0 : List (List D)} {a1 : Int} {a2 : Int} {r : List Q} (h : impl_grid_at.res n a0 a1 a2 = some r) : Snd Tryd.prog C0 51 [.one (.sl 1 a0), .one (.int .i64 a1), .one (.int .i64 a2)] r :=
  snd_ev (C := impl_grid_at.cfg) cfg0 mix rfl rfl rfl rfl rfl (.cons impl_grid_has.ok .nil) .nil rfl Tryd.func51 (by kernel_rfl) (by kernel_rfl) rfl ((impl_grid_at.run n a0 a1 a2).trans h)

def impl_grid_at.stub : Stub
  | [.one (.sl 1 es), .one (.int .i64 x), .one (.int .i64 y)] => .any (strC.decs es) fun l => .gd (Sp.unif (Sp.lb l)) (.gd (decide (l.length ≤ LIM)) (.gd (decide (Sp.wOf (Sp.lb l) ≤ LIM)) (.ret [.one (.int .u8 (Sp.atZ (Sp.lb l) x y))])))
  | _ => .fail
theorem impl_grid_at.ok : StubOk Tryd.prog C0 51 impl_grid_at.stub := by
  intro args res h
  unfold impl_grid_at.stub at h
  split at h
  · rename_i es x y
    obtain ⟨l, h1, h0⟩ := any_out h
    obtain ⟨rfl, hl⟩ := Cod.decs_inv h1
    obtain ⟨hu, h0⟩ := gd_out h0
    obtain ⟨h2, h0⟩ := gd_out h0
    obtain ⟨h3, h0⟩ := gd_out h0
    cases h0
    have h2 : l.length ≤ 17179869184 := of_decide_eq_true h2
    have h3 : wOf (lb l) ≤ 17179869184 := of_decide_eq_true h3
    refine impl_grid_at.ev (n := 0) ?_
    unfold impl_grid_at.res atZ
    simp only [h1, h2, h3, decide_true, cond_true, Option.bind_some, Cod.encs_len, lb_len]
    cases hh : inR y 0 ((l.length : Int) - 1) && inR x 0 ((wOf (lb l) : Int) - 1) with
    | false => rfl
    | true =>
      unfold inR at hh
      simp only [Bool.and_eq_true, decide_eq_true_eq] at hh
      obtain ⟨⟨a1, a2⟩, a3, a4⟩ := hh
      have hy : y.toNat < l.length := by omega
      have hw := lb_wget hu hy
      have hx : x.toNat < (bl l[y.toNat]).length := by rw [bl_len, hw]; omega
      have b2 : y < (l.length : Int) := by omega
      have b4 : x < ((l[y.toNat].size : Nat) : Int) := by rw [hw]; omega
      simp only [a1, a3, b2, b4, strC_cell hy, decide_true, cond_true, Bool.not_true, cond_false, Option.bind_some, byteAt_bl hx, lb_get hy]
      rw [List.getD_eq_getElem?_getD, List.getElem?_eq_getElem hx]; rfl
  · cases h
/-! impl_grid_isState -/
noncomputable def impl_grid_isState.cfg : Cfg := { C0 with keep := fun _ => none, nb := 0, M := tabM [(51, impl_grid_at.stub), (102, impl_IsDie.stub)], MM := tabB [] }
noncomputable def impl_grid_isState.res (n : Nat) (a0 : List (List D)) (a1_0 : Int) (a1_1 : Int) (a1_2 : Int) (a1_3 : Int) (a1_4 : Int) (a1_5 : Int) (a1_6 : Int) (a1_7 : Int) : Option (List Q) :=
  bif Die.good (Die.mk a1_2 a1_3 a1_4 a1_5 a1_6 a1_7) then Option.bind (Cod.decs strC a0) fun (l1 : List ByteArray) => bif unif (lb l1) then bif decide (List.length l1 ≤ (17179869184 : Nat)) then bif decide (wOf (lb l1) ≤ (17179869184 : Nat)) then some [Q.one (D.bool (atZ (lb l1) a1_0 a1_1 == (46 : Int)))] else none else none else none else some [Q.one (D.bool false)]
theorem impl_grid_isState.run (n : Nat) (a0 : List (List D)) (a1_0 : Int) (a1_1 : Int) (a1_2 : Int) (a1_3 : Int) (a1_4 : Int) (a1_5 : Int) (a1_6 : Int) (a1_7 : Int) :
    run1 impl_grid_isState.cfg [RK.one LK.bool] n Tryd.f84 [Q.one (D.sl (1 : Nat) a0), Q.agg [D.int IntKind.i64 a1_0, D.int IntKind.i64 a1_1, D.int IntKind.i64 a1_2, D.int IntKind.i64 a1_3, D.int IntKind.i64 a1_4, D.int IntKind.i64 a1_5, D.int IntKind.i64 a1_6, D.int IntKind.i64 a1_7]] = impl_grid_isState.res n a0 a1_0 a1_1 a1_2 a1_3 a1_4 a1_5 a1_6 a1_7 := by kernel_rfl
theorem impl_grid_isState.ev {n : Nat} {a0 : List (List D)} {a1_0 : Int} {a1_1 : Int} {a1_2 : Int} {a1_3 : Int} {a1_4 : Int} {a1_5 : Int} {a1_6 : Int} {a1_7 : Int} {r : List Q} (h : impl_grid_isState.res n a0 a1_0 a1_1 a1_2 a1_3 a1_4 a1_5 a1_6 a1_7 = some r) : Snd Tryd.prog C0 84 [.one (.sl 1 a0), .agg [.int .i64 a1_0, .int .i64 a1_1, .int .i64 a1_2, .int .i64 a1_3, .int .i64 a1_4, .int .i64 a1_5, .int .i64 a1_6, .int .i64 a1_7]] r :=
  snd_ev (C := impl_grid_isState.cfg) cfg0 mix rfl rfl rfl rfl rfl (.cons impl_grid_at.ok (.cons impl_IsDie.ok .nil)) .nil rfl Tryd.func84 (by kernel_rfl) (by kernel_rfl) rfl ((impl_grid_isState.run n a0 a1_0 a1_1 a1_2 a1_3 a1_4 a1_5 a1_6 a1_7).trans h)

def impl_grid_isState.stub : Stub
  | [.one (.sl 1 es), .agg [.int .i64 x, .int .i64 y, .int .i64 t, .int .i64 n, .int .i64 e, .int .i64 s, .int .i64 w, .int .i64 b]] => .any (strC.decs es) fun l => .gd (Sp.unif (Sp.lb l)) (.gd (decide (l.length ≤ LIM)) (.gd (decide (Sp.wOf (Sp.lb l) ≤ LIM)) (.ret [.one (.bool (Sp.Die.good ⟨t, n, e, s, w, b⟩ && Sp.isFl (Sp.lb l) x y))])))
  | _ => .fail
theorem impl_grid_isState.ok : StubOk Tryd.prog C0 84 impl_grid_isState.stub := by
  intro args res h
  unfold impl_grid_isState.stub at h
  split at h
  · rename_i es x y t n e s w b
    obtain ⟨l, h1, h0⟩ := any_out h
    obtain ⟨rfl, hl⟩ := Cod.decs_inv h1
    obtain ⟨hu, h0⟩ := gd_out h0
    obtain ⟨h2, h0⟩ := gd_out h0
    obtain ⟨h3, h0⟩ := gd_out h0
    cases h0
    have h2 : l.length ≤ 17179869184 := of_decide_eq_true h2
    have h3 : wOf (lb l) ≤ 17179869184 := of_decide_eq_true h3
    refine impl_grid_isState.ev (n := 0) ?_
    unfold impl_grid_isState.res isFl
    simp only [h1, h2, h3, hu, decide_true, cond_true, Option.bind_some]
    cases Die.good ⟨t, n, e, s, w, b⟩ <;> rfl
  · cases h
/-! impl_onBoard -/
noncomputable def impl_onBoard.cfg : Cfg := { C0 with keep := fun _ => none, nb := 0, M := tabM [(56, impl_board.stub), (84, impl_grid_isState.stub)], MM := tabB [] }
noncomputable def impl_onBoard.res (n : Nat) (a0 : ByteArray) (a1_0 : Int) (a1_1 : Int) (a1_2 : Int) (a1_3 : Int) (a1_4 : Int) (a1_5 : Int) (a1_6 : Int) (a1_7 : Int) : Option (List Q) :=
  bif decide (ByteArray.size a0 < (17179869184 : Nat)) then bif isBo brd a0 then Option.bind (Cod.decs strC (Cod.encs strC (gridI brd a0))) fun (l1 : List ByteArray) => bif unif (lb l1) then bif decide (List.length l1 ≤ (17179869184 : Nat)) then bif decide (wOf (lb l1) ≤ (17179869184 : Nat)) then some [Q.one (D.sl (1 : Nat) (Cod.encs strC (gridI brd a0))), Q.one (D.bool (Die.good (Die.mk a1_2 a1_3 a1_4 a1_5 a1_6 a1_7) && isFl (lb l1) a1_0 a1_1))] else none else none else none else some [Q.one (D.sl (1 : Nat) (Cod.encs strC (gridI brd a0))), Q.one (D.bool false)] else none
theorem impl_onBoard.run (n : Nat) (a0 : ByteArray) (a1_0 : Int) (a1_1 : Int) (a1_2 : Int) (a1_3 : Int) (a1_4 : Int) (a1_5 : Int) (a1_6 : Int) (a1_7 : Int) :
    run1 impl_onBoard.cfg [RK.own (1 : Nat), RK.one LK.bool] n Tryd.f49 [Q.one (D.str a0), Q.agg [D.int IntKind.i64 a1_0, D.int IntKind.i64 a1_1, D.int IntKind.i64 a1_2, D.int IntKind.i64 a1_3, D.int IntKind.i64 a1_4, D.int IntKind.i64 a1_5, D.int IntKind.i64 a1_6, D.int IntKind.i64 a1_7]] = impl_onBoard.res n a0 a1_0 a1_1 a1_2 a1_3 a1_4 a1_5 a1_6 a1_7 := by kernel_rfl
theorem impl_onBoard.ev {n : Nat} {a0 : ByteArray} {a1_0 : Int} {a1_1 : Int} {a1_2 : Int} {a1_3 : Int} {a1_4 : Int} {a1_5 : Int} {a1_6 : Int} {a1_7 : Int} {r : List Q} (h : impl_onBoard.res n a0 a1_0 a1_1 a1_2 a1_3 a1_4 a1_5 a1_6 a1_7 = some r) : Snd Tryd.prog C0 49 [.one (.str a0), .agg [.int .i64 a1_0, .int .i64 a1_1, .int .i64 a1_2, .int .i64 a1_3, .int .i64 a1_4, .int .i64 a1_5, .int .i64 a1_6, .int .i64 a1_7]] r :=
  snd_ev (C := impl_onBoard.cfg) cfg0 mix rfl rfl rfl rfl rfl (.cons impl_board.ok (.cons impl_grid_isState.ok .nil)) .nil rfl Tryd.func49 (by kernel_rfl) (by kernel_rfl) rfl ((impl_onBoard.run n a0 a1_0 a1_1 a1_2 a1_3 a1_4 a1_5 a1_6 a1_7).trans h)

def impl_onBoard.stub : Stub
  | [.one (.str q), .agg [.int .i64 x, .int .i64 y, .int .i64 t, .int .i64 n, .int .i64 e, .int .i64 s, .int .i64 w, .int .i64 b]] => .gd (decide (q.size < LIM)) (.ret [.one (.sl 1 (strC.encs (Sp.gridI Sp.brd q))), .one (.bool (Sp.isBo Sp.brd q && (Sp.Die.good ⟨t, n, e, s, w, b⟩ && Sp.isFl (Sp.rws q) x y)))])
  | _ => .fail
theorem impl_onBoard.ok : StubOk Tryd.prog C0 49 impl_onBoard.stub := by
  intro args res h
  unfold impl_onBoard.stub at h
  split at h
  · rename_i q x y t n e s w b
    obtain ⟨h2, h⟩ := gd_out h
    cases h
    have h2 : q.size < 17179869184 := of_decide_eq_true h2
    refine impl_onBoard.ev (n := 0) ?_
    unfold impl_onBoard.res
    cases hb : isBo brd q with
    | false => simp only [h2, decide_true, cond_true, cond_false, Bool.false_and]
    | true =>
      obtain ⟨k1, k2, k3, k4⟩ := isBo_fine hb
      have hr := bl_rows brd q hb
      have hlen : (gridI brd q).length = (rws q).length := by rw [← hr, lb_len]
      have k5 : (gridI brd q).length ≤ 17179869184 := by omega
      have k6 : wOf (rws q) ≤ 17179869184 := by omega
      simp only [h2, decide_true, cond_true, Bool.true_and, Cod.decs_encs (c := strC) (l := gridI brd q) (by unfold LIM; omega), Option.bind_some, hr, k1, k5, k6]
  · cases h
end Go.Proofs.EV.PL
set_option linter.unusedVariables false
set_option linter.unusedSimpArgs false
/-! Boards read by the reference. -/
namespace Go.Proofs.EV.PL
open Go Go.Proofs Go.Proofs.EV Sp
/-! spec_boRead -/
noncomputable def spec_boRead.cfg : Cfg := { C0 with keep := fun | 6 => some [0, 2, 4, 5, 6] | _ => none, nb := 0, M := tabM [], MM := tabB [] }
noncomputable def spec_boRead.l6 (n : Nat) (m6 : Nat) (s0 : ByteArray) (i1 : Int) (i2 : Int) (i3 : Int) (i4 : Int) (l5 : List (List D)) (i6 : Int) (i7 : Int) (l8 : List (List D)) : Option (List Q) :=
  loopAt spec_boRead.cfg [RK.agg [LK.int IntKind.i64, LK.int IntKind.i64, LK.sl (1 : Nat)], RK.one LK.bool] n Tryd.f53 [1, 1, 1, 1, 0, 1, 0] [] m6 (St.mk [V.one true (D.str s0), V.undef, V.rp (0 : Nat) (0 : Nat), V.undef, V.rp (2 : Nat) (0 : Nat), V.one true (D.int IntKind.i64 i1), V.one true (D.int IntKind.i64 i2), V.undef, V.undef, V.undef, V.undef, V.undef, V.undef, V.undef, V.undef, V.undef, V.undef, V.undef, V.undef, V.undef, V.undef, V.undef, V.undef, V.undef, V.undef, V.undef, V.undef, V.undef, V.undef, V.undef, V.undef, V.undef, V.undef, V.undef, V.undef, V.undef, V.undef, V.undef, V.undef, V.undef, V.undef, V.undef, V.undef, V.undef, V.undef, V.undef, V.undef, V.undef, V.undef, V.undef, V.undef, V.undef, V.undef, V.undef, V.undef, V.undef, V.undef, V.undef, V.undef, V.undef, V.undef, V.undef, V.undef, V.undef, V.undef, V.undef, V.undef, V.undef, V.undef, V.undef, V.undef, V.undef, V.undef, V.undef, V.undef, V.undef, V.undef, V.undef, V.undef, V.undef, V.undef, V.undef, V.undef, V.undef, V.undef] [Ob.box [V.one true (D.int IntKind.i64 i3), V.one true (D.int IntKind.i64 i4), V.rw (1 : Nat)], Ob.row false (1 : Nat) l5, Ob.box [V.one true (D.int IntKind.i64 i6), V.one true (D.int IntKind.i64 i7), V.rw (3 : Nat)], Ob.row false (1 : Nat) l8])
theorem spec_boRead.l6_eq (n : Nat) (m6 : Nat) (s0 : ByteArray) (i1 : Int) (i2 : Int) (i3 : Int) (i4 : Int) (l5 : List (List D)) (i6 : Int) (i7 : Int) (l8 : List (List D)) :
    spec_boRead.l6 n (m6 + 1) s0 i1 i2 i3 i4 l5 i6 i7 l8 = bif decide (i2 ≤ (↑(ByteArray.size s0) : Int)) then bif decide (i2 < (↑(ByteArray.size s0) : Int)) then bif decide ((0 : Int) ≤ i2) then bif decide (i2 < (↑(ByteArray.size s0) : Int)) then bif byteAt s0 (Int.toNat i2) != (47 : Int) then bif decide ((0 : Int) ≤ i2) then bif decide (i2 < (↑(ByteArray.size s0) : Int)) then bif byteAt s0 (Int.toNat i2) != (46 : Int) then bif decide ((0 : Int) ≤ i2) then bif decide (i2 < (↑(ByteArray.size s0) : Int)) then bif byteAt s0 (Int.toNat i2) != (35 : Int) then some [Q.agg [D.int IntKind.i64 (0 : Int), D.int IntKind.i64 (0 : Int), D.sl (1 : Nat) []], Q.one (D.bool false)] else bif decide ((0 : Int) ≤ i2) then bif decide (i2 < (↑(ByteArray.size s0) : Int)) then bif decide (List.length l8 + (1 : Nat) ≤ (17179869184 : Nat)) then spec_boRead.l6 n m6 s0 (IntKind.wrap IntKind.i64 (i1 + (1 : Int))) (IntKind.wrap IntKind.i64 (i2 + (1 : Int))) i3 i4 l5 i6 i7 (l8 ++ [[D.int IntKind.u8 (byteAt s0 (Int.toNat i2))]]) else none else none else none else none else none else bif decide ((0 : Int) ≤ i2) then bif decide (i2 < (↑(ByteArray.size s0) : Int)) then bif decide (List.length l8 + (1 : Nat) ≤ (17179869184 : Nat)) then spec_boRead.l6 n m6 s0 (IntKind.wrap IntKind.i64 (i1 + (1 : Int))) (IntKind.wrap IntKind.i64 (i2 + (1 : Int))) i3 i4 l5 i6 i7 (l8 ++ [[D.int IntKind.u8 (byteAt s0 (Int.toNat i2))]]) else none else none else none else none else none else bif decide (i7 > (0 : Int)) then bif i1 != i6 then some [Q.agg [D.int IntKind.i64 (0 : Int), D.int IntKind.i64 (0 : Int), D.sl (1 : Nat) []], Q.one (D.bool false)] else bif i1 == (0 : Int) then some [Q.agg [D.int IntKind.i64 (0 : Int), D.int IntKind.i64 (0 : Int), D.sl (1 : Nat) []], Q.one (D.bool false)] else spec_boRead.l6 n m6 s0 (0 : Int) (IntKind.wrap IntKind.i64 (i2 + (1 : Int))) i3 i4 l5 i1 (IntKind.wrap IntKind.i64 (i7 + (1 : Int))) l8 else bif i1 == (0 : Int) then some [Q.agg [D.int IntKind.i64 (0 : Int), D.int IntKind.i64 (0 : Int), D.sl (1 : Nat) []], Q.one (D.bool false)] else spec_boRead.l6 n m6 s0 (0 : Int) (IntKind.wrap IntKind.i64 (i2 + (1 : Int))) i3 i4 l5 i1 (IntKind.wrap IntKind.i64 (i7 + (1 : Int))) l8 else none else none else bif decide (i7 > (0 : Int)) then bif i1 != i6 then some [Q.agg [D.int IntKind.i64 (0 : Int), D.int IntKind.i64 (0 : Int), D.sl (1 : Nat) []], Q.one (D.bool false)] else bif i1 == (0 : Int) then some [Q.agg [D.int IntKind.i64 (0 : Int), D.int IntKind.i64 (0 : Int), D.sl (1 : Nat) []], Q.one (D.bool false)] else spec_boRead.l6 n m6 s0 (0 : Int) (IntKind.wrap IntKind.i64 (i2 + (1 : Int))) i3 i4 l5 i1 (IntKind.wrap IntKind.i64 (i7 + (1 : Int))) l8 else bif i1 == (0 : Int) then some [Q.agg [D.int IntKind.i64 (0 : Int), D.int IntKind.i64 (0 : Int), D.sl (1 : Nat) []], Q.one (D.bool false)] else spec_boRead.l6 n m6 s0 (0 : Int) (IntKind.wrap IntKind.i64 (i2 + (1 : Int))) i3 i4 l5 i1 (IntKind.wrap IntKind.i64 (i7 + (1 : Int))) l8 else bif decide (i6 > (7 : Int)) then some [Q.agg [D.int IntKind.i64 (0 : Int), D.int IntKind.i64 (0 : Int), D.sl (1 : Nat) []], Q.one (D.bool false)] else bif decide (i7 > (7 : Int)) then some [Q.agg [D.int IntKind.i64 (0 : Int), D.int IntKind.i64 (0 : Int), D.sl (1 : Nat) []], Q.one (D.bool false)] else bif decide ((↑(List.length l8) : Int) > (36 : Int)) then some [Q.agg [D.int IntKind.i64 (0 : Int), D.int IntKind.i64 (0 : Int), D.sl (1 : Nat) []], Q.one (D.bool false)] else some [Q.agg [D.int IntKind.i64 i6, D.int IntKind.i64 i7, D.sl (1 : Nat) l8], Q.one (D.bool true)] := by kernel_rfl
noncomputable def spec_boRead.res (n : Nat) (a0 : ByteArray) : Option (List Q) :=
  bif decide ((↑(ByteArray.size a0) : Int) > (42 : Int)) then some [Q.agg [D.int IntKind.i64 (0 : Int), D.int IntKind.i64 (0 : Int), D.sl (1 : Nat) []], Q.one (D.bool false)] else spec_boRead.l6 n n a0 (0 : Int) (0 : Int) (0 : Int) (0 : Int) [] (0 : Int) (0 : Int) []
theorem spec_boRead.run (n : Nat) (a0 : ByteArray) :
    run1 spec_boRead.cfg [RK.agg [LK.int IntKind.i64, LK.int IntKind.i64, LK.sl (1 : Nat)], RK.one LK.bool] n Tryd.f53 [Q.one (D.str a0)] = spec_boRead.res n a0 := by kernel_rfl
theorem spec_boRead.ev {n : Nat} {a0 : ByteArray} {r : List Q} (h : spec_boRead.res n a0 = some r) : Snd Tryd.prog C0 53 [.one (.str a0)] r :=
  snd_ev (C := spec_boRead.cfg) cfg0 mix rfl rfl rfl rfl rfl .nil .nil rfl Tryd.func53 (by kernel_rfl) (by kernel_rfl) rfl ((spec_boRead.run n a0).trans h)

theorem boEnd (w h : Nat) (cs : List UInt8) : (bif decide ((w : Int) > 7) then some zeroB else bif decide ((h : Int) > 7) then some zeroB else bif decide (((u8C.encs cs).length : Int) > 36) then some zeroB else some [Q.agg [.int .i64 w, .int .i64 h, .sl 1 (u8C.encs cs)], .one (.bool true)]) = some (outB (some (w, h, cs))) := by
  rw [Cod.encs_len]
  show _ = some (bif _ then _ else _)
  by_cases h1 : w ≤ 7
  · by_cases h2 : h ≤ 7
    · by_cases h3 : cs.length ≤ 36
      · have k1 : ¬ (w : Int) > 7 := by omega
        have k2 : ¬ (h : Int) > 7 := by omega
        have k3 : ¬ (cs.length : Int) > 36 := by omega
        simp only [h1, h2, h3, k1, k2, k3, decide_true, decide_false, cond_true, cond_false, Bool.and_self]
      · have k1 : ¬ (w : Int) > 7 := by omega
        have k2 : ¬ (h : Int) > 7 := by omega
        have k3 : (cs.length : Int) > 36 := by omega
        simp only [h1, h2, h3, k1, k2, k3, decide_true, decide_false, cond_true, cond_false, Bool.and_false]
    · have k1 : ¬ (w : Int) > 7 := by omega
      have k2 : (h : Int) > 7 := by omega
      simp only [h1, h2, k1, k2, decide_true, decide_false, cond_true, cond_false, Bool.and_false, Bool.false_and]
  · have k1 : (w : Int) > 7 := by omega
    simp only [h1, k1, decide_true, decide_false, cond_true, cond_false, Bool.and_false, Bool.false_and]
theorem bne_nat (a b : Nat) : ((a : Int) != (b : Int)) = decide (a ≠ b) := by
  rw [bne, Bool.eq_iff_iff]
  simp only [Bool.not_eq_true', beq_eq_false_iff_ne, decide_eq_true_eq]
  omega
theorem beq_zero (a : Nat) : ((a : Int) == 0) = decide (a = 0) := by
  rw [Bool.eq_iff_iff, beq_iff_eq, decide_eq_true_eq]
  omega
theorem gt_zero (a : Nat) : decide ((a : Int) > 0) = decide (0 < a) := by
  rw [Bool.eq_iff_iff, decide_eq_true_eq, decide_eq_true_eq]
  omega
theorem spec_boRead.l6_run {n : Nat} {s : ByteArray} (hs : s.size ≤ 42) : ∀ (d i m x w h : Nat) (cs : List UInt8), i + d = s.size → d + 1 < m → x ≤ i → h ≤ i → cs.length ≤ i →
    spec_boRead.l6 n m s (x : Int) (i : Int) 0 0 [] (w : Int) (h : Int) (u8C.encs cs) = some (outB (rdGo brd ((bl s).drop i) x w h cs)) := by
  intro d
  induction d with
  | zero =>
    intro i m x w h cs hi hm hx hh hcs
    obtain ⟨m, rfl⟩ : ∃ m', m = m' + 1 + 1 := ⟨m - 2, by omega⟩
    have h1 : (i : Int) ≤ ((s.size : Nat) : Int) := by omega
    have h2 : ¬ (i : Int) < ((s.size : Nat) : Int) := by omega
    have h3 : ¬ ((i + 1 : Nat) : Int) ≤ ((s.size : Nat) : Int) := by omega
    rw [spec_boRead.l6_eq, List.drop_of_length_le (by rw [bl_len]; omega), rdGo]
    have e : spec_boRead.l6 n (m + 1) s 0 ((i + 1 : Nat) : Int) 0 0 [] (x : Int) ((h + 1 : Nat) : Int) (u8C.encs cs) = some (outB (some (x, h + 1, cs))) := by
      rw [spec_boRead.l6_eq, ← boEnd x (h + 1) cs]
      simp only [h3, decide_false, cond_false]
      rfl
    simp only [h1, h2, decide_true, decide_false, cond_true, cond_false, wrap_succ (show i ≤ LIM by unfold LIM; omega), wrap_succ (show h ≤ LIM by unfold LIM; omega), e]
    rw [gt_zero, bne_nat, beq_zero]
    rw [show ∀ b, outB (bif b then none else some (x, h + 1, cs)) = bif b then zeroB else outB (some (x, h + 1, cs)) from fun b => by cases b <;> rfl]
    clear e
    generalize outB (some (x, h + 1, cs)) = z
    unfold badN
    cases decide (0 < h) <;> cases decide (x ≠ w) <;> cases decide (x = 0) <;> rfl
  | succ d ih =>
    intro i m x w h cs hi hm hx hh hcs
    obtain ⟨m, rfl⟩ : ∃ m', m = m' + 1 := ⟨m - 1, by omega⟩
    have hlt : i < (bl s).length := by rw [bl_len]; omega
    have h1 : (i : Int) ≤ ((s.size : Nat) : Int) := by omega
    have h2 : (i : Int) < ((s.size : Nat) : Int) := by omega
    have h4 : cs.length + 1 ≤ 17179869184 := by omega
    rw [spec_boRead.l6_eq, List.drop_eq_getElem_cons hlt, rdGo]
    have step := ih (i + 1) m (x + 1) w h (cs ++ [(bl s)[i]]) (by omega) (by omega) (by omega) (by omega) (by rw [List.length_append, List.length_singleton]; omega)
    have step2 : spec_boRead.l6 n m s 0 ((i + 1 : Nat) : Int) 0 0 [] (x : Int) ((h + 1 : Nat) : Int) (u8C.encs cs) = _ := ih (i + 1) m 0 x (h + 1) cs (by omega) (by omega) (by omega) (by omega) (by omega)
    simp only [h1, h2, h4, Cod.encs_len, Int.natCast_nonneg, Int.toNat_natCast, decide_true, cond_true, byteAt_bl hlt,
      wrap_succ (show i ≤ LIM by unfold LIM; omega), wrap_succ (show h ≤ LIM by unfold LIM; omega), wrap_succ (show x ≤ LIM by unfold LIM; omega), u8C_snoc, step, step2]
    clear step step2 ih
    rw [u8bne (bl s)[i] 47 (k := 47) rfl, u8bne (bl s)[i] 46 (k := 46) rfl, u8bne (bl s)[i] 35 (k := 35) rfl, gt_zero, bne_nat, beq_zero]
    unfold brd
    generalize rdGo _ _ (x + 1) _ _ _ = z1
    generalize rdGo _ _ 0 _ _ _ = z2
    cases (bl s)[i] == 47
    · cases (bl s)[i] == 46
      · cases (bl s)[i] == 35 <;> rfl
      · rfl
    · unfold badN
      cases decide (0 < h) <;> cases decide (x ≠ w) <;> cases decide (x = 0) <;> rfl
def spec_boRead.stub : Stub
  | [.one (.str b)] => .ret [.agg [.int .i64 (Sp.boW Sp.brd b : Nat), .int .i64 (Sp.boH Sp.brd b : Nat), .sl 1 (u8C.encs (Sp.boC Sp.brd b))], .one (.bool (Sp.isBo Sp.brd b))]
  | _ => .fail
theorem spec_boRead.ok : StubOk Tryd.prog C0 53 spec_boRead.stub := by
  intro args res h
  unfold spec_boRead.stub at h
  split at h
  · rename_i s
    cases h
    obtain ⟨N, hN⟩ : ∃ N, 44 ≤ N := ⟨44, Nat.le_refl _⟩
    refine spec_boRead.ev (n := N) ?_
    unfold spec_boRead.res
    by_cases hs : s.size ≤ 42
    · have h1 : ¬ ((s.size : Nat) : Int) > 42 := by omega
      simp only [h1, decide_false, cond_false]
      rw [← out_rd]
      have key := spec_boRead.l6_run (n := N) hs s.size 0 N 0 0 0 [] (by omega) (by omega) (by omega) (by omega) (by simp)
      rw [List.drop_zero] at key
      exact key
    · have h1 : ((s.size : Nat) : Int) > 42 := by omega
      simp only [h1, decide_true, cond_true]
      rw [out_zero (isBo_big (by omega))]; rfl
  · cases h
end Go.Proofs.EV.PL
set_option linter.unusedVariables false
set_option linter.unusedSimpArgs false
/-! Boards read by the reference. -/
namespace Go.Proofs.EV.PL
open Go Go.Proofs Go.Proofs.EV Sp
/-! spec_bxRead -/
noncomputable def spec_bxRead.cfg : Cfg := { C0 with keep := fun | 6 => some [0, 2, 4, 5, 6, 7] | _ => none, nb := 0, M := tabM [], MM := tabB [] }
noncomputable def spec_bxRead.l6 (n : Nat) (m6 : Nat) (s0 : ByteArray) (i1 : Int) (i2 : Int) (i3 : Int) (i4 : Int) (i5 : Int) (l6 : List (List D)) (i7 : Int) (i8 : Int) (l9 : List (List D)) : Option (List Q) :=
  loopAt spec_bxRead.cfg [RK.agg [LK.int IntKind.i64, LK.int IntKind.i64, LK.sl (1 : Nat)], RK.one LK.bool] n Tryd.f59 [1, 1, 1, 1, 0, 1, 0] [] m6 (St.mk [V.one true (D.str s0), V.undef, V.rp (0 : Nat) (0 : Nat), V.undef, V.rp (2 : Nat) (0 : Nat), V.one true (D.int IntKind.i64 i1), V.one true (D.int IntKind.i64 i2), V.one true (D.int IntKind.i64 i3), V.undef, V.undef, V.undef, V.undef, V.undef, V.undef, V.undef, V.undef, V.undef, V.undef, V.undef, V.undef, V.undef, V.undef, V.undef, V.undef, V.undef, V.undef, V.undef, V.undef, V.undef, V.undef, V.undef, V.undef, V.undef, V.undef, V.undef, V.undef, V.undef, V.undef, V.undef, V.undef, V.undef, V.undef, V.undef, V.undef, V.undef, V.undef, V.undef, V.undef, V.undef, V.undef, V.undef, V.undef, V.undef, V.undef, V.undef, V.undef, V.undef, V.undef, V.undef, V.undef, V.undef, V.undef, V.undef, V.undef, V.undef, V.undef, V.undef, V.undef, V.undef, V.undef, V.undef, V.undef, V.undef, V.undef, V.undef, V.undef, V.undef, V.undef, V.undef, V.undef, V.undef, V.undef, V.undef, V.undef, V.undef, V.undef, V.undef, V.undef, V.undef, V.undef, V.undef] [Ob.box [V.one true (D.int IntKind.i64 i4), V.one true (D.int IntKind.i64 i5), V.rw (1 : Nat)], Ob.row false (1 : Nat) l6, Ob.box [V.one true (D.int IntKind.i64 i7), V.one true (D.int IntKind.i64 i8), V.rw (3 : Nat)], Ob.row false (1 : Nat) l9])
theorem spec_bxRead.l6_eq (n : Nat) (m6 : Nat) (s0 : ByteArray) (i1 : Int) (i2 : Int) (i3 : Int) (i4 : Int) (i5 : Int) (l6 : List (List D)) (i7 : Int) (i8 : Int) (l9 : List (List D)) :
    spec_bxRead.l6 n (m6 + 1) s0 i1 i2 i3 i4 i5 l6 i7 i8 l9 = bif decide (i3 ≤ (↑(ByteArray.size s0) : Int)) then bif decide (i3 < (↑(ByteArray.size s0) : Int)) then bif decide ((0 : Int) ≤ i3) then bif decide (i3 < (↑(ByteArray.size s0) : Int)) then bif byteAt s0 (Int.toNat i3) != (47 : Int) then bif decide ((0 : Int) ≤ i3) then bif decide (i3 < (↑(ByteArray.size s0) : Int)) then bif byteAt s0 (Int.toNat i3) == (46 : Int) then bif decide ((0 : Int) ≤ i3) then bif decide (i3 < (↑(ByteArray.size s0) : Int)) then bif decide (List.length l9 + (1 : Nat) ≤ (17179869184 : Nat)) then spec_bxRead.l6 n m6 s0 (IntKind.wrap IntKind.i64 (i1 + (1 : Int))) i2 (IntKind.wrap IntKind.i64 (i3 + (1 : Int))) i4 i5 l6 i7 i8 (l9 ++ [[D.int IntKind.u8 (byteAt s0 (Int.toNat i3))]]) else none else none else none else bif byteAt s0 (Int.toNat i3) == (35 : Int) then bif decide ((0 : Int) ≤ i3) then bif decide (i3 < (↑(ByteArray.size s0) : Int)) then bif decide (List.length l9 + (1 : Nat) ≤ (17179869184 : Nat)) then spec_bxRead.l6 n m6 s0 (IntKind.wrap IntKind.i64 (i1 + (1 : Int))) i2 (IntKind.wrap IntKind.i64 (i3 + (1 : Int))) i4 i5 l6 i7 i8 (l9 ++ [[D.int IntKind.u8 (byteAt s0 (Int.toNat i3))]]) else none else none else none else bif byteAt s0 (Int.toNat i3) == (45 : Int) then bif decide ((0 : Int) ≤ i3) then bif decide (i3 < (↑(ByteArray.size s0) : Int)) then bif decide (List.length l9 + (1 : Nat) ≤ (17179869184 : Nat)) then spec_bxRead.l6 n m6 s0 (IntKind.wrap IntKind.i64 (i1 + (1 : Int))) i2 (IntKind.wrap IntKind.i64 (i3 + (1 : Int))) i4 i5 l6 i7 i8 (l9 ++ [[D.int IntKind.u8 (byteAt s0 (Int.toNat i3))]]) else none else none else none else bif byteAt s0 (Int.toNat i3) == (111 : Int) then bif decide ((0 : Int) ≤ i3) then bif decide (i3 < (↑(ByteArray.size s0) : Int)) then bif decide (List.length l9 + (1 : Nat) ≤ (17179869184 : Nat)) then spec_bxRead.l6 n m6 s0 (IntKind.wrap IntKind.i64 (i1 + (1 : Int))) (IntKind.wrap IntKind.i64 (i2 + (1 : Int))) (IntKind.wrap IntKind.i64 (i3 + (1 : Int))) i4 i5 l6 i7 i8 (l9 ++ [[D.int IntKind.u8 (byteAt s0 (Int.toNat i3))]]) else none else none else none else some [Q.agg [D.int IntKind.i64 (0 : Int), D.int IntKind.i64 (0 : Int), D.sl (1 : Nat) []], Q.one (D.bool false)] else none else none else bif decide (i8 > (0 : Int)) then bif i1 != i7 then some [Q.agg [D.int IntKind.i64 (0 : Int), D.int IntKind.i64 (0 : Int), D.sl (1 : Nat) []], Q.one (D.bool false)] else bif i1 == (0 : Int) then some [Q.agg [D.int IntKind.i64 (0 : Int), D.int IntKind.i64 (0 : Int), D.sl (1 : Nat) []], Q.one (D.bool false)] else spec_bxRead.l6 n m6 s0 (0 : Int) i2 (IntKind.wrap IntKind.i64 (i3 + (1 : Int))) i4 i5 l6 i1 (IntKind.wrap IntKind.i64 (i8 + (1 : Int))) l9 else bif i1 == (0 : Int) then some [Q.agg [D.int IntKind.i64 (0 : Int), D.int IntKind.i64 (0 : Int), D.sl (1 : Nat) []], Q.one (D.bool false)] else spec_bxRead.l6 n m6 s0 (0 : Int) i2 (IntKind.wrap IntKind.i64 (i3 + (1 : Int))) i4 i5 l6 i1 (IntKind.wrap IntKind.i64 (i8 + (1 : Int))) l9 else none else none else bif decide (i8 > (0 : Int)) then bif i1 != i7 then some [Q.agg [D.int IntKind.i64 (0 : Int), D.int IntKind.i64 (0 : Int), D.sl (1 : Nat) []], Q.one (D.bool false)] else bif i1 == (0 : Int) then some [Q.agg [D.int IntKind.i64 (0 : Int), D.int IntKind.i64 (0 : Int), D.sl (1 : Nat) []], Q.one (D.bool false)] else spec_bxRead.l6 n m6 s0 (0 : Int) i2 (IntKind.wrap IntKind.i64 (i3 + (1 : Int))) i4 i5 l6 i1 (IntKind.wrap IntKind.i64 (i8 + (1 : Int))) l9 else bif i1 == (0 : Int) then some [Q.agg [D.int IntKind.i64 (0 : Int), D.int IntKind.i64 (0 : Int), D.sl (1 : Nat) []], Q.one (D.bool false)] else spec_bxRead.l6 n m6 s0 (0 : Int) i2 (IntKind.wrap IntKind.i64 (i3 + (1 : Int))) i4 i5 l6 i1 (IntKind.wrap IntKind.i64 (i8 + (1 : Int))) l9 else bif decide (i7 > (7 : Int)) then some [Q.agg [D.int IntKind.i64 (0 : Int), D.int IntKind.i64 (0 : Int), D.sl (1 : Nat) []], Q.one (D.bool false)] else bif decide (i8 > (7 : Int)) then some [Q.agg [D.int IntKind.i64 (0 : Int), D.int IntKind.i64 (0 : Int), D.sl (1 : Nat) []], Q.one (D.bool false)] else bif decide ((↑(List.length l9) : Int) > (36 : Int)) then some [Q.agg [D.int IntKind.i64 (0 : Int), D.int IntKind.i64 (0 : Int), D.sl (1 : Nat) []], Q.one (D.bool false)] else bif decide (i2 > (1 : Int)) then some [Q.agg [D.int IntKind.i64 (0 : Int), D.int IntKind.i64 (0 : Int), D.sl (1 : Nat) []], Q.one (D.bool false)] else some [Q.agg [D.int IntKind.i64 i7, D.int IntKind.i64 i8, D.sl (1 : Nat) l9], Q.one (D.bool true)] := by kernel_rfl
noncomputable def spec_bxRead.res (n : Nat) (a0 : ByteArray) : Option (List Q) :=
  bif decide ((↑(ByteArray.size a0) : Int) > (42 : Int)) then some [Q.agg [D.int IntKind.i64 (0 : Int), D.int IntKind.i64 (0 : Int), D.sl (1 : Nat) []], Q.one (D.bool false)] else spec_bxRead.l6 n n a0 (0 : Int) (0 : Int) (0 : Int) (0 : Int) (0 : Int) [] (0 : Int) (0 : Int) []
theorem spec_bxRead.run (n : Nat) (a0 : ByteArray) :
    run1 spec_bxRead.cfg [RK.agg [LK.int IntKind.i64, LK.int IntKind.i64, LK.sl (1 : Nat)], RK.one LK.bool] n Tryd.f59 [Q.one (D.str a0)] = spec_bxRead.res n a0 := by kernel_rfl
theorem spec_bxRead.ev {n : Nat} {a0 : ByteArray} {r : List Q} (h : spec_bxRead.res n a0 = some r) : Snd Tryd.prog C0 59 [.one (.str a0)] r :=
  snd_ev (C := spec_bxRead.cfg) cfg0 mix rfl rfl rfl rfl rfl .nil .nil rfl Tryd.func59 (by kernel_rfl) (by kernel_rfl) rfl ((spec_bxRead.run n a0).trans h)

theorem boEndG (w h : Nat) (cs : List UInt8) : (bif decide ((w : Int) > 7) then some zeroB else bif decide ((h : Int) > 7) then some zeroB else bif decide (((u8C.encs cs).length : Int) > 36) then some zeroB else bif decide (((cs.count 111 : Nat) : Int) > 1) then some zeroB else some [Q.agg [.int .i64 w, .int .i64 h, .sl 1 (u8C.encs cs)], .one (.bool true)]) = some (outG (some (w, h, cs))) := by
  rw [Cod.encs_len]
  show _ = some (bif _ then _ else _)
  by_cases h1 : w ≤ 7
  · by_cases h2 : h ≤ 7
    · by_cases h3 : cs.length ≤ 36
      · have k1 : ¬ (w : Int) > 7 := by omega
        have k2 : ¬ (h : Int) > 7 := by omega
        have k3 : ¬ (cs.length : Int) > 36 := by omega
        by_cases h4 : cs.count 111 ≤ 1
        · have k4 : ¬ ((cs.count 111 : Nat) : Int) > 1 := by omega
          simp only [h1, h2, h3, h4, k1, k2, k3, k4, decide_true, decide_false, cond_true, cond_false, Bool.and_self]
        · have k4 : ((cs.count 111 : Nat) : Int) > 1 := by omega
          simp only [h1, h2, h3, h4, k1, k2, k3, k4, decide_true, decide_false, cond_true, cond_false, Bool.and_false]
      · have k1 : ¬ (w : Int) > 7 := by omega
        have k2 : ¬ (h : Int) > 7 := by omega
        have k3 : (cs.length : Int) > 36 := by omega
        simp only [h1, h2, h3, k1, k2, k3, decide_true, decide_false, cond_true, cond_false, Bool.and_false, Bool.false_and]
    · have k1 : ¬ (w : Int) > 7 := by omega
      have k2 : (h : Int) > 7 := by omega
      simp only [h1, h2, k1, k2, decide_true, decide_false, cond_true, cond_false, Bool.and_false, Bool.false_and]
  · have k1 : (w : Int) > 7 := by omega
    simp only [h1, k1, decide_true, decide_false, cond_true, cond_false, Bool.and_false, Bool.false_and]
theorem count_snoc (cs : List UInt8) (c : UInt8) : (cs ++ [c]).count 111 = bif c == 111 then cs.count 111 + 1 else cs.count 111 := by
  rw [List.count_append, List.count_singleton]
  cases c == 111 <;> rfl
theorem spec_bxRead.l6_run {n : Nat} {s : ByteArray} (hs : s.size ≤ 42) : ∀ (d i m x w h : Nat) (cs : List UInt8), i + d = s.size → d + 1 < m → x ≤ i → h ≤ i → cs.length ≤ i →
    spec_bxRead.l6 n m s (x : Int) ((cs.count 111 : Nat) : Int) (i : Int) 0 0 [] (w : Int) (h : Int) (u8C.encs cs) = some (outG (rdGo gnd ((bl s).drop i) x w h cs)) := by
  intro d
  induction d with
  | zero =>
    intro i m x w h cs hi hm hx hh hcs
    obtain ⟨m, rfl⟩ : ∃ m', m = m' + 1 + 1 := ⟨m - 2, by omega⟩
    have h1 : (i : Int) ≤ ((s.size : Nat) : Int) := by omega
    have h2 : ¬ (i : Int) < ((s.size : Nat) : Int) := by omega
    have h3 : ¬ ((i + 1 : Nat) : Int) ≤ ((s.size : Nat) : Int) := by omega
    rw [spec_bxRead.l6_eq, List.drop_of_length_le (by rw [bl_len]; omega), rdGo]
    have e : spec_bxRead.l6 n (m + 1) s 0 ((cs.count 111 : Nat) : Int) ((i + 1 : Nat) : Int) 0 0 [] (x : Int) ((h + 1 : Nat) : Int) (u8C.encs cs) = some (outG (some (x, h + 1, cs))) := by
      rw [spec_bxRead.l6_eq, ← boEndG x (h + 1) cs]
      simp only [h3, decide_false, cond_false]
      rfl
    simp only [h1, h2, decide_true, decide_false, cond_true, cond_false, wrap_succ (show i ≤ LIM by unfold LIM; omega), wrap_succ (show h ≤ LIM by unfold LIM; omega), e]
    rw [gt_zero, bne_nat, beq_zero]
    rw [show ∀ b, outG (bif b then none else some (x, h + 1, cs)) = bif b then zeroB else outG (some (x, h + 1, cs)) from fun b => by cases b <;> rfl]
    clear e
    generalize outG (some (x, h + 1, cs)) = z
    unfold badN
    cases decide (0 < h) <;> cases decide (x ≠ w) <;> cases decide (x = 0) <;> rfl
  | succ d ih =>
    intro i m x w h cs hi hm hx hh hcs
    obtain ⟨m, rfl⟩ : ∃ m', m = m' + 1 := ⟨m - 1, by omega⟩
    have hlt : i < (bl s).length := by rw [bl_len]; omega
    have h1 : (i : Int) ≤ ((s.size : Nat) : Int) := by omega
    have h2 : (i : Int) < ((s.size : Nat) : Int) := by omega
    have h4 : cs.length + 1 ≤ 17179869184 := by omega
    have hc : cs.count 111 ≤ LIM := by
      have : cs.count 111 ≤ cs.length := List.count_le_length
      unfold LIM; omega
    have step := ih (i + 1) m (x + 1) w h (cs ++ [(bl s)[i]]) (by omega) (by omega) (by omega) (by omega) (by rw [List.length_append, List.length_singleton]; omega)
    have step2 : spec_bxRead.l6 n m s 0 ((cs.count 111 : Nat) : Int) ((i + 1 : Nat) : Int) 0 0 [] (x : Int) ((h + 1 : Nat) : Int) (u8C.encs cs) = _ := ih (i + 1) m 0 x (h + 1) cs (by omega) (by omega) (by omega) (by omega) (by omega)
    rw [count_snoc] at step
    rw [spec_bxRead.l6_eq, List.drop_eq_getElem_cons hlt, rdGo]
    simp only [h1, h2, h4, Cod.encs_len, Int.natCast_nonneg, Int.toNat_natCast, decide_true, cond_true, byteAt_bl hlt,
      wrap_succ (show i ≤ LIM by unfold LIM; omega), wrap_succ (show h ≤ LIM by unfold LIM; omega), wrap_succ (show x ≤ LIM by unfold LIM; omega), wrap_succ hc, u8C_snoc, step2]
    clear step2 ih
    rw [u8bne (bl s)[i] 47 (k := 47) rfl, u8beq (bl s)[i] 46 (k := 46) rfl, u8beq (bl s)[i] 35 (k := 35) rfl, u8beq (bl s)[i] 45 (k := 45) rfl, u8beq (bl s)[i] 111 (k := 111) rfl, gt_zero, bne_nat, beq_zero]
    rw [show gnd (bl s)[i] = (((bl s)[i] == 46 || (bl s)[i] == 35) || ((bl s)[i] == 45 || (bl s)[i] == 111)) from rfl]
    generalize rdGo gnd _ 0 _ _ _ = z2
    have key : ∀ k : UInt8, k ≠ 111 → ((bl s)[i] == k) = true → ((bl s)[i] == 111) = false := by
      intro k hk he
      rw [beq_iff_eq] at he
      rw [beq_eq_false_iff_ne, he]; exact hk
    cases e0 : (bl s)[i] == 47
    · cases e1 : (bl s)[i] == 46
      · cases e2 : (bl s)[i] == 35
        · cases e3 : (bl s)[i] == 45
          · cases e4 : (bl s)[i] == 111
            · rfl
            · rw [e4, cond_true] at step
              simp only [Bool.not_false, Bool.not_true, cond_true, cond_false, Bool.or_true, Bool.or_false, step]
          · rw [key 45 (by decide) e3, cond_false] at step
            simp only [Bool.not_false, Bool.not_true, cond_true, cond_false, Bool.or_true, Bool.true_or, Bool.or_false, step]
        · rw [key 35 (by decide) e2, cond_false] at step
          simp only [Bool.not_false, Bool.not_true, cond_true, cond_false, Bool.or_true, Bool.true_or, Bool.or_false, step]
      · rw [key 46 (by decide) e1, cond_false] at step
        simp only [Bool.not_false, Bool.not_true, cond_true, cond_false, Bool.or_true, Bool.true_or, Bool.or_false, step]
    · unfold badN
      cases decide (0 < h) <;> cases decide (x ≠ w) <;> cases decide (x = 0) <;> rfl
def spec_bxRead.stub : Stub
  | [.one (.str b)] => .ret [.agg [.int .i64 (Sp.grW b : Nat), .int .i64 (Sp.grH b : Nat), .sl 1 (u8C.encs (Sp.grC b))], .one (.bool (Sp.isGr b))]
  | _ => .fail
theorem spec_bxRead.ok : StubOk Tryd.prog C0 59 spec_bxRead.stub := by
  intro args res h
  unfold spec_bxRead.stub at h
  split at h
  · rename_i s
    cases h
    obtain ⟨N, hN⟩ : ∃ N, 44 ≤ N := ⟨44, Nat.le_refl _⟩
    refine spec_bxRead.ev (n := N) ?_
    unfold spec_bxRead.res
    by_cases hs : s.size ≤ 42
    · have h1 : ¬ ((s.size : Nat) : Int) > 42 := by omega
      simp only [h1, decide_false, cond_false]
      rw [← outG_rd]
      have key := spec_bxRead.l6_run (n := N) hs s.size 0 N 0 0 0 [] (by omega) (by omega) (by omega) (by omega) (by simp)
      rw [List.drop_zero] at key
      exact key
    · have h1 : ((s.size : Nat) : Int) > 42 := by omega
      simp only [h1, decide_true, cond_true]
      rw [outG_zero (by unfold isGr; rw [isBo_big (by omega)]; rfl)]; rfl
  · cases h
end Go.Proofs.EV.PL
set_option linter.unusedVariables false
set_option linter.unusedSimpArgs false
/-! Boards read by the reference. -/
namespace Go.Proofs.EV.PL
open Go Go.Proofs Go.Proofs.EV Sp
/-! spec_prDigit -/
noncomputable def spec_prDigit.cfg : Cfg := { C0 with keep := fun _ => none, nb := 0, M := tabM [], MM := tabB [] }
noncomputable def spec_prDigit.res (n : Nat) (a0 : Int) : Option (List Q) :=
  bif decide (a0 ≥ (48 : Int)) then some [Q.one (D.bool (decide (a0 ≤ (57 : Int))))] else some [Q.one (D.bool false)]
theorem spec_prDigit.run (n : Nat) (a0 : Int) :
    run1 spec_prDigit.cfg [RK.one LK.bool] n Tryd.f81 [Q.one (D.int IntKind.u8 a0)] = spec_prDigit.res n a0 := by kernel_rfl
theorem spec_prDigit.ev {n : Nat} {a0 : Int} {r : List Q} (h : spec_prDigit.res n a0 = some r) : Snd Tryd.prog C0 81 [.one (.int .u8 a0)] r :=
  snd_ev (C := spec_prDigit.cfg) cfg0 mix rfl rfl rfl rfl rfl .nil .nil rfl Tryd.func81 (by kernel_rfl) (by kernel_rfl) rfl ((spec_prDigit.run n a0).trans h)

def spec_prDigit.stub : Stub
  | [.one (.int .u8 c)] => .ret [.one (.bool (Sp.digI c))]
  | _ => .fail
theorem spec_prDigit.ok : StubOk Tryd.prog C0 81 spec_prDigit.stub := by
  intro args res h
  unfold spec_prDigit.stub at h
  split at h
  · rename_i c
    cases h
    refine spec_prDigit.ev (n := 0) ?_
    unfold spec_prDigit.res digI
    rw [show decide (c ≥ 48) = decide (48 ≤ c) from rfl]
    cases decide (48 ≤ c) <;> rfl
  · cases h
/-! spec_prRead -/
noncomputable def spec_prRead.cfg : Cfg := { C0 with keep := fun | 6 => some [2, 5, 6, 17, 18, 19] | _ => none, nb := 0, M := tabM [(53, spec_boRead.stub), (81, spec_prDigit.stub)], MM := tabB [] }
noncomputable def spec_prRead.l6 (n : Nat) (m6 : Nat) (i0 : Int) (i1 : Int) (i2 : Int) (i3 : Int) (l4 : List (List D)) (l5 : List (List D)) (l6 : List (List D)) : Option (List Q) :=
  loopAt spec_prRead.cfg [RK.agg [LK.int IntKind.i64, LK.int IntKind.i64, LK.sl (1 : Nat)], RK.own (1 : Nat), RK.one LK.bool] n Tryd.f61 [1, 1, 1, 1, 0, 1, 0] [] m6 (St.mk [V.undef, V.undef, V.rp (0 : Nat) (0 : Nat), V.undef, V.undef, V.rw (2 : Nat), V.rw (3 : Nat), V.undef, V.undef, V.undef, V.undef, V.undef, V.undef, V.undef, V.undef, V.undef, V.undef, V.rw (2 : Nat), V.one true (D.int IntKind.i64 i0), V.one true (D.int IntKind.i64 i1), V.undef, V.undef, V.undef, V.undef, V.undef, V.undef, V.undef, V.undef, V.undef, V.undef, V.undef, V.undef, V.undef, V.undef, V.undef, V.undef, V.undef, V.undef, V.undef, V.undef, V.undef, V.undef, V.undef, V.undef, V.undef] [Ob.box [V.one true (D.int IntKind.i64 i2), V.one true (D.int IntKind.i64 i3), V.rw (1 : Nat)], Ob.row false (1 : Nat) l4, Ob.row false (1 : Nat) l5, Ob.row false (1 : Nat) l6])
theorem spec_prRead.l6_eq (n : Nat) (m6 : Nat) (i0 : Int) (i1 : Int) (i2 : Int) (i3 : Int) (l4 : List (List D)) (l5 : List (List D)) (l6 : List (List D)) :
    spec_prRead.l6 n (m6 + 1) i0 i1 i2 i3 l4 l5 l6 = bif decide (i1 < i0) then bif decide ((0 : Int) ≤ i1) then bif decide (i1 < (↑(List.length l5) : Int)) then Option.bind (Option.bind (some (cellD l5 (Int.toNat i1) (0 : Nat))) (D.int? IntKind.u8)) fun (i1_1 : Int) => bif digI i1_1 then bif decide ((0 : Int) ≤ i1) then bif decide (i1 < (↑(List.length l5) : Int)) then bif i1_1 != (47 : Int) then bif decide (List.length l6 + (1 : Nat) ≤ (17179869184 : Nat)) then spec_prRead.l6 n m6 i0 (IntKind.wrap IntKind.i64 (i1 + (1 : Int))) i2 i3 l4 (setRow (1 : Nat) l5 (Int.toNat i1) (0 : Nat) [D.int IntKind.u8 (46 : Int)]) (l6 ++ [[D.int IntKind.u8 i1_1]]) else none else spec_prRead.l6 n m6 i0 (IntKind.wrap IntKind.i64 (i1 + (1 : Int))) i2 i3 l4 (setRow (1 : Nat) l5 (Int.toNat i1) (0 : Nat) [D.int IntKind.u8 (46 : Int)]) l6 else none else none else bif i1_1 != (47 : Int) then bif decide (List.length l6 + (1 : Nat) ≤ (17179869184 : Nat)) then spec_prRead.l6 n m6 i0 (IntKind.wrap IntKind.i64 (i1 + (1 : Int))) i2 i3 l4 l5 (l6 ++ [[D.int IntKind.u8 i1_1]]) else none else spec_prRead.l6 n m6 i0 (IntKind.wrap IntKind.i64 (i1 + (1 : Int))) i2 i3 l4 l5 l6 else none else none else Option.bind (Option.map (fun (l : List UInt8) => ByteArray.mk (List.toArray l)) (rowStr? l5)) fun (s2 : ByteArray) => some [Q.agg [D.int IntKind.i64 (↑(boW brd s2) : Int), D.int IntKind.i64 (↑(boH brd s2) : Int), D.sl (1 : Nat) (Cod.encs u8C (boC brd s2))], Q.one (D.sl (1 : Nat) l6), Q.one (D.bool (isBo brd s2))] := by kernel_rfl
noncomputable def spec_prRead.res (n : Nat) (a0 : ByteArray) : Option (List Q) :=
  bif decide ((↑(ByteArray.size a0) : Int) > (42 : Int)) then some [Q.agg [D.int IntKind.i64 (0 : Int), D.int IntKind.i64 (0 : Int), D.sl (1 : Nat) []], Q.one (D.sl (1 : Nat) []), Q.one (D.bool false)] else bif decide (ByteArray.size a0 ≤ (17179869184 : Nat)) then spec_prRead.l6 n n (↑(List.length (strRow a0)) : Int) (0 : Int) (0 : Int) (0 : Int) [] (strRow a0) [] else none
theorem spec_prRead.run (n : Nat) (a0 : ByteArray) :
    run1 spec_prRead.cfg [RK.agg [LK.int IntKind.i64, LK.int IntKind.i64, LK.sl (1 : Nat)], RK.own (1 : Nat), RK.one LK.bool] n Tryd.f61 [Q.one (D.str a0)] = spec_prRead.res n a0 := by kernel_rfl
theorem spec_prRead.ev {n : Nat} {a0 : ByteArray} {r : List Q} (h : spec_prRead.res n a0 = some r) : Snd Tryd.prog C0 61 [.one (.str a0)] r :=
  snd_ev (C := spec_prRead.cfg) cfg0 mix rfl rfl rfl rfl rfl (.cons spec_boRead.ok (.cons spec_prDigit.ok .nil)) .nil rfl Tryd.func61 (by kernel_rfl) (by kernel_rfl) rfl ((spec_prRead.run n a0).trans h)

theorem spec_prRead.l6_run {n N : Nat} (hN : N ≤ 42) : ∀ (rest done : List UInt8) (m : Nat) (z2 z3 : Int), done.length + rest.length = N → rest.length < m →
    spec_prRead.l6 n m (N : Int) (done.length : Int) z2 z3 [] (u8C.encs (done.map fl ++ rest)) (u8C.encs (done.filter fun x => !(x == 47))) =
      some [.agg [.int .i64 (boW brd (mkB ((done ++ rest).map fl)) : Nat), .int .i64 (boH brd (mkB ((done ++ rest).map fl)) : Nat), .sl 1 (u8C.encs (boC brd (mkB ((done ++ rest).map fl))))], .one (.sl 1 (u8C.encs ((done ++ rest).filter fun x => !(x == 47)))), .one (.bool (isBo brd (mkB ((done ++ rest).map fl))))]
  | [], done, m, z2, z3, hl, hm => by
    obtain ⟨m, rfl⟩ : ∃ m', m = m' + 1 := ⟨m - 1, by simp at hm; omega⟩
    have h1 : ¬ (done.length : Int) < (N : Int) := by simp at hl; omega
    rw [spec_prRead.l6_eq]
    simp only [h1, decide_false, cond_false, List.append_nil, rowStr_u8, Option.map_some, Option.bind_some]
    rfl
  | c :: rest, done, m, z2, z3, hl, hm => by
    obtain ⟨m, rfl⟩ : ∃ m', m = m' + 1 := ⟨m - 1, by simp at hm; omega⟩
    rw [List.length_cons] at hl hm
    have h1 : (done.length : Int) < (N : Int) := by omega
    have hlt : done.length < (done.map fl ++ c :: rest).length := by simp
    have h2 : (done.length : Int) < (((done.map fl ++ c :: rest).length : Nat) : Int) := by omega
    have hget : (done.map fl ++ c :: rest)[done.length] = c := by
      rw [List.getElem_append_right (by simp)]
      simp
    have hf : (done.filter fun x => !(x == 47)).length + 1 ≤ 17179869184 := by
      have : (done.filter fun x => !(x == 47)).length ≤ done.length := List.length_filter_le _ _
      omega
    have step := spec_prRead.l6_run (n := n) hN rest (done ++ [c]) m
    rw [List.length_append, List.length_singleton, List.append_assoc, List.singleton_append, List.map_append, List.map_singleton, List.append_assoc, List.singleton_append, List.filter_append] at step
    have step := fun z2 z3 => step z2 z3 (by omega) (by omega)
    have hset : (done.map fl ++ c :: rest).set done.length 46 = done.map fl ++ 46 :: rest := by
      rw [List.set_append_right _ _ (by simp)]
      simp
    rw [spec_prRead.l6_eq]
    simp only [h1, h2, Cod.encs_len, Int.natCast_nonneg, Int.toNat_natCast, decide_true, cond_true, u8C_cell hlt, hget, Option.bind_some, wrap_succ (show done.length ≤ LIM by unfold LIM; omega), u8bne c 47 (k := 47) rfl, hf, u8C_snoc, show D.int .u8 (46 : Int) = D.int .u8 ((46 : UInt8).toNat : Int) from rfl, u8C_set, hset]
    rw [show digI (c.toNat : Int) = dig c from rfl]
    have efil : List.filter (fun x : UInt8 => !(x == 47)) [c] = bif c == 47 then [] else [c] := by
      rw [List.filter_cons, List.filter_nil]
      cases c == 47 <;> rfl
    rw [efil] at step
    cases hd : dig c with
    | true =>
      have e : fl c = 46 := by unfold fl; rw [hd]; rfl
      have hc : (c == 47) = false := by
        rw [beq_eq_false_iff_ne]
        rintro rfl
        cases hd
      rw [e, hc] at step
      rw [hc]
      exact step _ _
    | false =>
      have e : fl c = c := by unfold fl; rw [hd]; rfl
      rw [e] at step
      cases hc : c == 47 with
      | true =>
        rw [hc, cond_true, List.append_nil] at step
        exact step _ _
      | false =>
        rw [hc] at step
        exact step _ _
def spec_prRead.stub : Stub
  | [.one (.str b)] => .ret [.agg [.int .i64 (Sp.boW Sp.brd (Sp.plainB b) : Nat), .int .i64 (Sp.boH Sp.brd (Sp.plainB b) : Nat), .sl 1 (u8C.encs (Sp.boC Sp.brd (Sp.plainB b)))], .one (.sl 1 (u8C.encs (Sp.prL b))), .one (.bool (Sp.isBo Sp.lab b))]
  | _ => .fail
theorem spec_prRead.ok : StubOk Tryd.prog C0 61 spec_prRead.stub := by
  intro args res h
  unfold spec_prRead.stub at h
  split at h
  · rename_i s
    cases h
    obtain ⟨N, hN⟩ : ∃ N, 44 ≤ N := ⟨44, Nat.le_refl _⟩
    refine spec_prRead.ev (n := N) ?_
    unfold spec_prRead.res prL
    by_cases hs : s.size ≤ 42
    · have h1 : ¬ ((s.size : Nat) : Int) > 42 := by omega
      have h2 : s.size ≤ 17179869184 := by omega
      simp only [h1, h2, hs, decide_false, cond_false, decide_true, cond_true]
      have key := spec_prRead.l6_run (n := N) (N := s.size) hs (bl s) [] N 0 0 (by rw [bl_len]; simp) (by rw [bl_len]; omega)
      rw [← isBo_plain, strRow_u8, Cod.encs_len, bl_len]
      exact key
    · have h1 : ((s.size : Nat) : Int) > 42 := by omega
      simp only [h1, hs, decide_true, decide_false, cond_true, cond_false]
      have z := out_zero (q := brd) (s := plainB s) (isBo_big (by rw [plain_size]; omega))
      rw [isBo_plain] at z
      have z1 := congrArg (fun l => l.headD (.one .nilp)) z
      have z2 := isBo_big (q := lab) (s := s) (by omega)
      simp only [List.headD_cons] at z1
      rw [z1, z2]; rfl
  · cases h
end Go.Proofs.EV.PL
set_option linter.unusedVariables false
set_option linter.unusedSimpArgs false
/-! States on boards; desks; puzzles. -/
namespace Go.Proofs.EV.PL
open Go Go.Proofs Go.Proofs.EV Sp
theorem inR_out {x a b : Int} (h : inR x a b = true) : a ≤ x ∧ x ≤ b := by
  unfold inR at h
  simpa only [Bool.and_eq_true, decide_eq_true_eq] using h
/-! spec_boCell -/
noncomputable def spec_boCell.cfg : Cfg := { C0 with keep := fun _ => none, nb := 0, M := tabM [(86, spec_l1In.stub)], MM := tabB [] }
noncomputable def spec_boCell.res (n : Nat) (a0_0 : Int) (a0_1 : Int) (a0_2 : List (List D)) (a1 : Int) (a2 : Int) : Option (List Q) :=
  bif inR a1 (0 : Int) (IntKind.wrap IntKind.i64 (a0_0 - (1 : Int))) then some [Q.one (D.bool (inR a2 (0 : Int) (IntKind.wrap IntKind.i64 (a0_1 - (1 : Int)))))] else some [Q.one (D.bool false)]
theorem spec_boCell.run (n : Nat) (a0_0 : Int) (a0_1 : Int) (a0_2 : List (List D)) (a1 : Int) (a2 : Int) :
    run1 spec_boCell.cfg [RK.one LK.bool] n Tryd.f106 [Q.agg [D.int IntKind.i64 a0_0, D.int IntKind.i64 a0_1, D.sl (1 : Nat) a0_2], Q.one (D.int IntKind.i64 a1), Q.one (D.int IntKind.i64 a2)] = spec_boCell.res n a0_0 a0_1 a0_2 a1 a2 := by kernel_rfl
theorem spec_boCell.ev {n : Nat} {a0_0 : Int} {a0_1 : Int} {a0_2 : List (List D)} {a1 : Int} {a2 : Int} {r : List Q} (h : spec_boCell.res n a0_0 a0_1 a0_2 a1 a2 = some r) : Snd Tryd.prog C0 106 [.agg [.int .i64 a0_0, .int .i64 a0_1, .sl 1 a0_2], .one (.int .i64 a1), .one (.int .i64 a2)] r :=
  snd_ev (C := spec_boCell.cfg) cfg0 mix rfl rfl rfl rfl rfl (.cons spec_l1In.ok .nil) .nil rfl Tryd.func106 (by kernel_rfl) (by kernel_rfl) rfl ((spec_boCell.run n a0_0 a0_1 a0_2 a1 a2).trans h)

def spec_boCell.stub : Stub
  | [.agg [.int .i64 w, .int .i64 h, .sl 1 _], .one (.int .i64 x), .one (.int .i64 y)] => .gd (Sp.inR w 0 7) (.gd (Sp.inR h 0 7) (.ret [.one (.bool (Sp.inR x 0 (w - 1) && Sp.inR y 0 (h - 1)))]))
  | _ => .fail
theorem spec_boCell.ok : StubOk Tryd.prog C0 106 spec_boCell.stub := by
  intro args res h
  unfold spec_boCell.stub at h
  split at h
  · rename_i w g es x y
    obtain ⟨h1, h⟩ := gd_out h
    obtain ⟨h2, h⟩ := gd_out h
    cases h
    obtain ⟨k1, k2⟩ := inR_out h1
    obtain ⟨k3, k4⟩ := inR_out h2
    refine spec_boCell.ev (n := 0) ?_
    unfold spec_boCell.res
    rw [wrap_in (x := w - 1) (by omega) (by omega), wrap_in (x := g - 1) (by omega) (by omega)]
    cases inR x 0 (w - 1) <;> rfl
  · cases h
/-! spec_boFloor -/
noncomputable def spec_boFloor.cfg : Cfg := { C0 with keep := fun _ => none, nb := 0, M := tabM [(106, spec_boCell.stub)], MM := tabB [] }
noncomputable def spec_boFloor.res (n : Nat) (a0_0 : Int) (a0_1 : Int) (a0_2 : List (List D)) (a1 : Int) (a2 : Int) : Option (List Q) :=
  bif inR a0_0 (0 : Int) (7 : Int) then bif inR a0_1 (0 : Int) (7 : Int) then bif inR a1 (0 : Int) (a0_0 - (1 : Int)) && inR a2 (0 : Int) (a0_1 - (1 : Int)) then bif decide ((0 : Int) ≤ IntKind.wrap IntKind.i64 (IntKind.wrap IntKind.i64 (a2 * a0_0) + a1)) then bif decide (IntKind.wrap IntKind.i64 (IntKind.wrap IntKind.i64 (a2 * a0_0) + a1) < (↑(List.length a0_2) : Int)) then Option.bind (Option.bind (some (cellD a0_2 (Int.toNat (IntKind.wrap IntKind.i64 (IntKind.wrap IntKind.i64 (a2 * a0_0) + a1))) (0 : Nat))) (D.int? IntKind.u8)) fun (i1 : Int) => some [Q.one (D.bool (i1 == (46 : Int)))] else none else none else some [Q.one (D.bool false)] else none else none
theorem spec_boFloor.run (n : Nat) (a0_0 : Int) (a0_1 : Int) (a0_2 : List (List D)) (a1 : Int) (a2 : Int) :
    run1 spec_boFloor.cfg [RK.one LK.bool] n Tryd.f85 [Q.agg [D.int IntKind.i64 a0_0, D.int IntKind.i64 a0_1, D.sl (1 : Nat) a0_2], Q.one (D.int IntKind.i64 a1), Q.one (D.int IntKind.i64 a2)] = spec_boFloor.res n a0_0 a0_1 a0_2 a1 a2 := by kernel_rfl
theorem spec_boFloor.ev {n : Nat} {a0_0 : Int} {a0_1 : Int} {a0_2 : List (List D)} {a1 : Int} {a2 : Int} {r : List Q} (h : spec_boFloor.res n a0_0 a0_1 a0_2 a1 a2 = some r) : Snd Tryd.prog C0 85 [.agg [.int .i64 a0_0, .int .i64 a0_1, .sl 1 a0_2], .one (.int .i64 a1), .one (.int .i64 a2)] r :=
  snd_ev (C := spec_boFloor.cfg) cfg0 mix rfl rfl rfl rfl rfl (.cons spec_boCell.ok .nil) .nil rfl Tryd.func85 (by kernel_rfl) (by kernel_rfl) rfl ((spec_boFloor.run n a0_0 a0_1 a0_2 a1 a2).trans h)

def spec_boFloor.stub : Stub
  | [.agg [.int .i64 w, .int .i64 h, .sl 1 es], .one (.int .i64 x), .one (.int .i64 y)] => .any (u8C.decs es) fun cs => .gd (Sp.inR w 0 7) (.gd (Sp.inR h 0 7) (.gd (decide (cs.length = w.toNat * h.toNat)) (.ret [.one (.bool (Sp.inR x 0 (w - 1) && Sp.inR y 0 (h - 1) && Sp.isDot cs (y.toNat * w.toNat + x.toNat)))])))
  | _ => .fail
theorem spec_boFloor.ok : StubOk Tryd.prog C0 85 spec_boFloor.stub := by
  intro args res h
  unfold spec_boFloor.stub at h
  split at h
  · rename_i w g es x y
    obtain ⟨cs, h1, h0⟩ := any_out h
    obtain ⟨rfl, hl⟩ := Cod.decs_inv h1
    obtain ⟨h2, h0⟩ := gd_out h0
    obtain ⟨h3, h0⟩ := gd_out h0
    obtain ⟨h4, h0⟩ := gd_out h0
    cases h0
    have h4 := of_decide_eq_true h4
    obtain ⟨k1, k2⟩ := inR_out h2
    obtain ⟨k3, k4⟩ := inR_out h3
    refine spec_boFloor.ev (n := 0) ?_
    unfold spec_boFloor.res
    rw [h2, h3]
    cases hh : inR x 0 (w - 1) && inR y 0 (g - 1) with
    | false => rfl
    | true =>
      rw [Bool.and_eq_true] at hh
      obtain ⟨a1, a2⟩ := inR_out hh.1
      obtain ⟨b1, b2⟩ := inR_out hh.2
      obtain ⟨w, rfl⟩ : ∃ n : Nat, w = (n : Int) := ⟨w.toNat, by omega⟩
      obtain ⟨g, rfl⟩ : ∃ n : Nat, g = (n : Int) := ⟨g.toNat, by omega⟩
      obtain ⟨x, rfl⟩ : ∃ n : Nat, x = (n : Int) := ⟨x.toNat, by omega⟩
      obtain ⟨y, rfl⟩ : ∃ n : Nat, y = (n : Int) := ⟨y.toNat, by omega⟩
      simp only [Int.toNat_natCast] at h4 ⊢
      have hy : y * w + x < w * g := by
        have e1 : y * w + x < (y + 1) * w := by rw [Nat.add_mul]; omega
        have e2 : (y + 1) * w ≤ g * w := Nat.mul_le_mul_right _ (by omega)
        rw [Nat.mul_comm w g]; omega
      have hb : w * g ≤ 49 := by
        have := Nat.mul_le_mul (show w ≤ 7 by omega) (show g ≤ 7 by omega)
        omega
      have hm : IntKind.wrap .i64 ((y : Int) * (w : Int)) = ((y * w : Nat) : Int) := by
        rw [← Int.natCast_mul, wrap_in (by omega) (by omega)]
      have hn : IntKind.wrap .i64 (((y * w : Nat) : Int) + (x : Int)) = ((y * w + x : Nat) : Int) := by
        rw [← Int.natCast_add, wrap_in (by omega) (by omega)]
      have hlt : y * w + x < cs.length := by omega
      have hlt' : ((y * w + x : Nat) : Int) < ((cs.length : Nat) : Int) := by omega
      simp only [cond_true, hm, hn, Cod.encs_len, hlt', Int.natCast_nonneg, Int.toNat_natCast, decide_true, u8C_cell hlt, Option.bind_some, Bool.true_and]
      unfold isDot
      rw [List.getD_eq_getElem?_getD, List.getElem?_eq_getElem hlt]
      rfl
  · cases h
/-! spec_boState -/
noncomputable def spec_boState.cfg : Cfg := { C0 with keep := fun _ => none, nb := 0, M := tabM [(85, spec_boFloor.stub), (126, spec_diGood.stub)], MM := tabB [] }
noncomputable def spec_boState.res (n : Nat) (a0_0 : Int) (a0_1 : Int) (a0_2 : List (List D)) (a1_0 : Int) (a1_1 : Int) (a1_2 : Int) (a1_3 : Int) (a1_4 : Int) (a1_5 : Int) (a1_6 : Int) (a1_7 : Int) : Option (List Q) :=
  Option.bind (Cod.decs u8C a0_2) fun (l1 : List UInt8) => bif inR a0_0 (0 : Int) (7 : Int) then bif inR a0_1 (0 : Int) (7 : Int) then bif decide (List.length l1 = Int.toNat a0_0 * Int.toNat a0_1) then bif inR a1_0 (0 : Int) (a0_0 - (1 : Int)) && inR a1_1 (0 : Int) (a0_1 - (1 : Int)) && isDot l1 (Int.toNat a1_1 * Int.toNat a0_0 + Int.toNat a1_0) then some [Q.one (D.bool (Die.good (Die.mk a1_2 a1_3 a1_4 a1_5 a1_6 a1_7)))] else some [Q.one (D.bool false)] else none else none else none
theorem spec_boState.run (n : Nat) (a0_0 : Int) (a0_1 : Int) (a0_2 : List (List D)) (a1_0 : Int) (a1_1 : Int) (a1_2 : Int) (a1_3 : Int) (a1_4 : Int) (a1_5 : Int) (a1_6 : Int) (a1_7 : Int) :
    run1 spec_boState.cfg [RK.one LK.bool] n Tryd.f105 [Q.agg [D.int IntKind.i64 a0_0, D.int IntKind.i64 a0_1, D.sl (1 : Nat) a0_2], Q.agg [D.int IntKind.i64 a1_0, D.int IntKind.i64 a1_1, D.int IntKind.i64 a1_2, D.int IntKind.i64 a1_3, D.int IntKind.i64 a1_4, D.int IntKind.i64 a1_5, D.int IntKind.i64 a1_6, D.int IntKind.i64 a1_7]] = spec_boState.res n a0_0 a0_1 a0_2 a1_0 a1_1 a1_2 a1_3 a1_4 a1_5 a1_6 a1_7 := by kernel_rfl
theorem spec_boState.ev {n : Nat} {a0_0 : Int} {a0_1 : Int} {a0_2 : List (List D)} {a1_0 : Int} {a1_1 : Int} {a1_2 : Int} {a1_3 : Int} {a1_4 : Int} {a1_5 : Int} {a1_6 : Int} {a1_7 : Int} {r : List Q} (h : spec_boState.res n a0_0 a0_1 a0_2 a1_0 a1_1 a1_2 a1_3 a1_4 a1_5 a1_6 a1_7 = some r) : Snd Tryd.prog C0 105 [.agg [.int .i64 a0_0, .int .i64 a0_1, .sl 1 a0_2], .agg [.int .i64 a1_0, .int .i64 a1_1, .int .i64 a1_2, .int .i64 a1_3, .int .i64 a1_4, .int .i64 a1_5, .int .i64 a1_6, .int .i64 a1_7]] r :=
  snd_ev (C := spec_boState.cfg) cfg0 mix rfl rfl rfl rfl rfl (.cons spec_boFloor.ok (.cons spec_diGood.ok .nil)) .nil rfl Tryd.func105 (by kernel_rfl) (by kernel_rfl) rfl ((spec_boState.run n a0_0 a0_1 a0_2 a1_0 a1_1 a1_2 a1_3 a1_4 a1_5 a1_6 a1_7).trans h)

def spec_boState.stub : Stub
  | [.agg [.int .i64 gw, .int .i64 gh, .sl 1 es], .agg [.int .i64 x, .int .i64 y, .int .i64 t, .int .i64 n, .int .i64 e, .int .i64 s, .int .i64 w, .int .i64 b]] => .any (u8C.decs es) fun cs => .gd (Sp.inR gw 0 7) (.gd (Sp.inR gh 0 7) (.gd (decide (cs.length = gw.toNat * gh.toNat)) (.ret [.one (.bool (Sp.inR x 0 (gw - 1) && Sp.inR y 0 (gh - 1) && Sp.isDot cs (y.toNat * gw.toNat + x.toNat) && Sp.Die.good ⟨t, n, e, s, w, b⟩))])))
  | _ => .fail
theorem spec_boState.ok : StubOk Tryd.prog C0 105 spec_boState.stub := by
  intro args res h
  unfold spec_boState.stub at h
  split at h
  · rename_i gw g es x y t n e s w b
    obtain ⟨cs, h1, h0⟩ := any_out h
    obtain ⟨h2, h0⟩ := gd_out h0
    obtain ⟨h3, h0⟩ := gd_out h0
    obtain ⟨h4, h0⟩ := gd_out h0
    cases h0
    refine spec_boState.ev (n := 0) ?_
    unfold spec_boState.res
    rw [h1]
    simp only [Option.bind_some, h2, h3, h4, cond_true]
    cases (inR x 0 (gw - 1) && inR y 0 (g - 1) && isDot cs (y.toNat * gw.toNat + x.toNat)) <;> rfl
  · cases h
theorem bo_ok {q : ByteArray} {p : UInt8 → Bool} (hb : isBo p q = true) : boC p q = (rws q).flatten ∧ boW p q = wOf (rws q) ∧ boH p q = (rws q).length ∧ inR (boW p q : Int) 0 7 = true ∧ inR (boH p q : Int) 0 7 = true ∧ (boC p q).length = boW p q * boH p q ∧ (boC p q).length ≤ LIM := by
  obtain ⟨k1, k2, k3, k4⟩ := isBo_fine hb
  have e1 : boC p q = (rws q).flatten := by unfold boC; rw [hb]; rfl
  have e2 : boW p q = wOf (rws q) := by unfold boW; rw [hb]; rfl
  have e3 : boH p q = (rws q).length := by unfold boH; rw [hb]; rfl
  have e4 : (boC p q).length = boW p q * boH p q := by rw [e1, e2, e3, flat_len k1]
  refine ⟨e1, e2, e3, ?_, ?_, e4, ?_⟩
  · unfold inR
    rw [e2, Bool.and_eq_true, decide_eq_true_eq, decide_eq_true_eq]; omega
  · unfold inR
    rw [e3, Bool.and_eq_true, decide_eq_true_eq, decide_eq_true_eq]; omega
  · rw [e4, e2, e3]; unfold LIM; omega
theorem bo_fl {q : ByteArray} {p : UInt8 → Bool} (hb : isBo p q = true) (x y : Int) : (inR x 0 ((boW p q : Int) - 1) && inR y 0 ((boH p q : Int) - 1) && isDot (boC p q) (y.toNat * (boW p q : Int).toNat + x.toNat)) = isFl (rws q) x y := by
  obtain ⟨e1, e2, e3, _, _, _, _⟩ := bo_ok hb
  obtain ⟨k1, _, _, _⟩ := isBo_fine hb
  rw [isFl_cells k1, e1, e2, e3, Int.toNat_natCast]
  rfl
/-! spec_boAsked -/
noncomputable def spec_boAsked.cfg : Cfg := { C0 with keep := fun _ => none, nb := 0, M := tabM [(53, spec_boRead.stub), (105, spec_boState.stub)], MM := tabB [] }
noncomputable def spec_boAsked.res (n : Nat) (a0 : ByteArray) (a1_0 : Int) (a1_1 : Int) (a1_2 : Int) (a1_3 : Int) (a1_4 : Int) (a1_5 : Int) (a1_6 : Int) (a1_7 : Int) : Option (List Q) :=
  bif isBo brd a0 then Option.bind (Cod.decs u8C (Cod.encs u8C (boC brd a0))) fun (l1 : List UInt8) => bif inR (↑(boW brd a0) : Int) (0 : Int) (7 : Int) then bif inR (↑(boH brd a0) : Int) (0 : Int) (7 : Int) then bif decide (List.length l1 = Int.toNat (↑(boW brd a0) : Int) * Int.toNat (↑(boH brd a0) : Int)) then some [Q.agg [D.int IntKind.i64 (↑(boW brd a0) : Int), D.int IntKind.i64 (↑(boH brd a0) : Int), D.sl (1 : Nat) (Cod.encs u8C (boC brd a0))], Q.one (D.bool (inR a1_0 (0 : Int) ((↑(boW brd a0) : Int) - (1 : Int)) && inR a1_1 (0 : Int) ((↑(boH brd a0) : Int) - (1 : Int)) && isDot l1 (Int.toNat a1_1 * Int.toNat (↑(boW brd a0) : Int) + Int.toNat a1_0) && Die.good (Die.mk a1_2 a1_3 a1_4 a1_5 a1_6 a1_7)))] else none else none else none else some [Q.agg [D.int IntKind.i64 (↑(boW brd a0) : Int), D.int IntKind.i64 (↑(boH brd a0) : Int), D.sl (1 : Nat) (Cod.encs u8C (boC brd a0))], Q.one (D.bool false)]
theorem spec_boAsked.run (n : Nat) (a0 : ByteArray) (a1_0 : Int) (a1_1 : Int) (a1_2 : Int) (a1_3 : Int) (a1_4 : Int) (a1_5 : Int) (a1_6 : Int) (a1_7 : Int) :
    run1 spec_boAsked.cfg [RK.agg [LK.int IntKind.i64, LK.int IntKind.i64, LK.sl (1 : Nat)], RK.one LK.bool] n Tryd.f83 [Q.one (D.str a0), Q.agg [D.int IntKind.i64 a1_0, D.int IntKind.i64 a1_1, D.int IntKind.i64 a1_2, D.int IntKind.i64 a1_3, D.int IntKind.i64 a1_4, D.int IntKind.i64 a1_5, D.int IntKind.i64 a1_6, D.int IntKind.i64 a1_7]] = spec_boAsked.res n a0 a1_0 a1_1 a1_2 a1_3 a1_4 a1_5 a1_6 a1_7 := by kernel_rfl
theorem spec_boAsked.ev {n : Nat} {a0 : ByteArray} {a1_0 : Int} {a1_1 : Int} {a1_2 : Int} {a1_3 : Int} {a1_4 : Int} {a1_5 : Int} {a1_6 : Int} {a1_7 : Int} {r : List Q} (h : spec_boAsked.res n a0 a1_0 a1_1 a1_2 a1_3 a1_4 a1_5 a1_6 a1_7 = some r) : Snd Tryd.prog C0 83 [.one (.str a0), .agg [.int .i64 a1_0, .int .i64 a1_1, .int .i64 a1_2, .int .i64 a1_3, .int .i64 a1_4, .int .i64 a1_5, .int .i64 a1_6, .int .i64 a1_7]] r :=
  snd_ev (C := spec_boAsked.cfg) cfg0 mix rfl rfl rfl rfl rfl (.cons spec_boRead.ok (.cons spec_boState.ok .nil)) .nil rfl Tryd.func83 (by kernel_rfl) (by kernel_rfl) rfl ((spec_boAsked.run n a0 a1_0 a1_1 a1_2 a1_3 a1_4 a1_5 a1_6 a1_7).trans h)

def spec_boAsked.stub : Stub
  | [.one (.str q), .agg [.int .i64 x, .int .i64 y, .int .i64 t, .int .i64 n, .int .i64 e, .int .i64 s, .int .i64 w, .int .i64 b]] => .ret [.agg [.int .i64 (Sp.boW Sp.brd q : Nat), .int .i64 (Sp.boH Sp.brd q : Nat), .sl 1 (u8C.encs (Sp.boC Sp.brd q))], .one (.bool (Sp.isBo Sp.brd q && (Sp.Die.good ⟨t, n, e, s, w, b⟩ && Sp.isFl (Sp.rws q) x y)))]
  | _ => .fail
theorem spec_boAsked.ok : StubOk Tryd.prog C0 83 spec_boAsked.stub := by
  intro args res h
  unfold spec_boAsked.stub at h
  split at h
  · rename_i q x y t n e s w b
    cases h
    refine spec_boAsked.ev (n := 0) ?_
    unfold spec_boAsked.res
    cases hb : isBo brd q with
    | false => rfl
    | true =>
      obtain ⟨e1, e2, e3, e4, e5, e6, e7⟩ := bo_ok hb
      have e6' : (boC brd q).length = (boW brd q : Int).toNat * (boH brd q : Int).toNat := by rw [Int.toNat_natCast, Int.toNat_natCast, e6]
      simp only [cond_true, Cod.decs_encs e7, Option.bind_some, e4, e5, decide_eq_true e6', bo_fl hb, Bool.true_and]
      rw [Bool.and_comm (isFl (rws q) x y)]
  · cases h
/-! spec_coGood -/
noncomputable def spec_coGood.cfg : Cfg := { C0 with keep := fun _ => none, nb := 0, M := tabM [(83, spec_boAsked.stub)], MM := tabB [] }
noncomputable def spec_coGood.res (n : Nat) (a0_0 : ByteArray) (a0_1 : Int) (a0_2 : Int) (a0_3 : Int) (a0_4 : Int) (a0_5 : Int) (a0_6 : Int) (a0_7 : Int) (a0_8 : Int) : Option (List Q) :=
  some [Q.one (D.bool (isBo brd a0_0 && (Die.good (Die.mk a0_3 a0_4 a0_5 a0_6 a0_7 a0_8) && isFl (rws a0_0) a0_1 a0_2)))]
theorem spec_coGood.run (n : Nat) (a0_0 : ByteArray) (a0_1 : Int) (a0_2 : Int) (a0_3 : Int) (a0_4 : Int) (a0_5 : Int) (a0_6 : Int) (a0_7 : Int) (a0_8 : Int) :
    run1 spec_coGood.cfg [RK.one LK.bool] n Tryd.f48 [Q.agg [D.str a0_0, D.int IntKind.i64 a0_1, D.int IntKind.i64 a0_2, D.int IntKind.i64 a0_3, D.int IntKind.i64 a0_4, D.int IntKind.i64 a0_5, D.int IntKind.i64 a0_6, D.int IntKind.i64 a0_7, D.int IntKind.i64 a0_8]] = spec_coGood.res n a0_0 a0_1 a0_2 a0_3 a0_4 a0_5 a0_6 a0_7 a0_8 := by kernel_rfl
theorem spec_coGood.ev {n : Nat} {a0_0 : ByteArray} {a0_1 : Int} {a0_2 : Int} {a0_3 : Int} {a0_4 : Int} {a0_5 : Int} {a0_6 : Int} {a0_7 : Int} {a0_8 : Int} {r : List Q} (h : spec_coGood.res n a0_0 a0_1 a0_2 a0_3 a0_4 a0_5 a0_6 a0_7 a0_8 = some r) : Snd Tryd.prog C0 48 [.agg [.str a0_0, .int .i64 a0_1, .int .i64 a0_2, .int .i64 a0_3, .int .i64 a0_4, .int .i64 a0_5, .int .i64 a0_6, .int .i64 a0_7, .int .i64 a0_8]] r :=
  snd_ev (C := spec_coGood.cfg) cfg0 mix rfl rfl rfl rfl rfl (.cons spec_boAsked.ok .nil) .nil rfl Tryd.func48 (by kernel_rfl) (by kernel_rfl) rfl ((spec_coGood.run n a0_0 a0_1 a0_2 a0_3 a0_4 a0_5 a0_6 a0_7 a0_8).trans h)

def spec_coGood.stub : Stub
  | [.agg [.str q, .int .i64 x, .int .i64 y, .int .i64 t, .int .i64 n, .int .i64 e, .int .i64 s, .int .i64 w, .int .i64 b]] => .ret [.one (.bool (Sp.isBo Sp.brd q && (Sp.Die.good ⟨t, n, e, s, w, b⟩ && Sp.isFl (Sp.rws q) x y)))]
  | _ => .fail
theorem spec_coGood.ok : StubOk Tryd.prog C0 48 spec_coGood.stub := by
  intro args res h
  unfold spec_coGood.stub at h
  split at h
  · cases h
    exact spec_coGood.ev (n := 0) rfl
  · cases h
/-! spec_IsDesk -/
noncomputable def spec_IsDesk.cfg : Cfg := { C0 with keep := fun _ => none, nb := 0, M := tabM [(48, spec_coGood.stub)], MM := tabB [] }
noncomputable def spec_IsDesk.res (n : Nat) (a0_0 : ByteArray) (a0_1 : Int) (a0_2 : Int) (a0_3 : Int) (a0_4 : Int) (a0_5 : Int) (a0_6 : Int) (a0_7 : Int) (a0_8 : Int) : Option (List Q) :=
  some [Q.one (D.bool (isBo brd a0_0 && (Die.good (Die.mk a0_3 a0_4 a0_5 a0_6 a0_7 a0_8) && isFl (rws a0_0) a0_1 a0_2)))]
theorem spec_IsDesk.run (n : Nat) (a0_0 : ByteArray) (a0_1 : Int) (a0_2 : Int) (a0_3 : Int) (a0_4 : Int) (a0_5 : Int) (a0_6 : Int) (a0_7 : Int) (a0_8 : Int) :
    run1 spec_IsDesk.cfg [RK.one LK.bool] n Tryd.f16 [Q.agg [D.str a0_0, D.int IntKind.i64 a0_1, D.int IntKind.i64 a0_2, D.int IntKind.i64 a0_3, D.int IntKind.i64 a0_4, D.int IntKind.i64 a0_5, D.int IntKind.i64 a0_6, D.int IntKind.i64 a0_7, D.int IntKind.i64 a0_8]] = spec_IsDesk.res n a0_0 a0_1 a0_2 a0_3 a0_4 a0_5 a0_6 a0_7 a0_8 := by kernel_rfl
theorem spec_IsDesk.ev {n : Nat} {a0_0 : ByteArray} {a0_1 : Int} {a0_2 : Int} {a0_3 : Int} {a0_4 : Int} {a0_5 : Int} {a0_6 : Int} {a0_7 : Int} {a0_8 : Int} {r : List Q} (h : spec_IsDesk.res n a0_0 a0_1 a0_2 a0_3 a0_4 a0_5 a0_6 a0_7 a0_8 = some r) : Snd Tryd.prog C0 16 [.agg [.str a0_0, .int .i64 a0_1, .int .i64 a0_2, .int .i64 a0_3, .int .i64 a0_4, .int .i64 a0_5, .int .i64 a0_6, .int .i64 a0_7, .int .i64 a0_8]] r :=
  snd_ev (C := spec_IsDesk.cfg) cfg0 mix rfl rfl rfl rfl rfl (.cons spec_coGood.ok .nil) .nil rfl Tryd.func16 (by kernel_rfl) (by kernel_rfl) rfl ((spec_IsDesk.run n a0_0 a0_1 a0_2 a0_3 a0_4 a0_5 a0_6 a0_7 a0_8).trans h)

def spec_IsDesk.stub : Stub
  | [.agg [.str q, .int .i64 x, .int .i64 y, .int .i64 t, .int .i64 n, .int .i64 e, .int .i64 s, .int .i64 w, .int .i64 b]] => .ret [.one (.bool (Sp.isBo Sp.brd q && (Sp.Die.good ⟨t, n, e, s, w, b⟩ && Sp.isFl (Sp.rws q) x y)))]
  | _ => .fail
theorem spec_IsDesk.ok : StubOk Tryd.prog C0 16 spec_IsDesk.stub := by
  intro args res h
  unfold spec_IsDesk.stub at h
  split at h
  · cases h
    exact spec_IsDesk.ev (n := 0) rfl
  · cases h
/-! spec_puGood -/
noncomputable def spec_puGood.cfg : Cfg := { C0 with keep := fun _ => none, nb := 0, M := tabM [(83, spec_boAsked.stub), (85, spec_boFloor.stub), (86, spec_l1In.stub)], MM := tabB [] }
noncomputable def spec_puGood.res (n : Nat) (a0_0 : ByteArray) (a0_1 : Int) (a0_2 : Int) (a0_3 : Int) (a0_4 : Int) (a0_5 : Int) (a0_6 : Int) (a0_7 : Int) (a0_8 : Int) (a0_9 : Int) (a0_10 : Int) (a0_11 : Int) : Option (List Q) :=
  bif isBo brd a0_0 && (Die.good (Die.mk a0_3 a0_4 a0_5 a0_6 a0_7 a0_8) && isFl (rws a0_0) a0_1 a0_2) then Option.bind (Cod.decs u8C (Cod.encs u8C (boC brd a0_0))) fun (l1 : List UInt8) => bif inR (↑(boW brd a0_0) : Int) (0 : Int) (7 : Int) then bif inR (↑(boH brd a0_0) : Int) (0 : Int) (7 : Int) then bif decide (List.length l1 = Int.toNat (↑(boW brd a0_0) : Int) * Int.toNat (↑(boH brd a0_0) : Int)) then bif inR a0_9 (0 : Int) ((↑(boW brd a0_0) : Int) - (1 : Int)) && inR a0_10 (0 : Int) ((↑(boH brd a0_0) : Int) - (1 : Int)) && isDot l1 (Int.toNat a0_10 * Int.toNat (↑(boW brd a0_0) : Int) + Int.toNat a0_9) then some [Q.one (D.bool (inR a0_11 (0 : Int) (9 : Int)))] else some [Q.one (D.bool false)] else none else none else none else some [Q.one (D.bool false)]
theorem spec_puGood.run (n : Nat) (a0_0 : ByteArray) (a0_1 : Int) (a0_2 : Int) (a0_3 : Int) (a0_4 : Int) (a0_5 : Int) (a0_6 : Int) (a0_7 : Int) (a0_8 : Int) (a0_9 : Int) (a0_10 : Int) (a0_11 : Int) :
    run1 spec_puGood.cfg [RK.one LK.bool] n Tryd.f50 [Q.agg [D.str a0_0, D.int IntKind.i64 a0_1, D.int IntKind.i64 a0_2, D.int IntKind.i64 a0_3, D.int IntKind.i64 a0_4, D.int IntKind.i64 a0_5, D.int IntKind.i64 a0_6, D.int IntKind.i64 a0_7, D.int IntKind.i64 a0_8, D.int IntKind.i64 a0_9, D.int IntKind.i64 a0_10, D.int IntKind.i64 a0_11]] = spec_puGood.res n a0_0 a0_1 a0_2 a0_3 a0_4 a0_5 a0_6 a0_7 a0_8 a0_9 a0_10 a0_11 := by kernel_rfl
theorem spec_puGood.ev {n : Nat} {a0_0 : ByteArray} {a0_1 : Int} {a0_2 : Int} {a0_3 : Int} {a0_4 : Int} {a0_5 : Int} {a0_6 : Int} {a0_7 : Int} {a0_8 : Int} {a0_9 : Int} {a0_10 : Int} {a0_11 : Int} {r : List Q} (h : spec_puGood.res n a0_0 a0_1 a0_2 a0_3 a0_4 a0_5 a0_6 a0_7 a0_8 a0_9 a0_10 a0_11 = some r) : Snd Tryd.prog C0 50 [.agg [.str a0_0, .int .i64 a0_1, .int .i64 a0_2, .int .i64 a0_3, .int .i64 a0_4, .int .i64 a0_5, .int .i64 a0_6, .int .i64 a0_7, .int .i64 a0_8, .int .i64 a0_9, .int .i64 a0_10, .int .i64 a0_11]] r :=
  snd_ev (C := spec_puGood.cfg) cfg0 mix rfl rfl rfl rfl rfl (.cons spec_boAsked.ok (.cons spec_boFloor.ok (.cons spec_l1In.ok .nil))) .nil rfl Tryd.func50 (by kernel_rfl) (by kernel_rfl) rfl ((spec_puGood.run n a0_0 a0_1 a0_2 a0_3 a0_4 a0_5 a0_6 a0_7 a0_8 a0_9 a0_10 a0_11).trans h)

def spec_puGood.stub : Stub
  | [.agg [.str q, .int .i64 x, .int .i64 y, .int .i64 t, .int .i64 n, .int .i64 e, .int .i64 s, .int .i64 w, .int .i64 b, .int .i64 px, .int .i64 py, .int .i64 pt]] => .ret [.one (.bool (Sp.isBo Sp.brd q && (Sp.Die.good ⟨t, n, e, s, w, b⟩ && Sp.isFl (Sp.rws q) x y) && (Sp.isFl (Sp.rws q) px py && Sp.inR pt 0 9)))]
  | _ => .fail
theorem spec_puGood.ok : StubOk Tryd.prog C0 50 spec_puGood.stub := by
  intro args res h
  unfold spec_puGood.stub at h
  split at h
  · rename_i q x y t n e s w b px py pt
    cases h
    refine spec_puGood.ev (n := 0) ?_
    unfold spec_puGood.res
    cases hh : isBo brd q && (Die.good ⟨t, n, e, s, w, b⟩ && isFl (rws q) x y) with
    | false => rfl
    | true =>
      have hb : isBo brd q = true := by
        rw [Bool.and_eq_true] at hh
        exact hh.1
      obtain ⟨e1, e2, e3, e4, e5, e6, e7⟩ := bo_ok hb
      have e6' : (boC brd q).length = (boW brd q : Int).toNat * (boH brd q : Int).toNat := by rw [Int.toNat_natCast, Int.toNat_natCast, e6]
      simp only [cond_true, Cod.decs_encs e7, Option.bind_some, e4, e5, decide_eq_true e6', bo_fl hb, Bool.true_and]
      cases isFl (rws q) px py <;> rfl
  · cases h
/-! spec_IsPuzzle -/
noncomputable def spec_IsPuzzle.cfg : Cfg := { C0 with keep := fun _ => none, nb := 0, M := tabM [(50, spec_puGood.stub)], MM := tabB [] }
noncomputable def spec_IsPuzzle.res (n : Nat) (a0_0 : ByteArray) (a0_1 : Int) (a0_2 : Int) (a0_3 : Int) (a0_4 : Int) (a0_5 : Int) (a0_6 : Int) (a0_7 : Int) (a0_8 : Int) (a0_9 : Int) (a0_10 : Int) (a0_11 : Int) : Option (List Q) :=
  some [Q.one (D.bool (isBo brd a0_0 && (Die.good (Die.mk a0_3 a0_4 a0_5 a0_6 a0_7 a0_8) && isFl (rws a0_0) a0_1 a0_2) && (isFl (rws a0_0) a0_9 a0_10 && inR a0_11 (0 : Int) (9 : Int))))]
theorem spec_IsPuzzle.run (n : Nat) (a0_0 : ByteArray) (a0_1 : Int) (a0_2 : Int) (a0_3 : Int) (a0_4 : Int) (a0_5 : Int) (a0_6 : Int) (a0_7 : Int) (a0_8 : Int) (a0_9 : Int) (a0_10 : Int) (a0_11 : Int) :
    run1 spec_IsPuzzle.cfg [RK.one LK.bool] n Tryd.f20 [Q.agg [D.str a0_0, D.int IntKind.i64 a0_1, D.int IntKind.i64 a0_2, D.int IntKind.i64 a0_3, D.int IntKind.i64 a0_4, D.int IntKind.i64 a0_5, D.int IntKind.i64 a0_6, D.int IntKind.i64 a0_7, D.int IntKind.i64 a0_8, D.int IntKind.i64 a0_9, D.int IntKind.i64 a0_10, D.int IntKind.i64 a0_11]] = spec_IsPuzzle.res n a0_0 a0_1 a0_2 a0_3 a0_4 a0_5 a0_6 a0_7 a0_8 a0_9 a0_10 a0_11 := by kernel_rfl
theorem spec_IsPuzzle.ev {n : Nat} {a0_0 : ByteArray} {a0_1 : Int} {a0_2 : Int} {a0_3 : Int} {a0_4 : Int} {a0_5 : Int} {a0_6 : Int} {a0_7 : Int} {a0_8 : Int} {a0_9 : Int} {a0_10 : Int} {a0_11 : Int} {r : List Q} (h : spec_IsPuzzle.res n a0_0 a0_1 a0_2 a0_3 a0_4 a0_5 a0_6 a0_7 a0_8 a0_9 a0_10 a0_11 = some r) : Snd Tryd.prog C0 20 [.agg [.str a0_0, .int .i64 a0_1, .int .i64 a0_2, .int .i64 a0_3, .int .i64 a0_4, .int .i64 a0_5, .int .i64 a0_6, .int .i64 a0_7, .int .i64 a0_8, .int .i64 a0_9, .int .i64 a0_10, .int .i64 a0_11]] r :=
  snd_ev (C := spec_IsPuzzle.cfg) cfg0 mix rfl rfl rfl rfl rfl (.cons spec_puGood.ok .nil) .nil rfl Tryd.func20 (by kernel_rfl) (by kernel_rfl) rfl ((spec_IsPuzzle.run n a0_0 a0_1 a0_2 a0_3 a0_4 a0_5 a0_6 a0_7 a0_8 a0_9 a0_10 a0_11).trans h)

def spec_IsPuzzle.stub : Stub
  | [.agg [.str q, .int .i64 x, .int .i64 y, .int .i64 t, .int .i64 n, .int .i64 e, .int .i64 s, .int .i64 w, .int .i64 b, .int .i64 px, .int .i64 py, .int .i64 pt]] => .ret [.one (.bool (Sp.isBo Sp.brd q && (Sp.Die.good ⟨t, n, e, s, w, b⟩ && Sp.isFl (Sp.rws q) x y) && (Sp.isFl (Sp.rws q) px py && Sp.inR pt 0 9)))]
  | _ => .fail
theorem spec_IsPuzzle.ok : StubOk Tryd.prog C0 20 spec_IsPuzzle.stub := by
  intro args res h
  unfold spec_IsPuzzle.stub at h
  split at h
  · cases h
    exact spec_IsPuzzle.ev (n := 0) rfl
  · cases h
/-! impl_IsDesk -/
noncomputable def impl_IsDesk.cfg : Cfg := { C0 with keep := fun _ => none, nb := 0, M := tabM [(49, impl_onBoard.stub)], MM := tabB [] }
noncomputable def impl_IsDesk.res (n : Nat) (a0_0 : ByteArray) (a0_1 : Int) (a0_2 : Int) (a0_3 : Int) (a0_4 : Int) (a0_5 : Int) (a0_6 : Int) (a0_7 : Int) (a0_8 : Int) : Option (List Q) :=
  bif decide (ByteArray.size a0_0 < (17179869184 : Nat)) then some [Q.one (D.bool (isBo brd a0_0 && (Die.good (Die.mk a0_3 a0_4 a0_5 a0_6 a0_7 a0_8) && isFl (rws a0_0) a0_1 a0_2)))] else none
theorem impl_IsDesk.run (n : Nat) (a0_0 : ByteArray) (a0_1 : Int) (a0_2 : Int) (a0_3 : Int) (a0_4 : Int) (a0_5 : Int) (a0_6 : Int) (a0_7 : Int) (a0_8 : Int) :
    run1 impl_IsDesk.cfg [RK.one LK.bool] n Tryd.f18 [Q.agg [D.str a0_0, D.int IntKind.i64 a0_1, D.int IntKind.i64 a0_2, D.int IntKind.i64 a0_3, D.int IntKind.i64 a0_4, D.int IntKind.i64 a0_5, D.int IntKind.i64 a0_6, D.int IntKind.i64 a0_7, D.int IntKind.i64 a0_8]] = impl_IsDesk.res n a0_0 a0_1 a0_2 a0_3 a0_4 a0_5 a0_6 a0_7 a0_8 := by kernel_rfl
theorem impl_IsDesk.ev {n : Nat} {a0_0 : ByteArray} {a0_1 : Int} {a0_2 : Int} {a0_3 : Int} {a0_4 : Int} {a0_5 : Int} {a0_6 : Int} {a0_7 : Int} {a0_8 : Int} {r : List Q} (h : impl_IsDesk.res n a0_0 a0_1 a0_2 a0_3 a0_4 a0_5 a0_6 a0_7 a0_8 = some r) : Snd Tryd.prog C0 18 [.agg [.str a0_0, .int .i64 a0_1, .int .i64 a0_2, .int .i64 a0_3, .int .i64 a0_4, .int .i64 a0_5, .int .i64 a0_6, .int .i64 a0_7, .int .i64 a0_8]] r :=
  snd_ev (C := impl_IsDesk.cfg) cfg0 mix rfl rfl rfl rfl rfl (.cons impl_onBoard.ok .nil) .nil rfl Tryd.func18 (by kernel_rfl) (by kernel_rfl) rfl ((impl_IsDesk.run n a0_0 a0_1 a0_2 a0_3 a0_4 a0_5 a0_6 a0_7 a0_8).trans h)

def impl_IsDesk.stub : Stub
  | [.agg [.str q, .int .i64 x, .int .i64 y, .int .i64 t, .int .i64 n, .int .i64 e, .int .i64 s, .int .i64 w, .int .i64 b]] => .gd (decide (q.size < LIM)) (.ret [.one (.bool (Sp.isBo Sp.brd q && (Sp.Die.good ⟨t, n, e, s, w, b⟩ && Sp.isFl (Sp.rws q) x y)))])
  | _ => .fail
theorem impl_IsDesk.ok : StubOk Tryd.prog C0 18 impl_IsDesk.stub := by
  intro args res h
  unfold impl_IsDesk.stub at h
  split at h
  · obtain ⟨h1, h0⟩ := gd_out h
    cases h0
    refine impl_IsDesk.ev (n := 0) ?_
    unfold impl_IsDesk.res
    unfold LIM at h1
    rw [h1]; rfl
  · cases h
/-! impl_IsPuzzle -/
noncomputable def impl_IsPuzzle.cfg : Cfg := { C0 with keep := fun _ => none, nb := 0, M := tabM [(49, impl_onBoard.stub), (51, impl_grid_at.stub), (52, impl_in.stub)], MM := tabB [] }
noncomputable def impl_IsPuzzle.res (n : Nat) (a0_0 : ByteArray) (a0_1 : Int) (a0_2 : Int) (a0_3 : Int) (a0_4 : Int) (a0_5 : Int) (a0_6 : Int) (a0_7 : Int) (a0_8 : Int) (a0_9 : Int) (a0_10 : Int) (a0_11 : Int) : Option (List Q) :=
  bif decide (ByteArray.size a0_0 < (17179869184 : Nat)) then bif isBo brd a0_0 && (Die.good (Die.mk a0_3 a0_4 a0_5 a0_6 a0_7 a0_8) && isFl (rws a0_0) a0_1 a0_2) then Option.bind (Cod.decs strC (Cod.encs strC (gridI brd a0_0))) fun (l1 : List ByteArray) => bif unif (lb l1) then bif decide (List.length l1 ≤ (17179869184 : Nat)) then bif decide (wOf (lb l1) ≤ (17179869184 : Nat)) then bif atZ (lb l1) a0_9 a0_10 == (46 : Int) then some [Q.one (D.bool (inR a0_11 (0 : Int) (9 : Int)))] else some [Q.one (D.bool false)] else none else none else none else some [Q.one (D.bool false)] else none
theorem impl_IsPuzzle.run (n : Nat) (a0_0 : ByteArray) (a0_1 : Int) (a0_2 : Int) (a0_3 : Int) (a0_4 : Int) (a0_5 : Int) (a0_6 : Int) (a0_7 : Int) (a0_8 : Int) (a0_9 : Int) (a0_10 : Int) (a0_11 : Int) :
    run1 impl_IsPuzzle.cfg [RK.one LK.bool] n Tryd.f22 [Q.agg [D.str a0_0, D.int IntKind.i64 a0_1, D.int IntKind.i64 a0_2, D.int IntKind.i64 a0_3, D.int IntKind.i64 a0_4, D.int IntKind.i64 a0_5, D.int IntKind.i64 a0_6, D.int IntKind.i64 a0_7, D.int IntKind.i64 a0_8, D.int IntKind.i64 a0_9, D.int IntKind.i64 a0_10, D.int IntKind.i64 a0_11]] = impl_IsPuzzle.res n a0_0 a0_1 a0_2 a0_3 a0_4 a0_5 a0_6 a0_7 a0_8 a0_9 a0_10 a0_11 := by kernel_rfl
theorem impl_IsPuzzle.ev {n : Nat} {a0_0 : ByteArray} {a0_1 : Int} {a0_2 : Int} {a0_3 : Int} {a0_4 : Int} {a0_5 : Int} {a0_6 : Int} {a0_7 : Int} {a0_8 : Int} {a0_9 : Int} {a0_10 : Int} {a0_11 : Int} {r : List Q} (h : impl_IsPuzzle.res n a0_0 a0_1 a0_2 a0_3 a0_4 a0_5 a0_6 a0_7 a0_8 a0_9 a0_10 a0_11 = some r) : Snd Tryd.prog C0 22 [.agg [.str a0_0, .int .i64 a0_1, .int .i64 a0_2, .int .i64 a0_3, .int .i64 a0_4, .int .i64 a0_5, .int .i64 a0_6, .int .i64 a0_7, .int .i64 a0_8, .int .i64 a0_9, .int .i64 a0_10, .int .i64 a0_11]] r :=
  snd_ev (C := impl_IsPuzzle.cfg) cfg0 mix rfl rfl rfl rfl rfl (.cons impl_onBoard.ok (.cons impl_grid_at.ok (.cons impl_in.ok .nil))) .nil rfl Tryd.func22 (by kernel_rfl) (by kernel_rfl) rfl ((impl_IsPuzzle.run n a0_0 a0_1 a0_2 a0_3 a0_4 a0_5 a0_6 a0_7 a0_8 a0_9 a0_10 a0_11).trans h)

def impl_IsPuzzle.stub : Stub
  | [.agg [.str q, .int .i64 x, .int .i64 y, .int .i64 t, .int .i64 n, .int .i64 e, .int .i64 s, .int .i64 w, .int .i64 b, .int .i64 px, .int .i64 py, .int .i64 pt]] => .gd (decide (q.size < LIM)) (.ret [.one (.bool (Sp.isBo Sp.brd q && (Sp.Die.good ⟨t, n, e, s, w, b⟩ && Sp.isFl (Sp.rws q) x y) && (Sp.isFl (Sp.rws q) px py && Sp.inR pt 0 9)))])
  | _ => .fail
theorem gr_ok {q : ByteArray} {p : UInt8 → Bool} (hb : isBo p q = true) : lb (gridI p q) = rws q ∧ unif (rws q) = true ∧ (gridI p q).length ≤ 7 ∧ wOf (rws q) ≤ 7 ∧ strC.decs (strC.encs (gridI p q)) = some (gridI p q) ∧ (gridI p q).length = (rws q).length := by
  obtain ⟨k1, k2, k3, k4⟩ := isBo_fine hb
  have hr := bl_rows p q hb
  have hlen : (gridI p q).length = (rws q).length := by rw [← hr, lb_len]
  exact ⟨hr, k1, by omega, by omega, Cod.decs_encs (by unfold LIM; omega), hlen⟩
theorem impl_IsPuzzle.ok : StubOk Tryd.prog C0 22 impl_IsPuzzle.stub := by
  intro args res h
  unfold impl_IsPuzzle.stub at h
  split at h
  · rename_i q x y t n e s w b px py pt
    obtain ⟨h1, h0⟩ := gd_out h
    cases h0
    unfold LIM at h1
    refine impl_IsPuzzle.ev (n := 0) ?_
    unfold impl_IsPuzzle.res
    rw [h1]
    cases hh : isBo brd q && (Die.good ⟨t, n, e, s, w, b⟩ && isFl (rws q) x y) with
    | false => rfl
    | true =>
      have hb : isBo brd q = true := by
        rw [Bool.and_eq_true] at hh
        exact hh.1
      obtain ⟨k1, k2, k3, k4, k5, k6⟩ := gr_ok hb
      have k3' : (gridI brd q).length ≤ 17179869184 := by omega
      have k4' : wOf (rws q) ≤ 17179869184 := by omega
      simp only [cond_true, k5, Option.bind_some, k1, k2, k3', k4', decide_true, Bool.true_and]
      rw [show (atZ (rws q) px py == 46) = isFl (rws q) px py from rfl]
      cases isFl (rws q) px py <;> rfl
  · cases h
/-! laws_toDie -/
noncomputable def laws_toDie.cfg : Cfg := { C0 with keep := fun _ => none, nb := 0, M := tabM [], MM := tabB [] }
noncomputable def laws_toDie.res (n : Nat) (a0_0 : Int) (a0_1 : Int) (a0_2 : Int) (a0_3 : Int) (a0_4 : Int) (a0_5 : Int) : Option (List Q) :=
  some [Q.agg [D.int IntKind.i64 a0_0, D.int IntKind.i64 a0_1, D.int IntKind.i64 a0_2, D.int IntKind.i64 a0_3, D.int IntKind.i64 a0_4, D.int IntKind.i64 a0_5]]
theorem laws_toDie.run (n : Nat) (a0_0 : Int) (a0_1 : Int) (a0_2 : Int) (a0_3 : Int) (a0_4 : Int) (a0_5 : Int) :
    run1 laws_toDie.cfg [RK.agg [LK.int IntKind.i64, LK.int IntKind.i64, LK.int IntKind.i64, LK.int IntKind.i64, LK.int IntKind.i64, LK.int IntKind.i64]] n Tryd.f79 [Q.agg [D.int IntKind.i64 a0_0, D.int IntKind.i64 a0_1, D.int IntKind.i64 a0_2, D.int IntKind.i64 a0_3, D.int IntKind.i64 a0_4, D.int IntKind.i64 a0_5]] = laws_toDie.res n a0_0 a0_1 a0_2 a0_3 a0_4 a0_5 := by kernel_rfl
theorem laws_toDie.ev {n : Nat} {a0_0 : Int} {a0_1 : Int} {a0_2 : Int} {a0_3 : Int} {a0_4 : Int} {a0_5 : Int} {r : List Q} (h : laws_toDie.res n a0_0 a0_1 a0_2 a0_3 a0_4 a0_5 = some r) : Snd Tryd.prog C0 79 [.agg [.int .i64 a0_0, .int .i64 a0_1, .int .i64 a0_2, .int .i64 a0_3, .int .i64 a0_4, .int .i64 a0_5]] r :=
  snd_ev (C := laws_toDie.cfg) cfg0 mix rfl rfl rfl rfl rfl .nil .nil rfl Tryd.func79 (by kernel_rfl) (by kernel_rfl) rfl ((laws_toDie.run n a0_0 a0_1 a0_2 a0_3 a0_4 a0_5).trans h)

def laws_toDie.stub : Stub
  | [.agg [.int .i64 t, .int .i64 n, .int .i64 e, .int .i64 s, .int .i64 w, .int .i64 b]] => .ret [.agg [.int .i64 t, .int .i64 n, .int .i64 e, .int .i64 s, .int .i64 w, .int .i64 b]]
  | _ => .fail
theorem laws_toDie.ok : StubOk Tryd.prog C0 79 laws_toDie.stub := by
  intro args res h
  unfold laws_toDie.stub at h
  split at h
  · cases h
    exact laws_toDie.ev (n := 0) rfl
  · cases h
/-! laws_toState -/
noncomputable def laws_toState.cfg : Cfg := { C0 with keep := fun _ => none, nb := 0, M := tabM [(79, laws_toDie.stub)], MM := tabB [] }
noncomputable def laws_toState.res (n : Nat) (a0_0 : Int) (a0_1 : Int) (a0_2 : Int) (a0_3 : Int) (a0_4 : Int) (a0_5 : Int) (a0_6 : Int) (a0_7 : Int) : Option (List Q) :=
  some [Q.agg [D.int IntKind.i64 a0_0, D.int IntKind.i64 a0_1, D.int IntKind.i64 a0_2, D.int IntKind.i64 a0_3, D.int IntKind.i64 a0_4, D.int IntKind.i64 a0_5, D.int IntKind.i64 a0_6, D.int IntKind.i64 a0_7]]
theorem laws_toState.run (n : Nat) (a0_0 : Int) (a0_1 : Int) (a0_2 : Int) (a0_3 : Int) (a0_4 : Int) (a0_5 : Int) (a0_6 : Int) (a0_7 : Int) :
    run1 laws_toState.cfg [RK.agg [LK.int IntKind.i64, LK.int IntKind.i64, LK.int IntKind.i64, LK.int IntKind.i64, LK.int IntKind.i64, LK.int IntKind.i64, LK.int IntKind.i64, LK.int IntKind.i64]] n Tryd.f44 [Q.agg [D.int IntKind.i64 a0_0, D.int IntKind.i64 a0_1, D.int IntKind.i64 a0_2, D.int IntKind.i64 a0_3, D.int IntKind.i64 a0_4, D.int IntKind.i64 a0_5, D.int IntKind.i64 a0_6, D.int IntKind.i64 a0_7]] = laws_toState.res n a0_0 a0_1 a0_2 a0_3 a0_4 a0_5 a0_6 a0_7 := by kernel_rfl
theorem laws_toState.ev {n : Nat} {a0_0 : Int} {a0_1 : Int} {a0_2 : Int} {a0_3 : Int} {a0_4 : Int} {a0_5 : Int} {a0_6 : Int} {a0_7 : Int} {r : List Q} (h : laws_toState.res n a0_0 a0_1 a0_2 a0_3 a0_4 a0_5 a0_6 a0_7 = some r) : Snd Tryd.prog C0 44 [.agg [.int .i64 a0_0, .int .i64 a0_1, .int .i64 a0_2, .int .i64 a0_3, .int .i64 a0_4, .int .i64 a0_5, .int .i64 a0_6, .int .i64 a0_7]] r :=
  snd_ev (C := laws_toState.cfg) cfg0 mix rfl rfl rfl rfl rfl (.cons laws_toDie.ok .nil) .nil rfl Tryd.func44 (by kernel_rfl) (by kernel_rfl) rfl ((laws_toState.run n a0_0 a0_1 a0_2 a0_3 a0_4 a0_5 a0_6 a0_7).trans h)

def laws_toState.stub : Stub
  | [.agg [.int .i64 x, .int .i64 y, .int .i64 t, .int .i64 n, .int .i64 e, .int .i64 s, .int .i64 w, .int .i64 b]] => .ret [.agg [.int .i64 x, .int .i64 y, .int .i64 t, .int .i64 n, .int .i64 e, .int .i64 s, .int .i64 w, .int .i64 b]]
  | _ => .fail
theorem laws_toState.ok : StubOk Tryd.prog C0 44 laws_toState.stub := by
  intro args res h
  unfold laws_toState.stub at h
  split at h
  · cases h
    exact laws_toState.ev (n := 0) rfl
  · cases h
/-! laws_toDesk -/
noncomputable def laws_toDesk.cfg : Cfg := { C0 with keep := fun _ => none, nb := 0, M := tabM [(44, laws_toState.stub)], MM := tabB [] }
noncomputable def laws_toDesk.res (n : Nat) (a0_0 : ByteArray) (a0_1 : Int) (a0_2 : Int) (a0_3 : Int) (a0_4 : Int) (a0_5 : Int) (a0_6 : Int) (a0_7 : Int) (a0_8 : Int) : Option (List Q) :=
  some [Q.agg [D.str a0_0, D.int IntKind.i64 a0_1, D.int IntKind.i64 a0_2, D.int IntKind.i64 a0_3, D.int IntKind.i64 a0_4, D.int IntKind.i64 a0_5, D.int IntKind.i64 a0_6, D.int IntKind.i64 a0_7, D.int IntKind.i64 a0_8]]
theorem laws_toDesk.run (n : Nat) (a0_0 : ByteArray) (a0_1 : Int) (a0_2 : Int) (a0_3 : Int) (a0_4 : Int) (a0_5 : Int) (a0_6 : Int) (a0_7 : Int) (a0_8 : Int) :
    run1 laws_toDesk.cfg [RK.agg [LK.str, LK.int IntKind.i64, LK.int IntKind.i64, LK.int IntKind.i64, LK.int IntKind.i64, LK.int IntKind.i64, LK.int IntKind.i64, LK.int IntKind.i64, LK.int IntKind.i64]] n Tryd.f17 [Q.agg [D.str a0_0, D.int IntKind.i64 a0_1, D.int IntKind.i64 a0_2, D.int IntKind.i64 a0_3, D.int IntKind.i64 a0_4, D.int IntKind.i64 a0_5, D.int IntKind.i64 a0_6, D.int IntKind.i64 a0_7, D.int IntKind.i64 a0_8]] = laws_toDesk.res n a0_0 a0_1 a0_2 a0_3 a0_4 a0_5 a0_6 a0_7 a0_8 := by kernel_rfl
theorem laws_toDesk.ev {n : Nat} {a0_0 : ByteArray} {a0_1 : Int} {a0_2 : Int} {a0_3 : Int} {a0_4 : Int} {a0_5 : Int} {a0_6 : Int} {a0_7 : Int} {a0_8 : Int} {r : List Q} (h : laws_toDesk.res n a0_0 a0_1 a0_2 a0_3 a0_4 a0_5 a0_6 a0_7 a0_8 = some r) : Snd Tryd.prog C0 17 [.agg [.str a0_0, .int .i64 a0_1, .int .i64 a0_2, .int .i64 a0_3, .int .i64 a0_4, .int .i64 a0_5, .int .i64 a0_6, .int .i64 a0_7, .int .i64 a0_8]] r :=
  snd_ev (C := laws_toDesk.cfg) cfg0 mix rfl rfl rfl rfl rfl (.cons laws_toState.ok .nil) .nil rfl Tryd.func17 (by kernel_rfl) (by kernel_rfl) rfl ((laws_toDesk.run n a0_0 a0_1 a0_2 a0_3 a0_4 a0_5 a0_6 a0_7 a0_8).trans h)

def laws_toDesk.stub : Stub
  | [.agg [.str q, .int .i64 x, .int .i64 y, .int .i64 t, .int .i64 n, .int .i64 e, .int .i64 s, .int .i64 w, .int .i64 b]] => .ret [.agg [.str q, .int .i64 x, .int .i64 y, .int .i64 t, .int .i64 n, .int .i64 e, .int .i64 s, .int .i64 w, .int .i64 b]]
  | _ => .fail
theorem laws_toDesk.ok : StubOk Tryd.prog C0 17 laws_toDesk.stub := by
  intro args res h
  unfold laws_toDesk.stub at h
  split at h
  · cases h
    exact laws_toDesk.ev (n := 0) rfl
  · cases h
/-! laws_toPuzzle -/
noncomputable def laws_toPuzzle.cfg : Cfg := { C0 with keep := fun _ => none, nb := 0, M := tabM [(44, laws_toState.stub)], MM := tabB [] }
noncomputable def laws_toPuzzle.res (n : Nat) (a0_0 : ByteArray) (a0_1 : Int) (a0_2 : Int) (a0_3 : Int) (a0_4 : Int) (a0_5 : Int) (a0_6 : Int) (a0_7 : Int) (a0_8 : Int) (a0_9 : Int) (a0_10 : Int) (a0_11 : Int) : Option (List Q) :=
  some [Q.agg [D.str a0_0, D.int IntKind.i64 a0_1, D.int IntKind.i64 a0_2, D.int IntKind.i64 a0_3, D.int IntKind.i64 a0_4, D.int IntKind.i64 a0_5, D.int IntKind.i64 a0_6, D.int IntKind.i64 a0_7, D.int IntKind.i64 a0_8, D.int IntKind.i64 a0_9, D.int IntKind.i64 a0_10, D.int IntKind.i64 a0_11]]
theorem laws_toPuzzle.run (n : Nat) (a0_0 : ByteArray) (a0_1 : Int) (a0_2 : Int) (a0_3 : Int) (a0_4 : Int) (a0_5 : Int) (a0_6 : Int) (a0_7 : Int) (a0_8 : Int) (a0_9 : Int) (a0_10 : Int) (a0_11 : Int) :
    run1 laws_toPuzzle.cfg [RK.agg [LK.str, LK.int IntKind.i64, LK.int IntKind.i64, LK.int IntKind.i64, LK.int IntKind.i64, LK.int IntKind.i64, LK.int IntKind.i64, LK.int IntKind.i64, LK.int IntKind.i64, LK.int IntKind.i64, LK.int IntKind.i64, LK.int IntKind.i64]] n Tryd.f21 [Q.agg [D.str a0_0, D.int IntKind.i64 a0_1, D.int IntKind.i64 a0_2, D.int IntKind.i64 a0_3, D.int IntKind.i64 a0_4, D.int IntKind.i64 a0_5, D.int IntKind.i64 a0_6, D.int IntKind.i64 a0_7, D.int IntKind.i64 a0_8, D.int IntKind.i64 a0_9, D.int IntKind.i64 a0_10, D.int IntKind.i64 a0_11]] = laws_toPuzzle.res n a0_0 a0_1 a0_2 a0_3 a0_4 a0_5 a0_6 a0_7 a0_8 a0_9 a0_10 a0_11 := by kernel_rfl
theorem laws_toPuzzle.ev {n : Nat} {a0_0 : ByteArray} {a0_1 : Int} {a0_2 : Int} {a0_3 : Int} {a0_4 : Int} {a0_5 : Int} {a0_6 : Int} {a0_7 : Int} {a0_8 : Int} {a0_9 : Int} {a0_10 : Int} {a0_11 : Int} {r : List Q} (h : laws_toPuzzle.res n a0_0 a0_1 a0_2 a0_3 a0_4 a0_5 a0_6 a0_7 a0_8 a0_9 a0_10 a0_11 = some r) : Snd Tryd.prog C0 21 [.agg [.str a0_0, .int .i64 a0_1, .int .i64 a0_2, .int .i64 a0_3, .int .i64 a0_4, .int .i64 a0_5, .int .i64 a0_6, .int .i64 a0_7, .int .i64 a0_8, .int .i64 a0_9, .int .i64 a0_10, .int .i64 a0_11]] r :=
  snd_ev (C := laws_toPuzzle.cfg) cfg0 mix rfl rfl rfl rfl rfl (.cons laws_toState.ok .nil) .nil rfl Tryd.func21 (by kernel_rfl) (by kernel_rfl) rfl ((laws_toPuzzle.run n a0_0 a0_1 a0_2 a0_3 a0_4 a0_5 a0_6 a0_7 a0_8 a0_9 a0_10 a0_11).trans h)

def laws_toPuzzle.stub : Stub
  | [.agg [.str q, .int .i64 x, .int .i64 y, .int .i64 t, .int .i64 n, .int .i64 e, .int .i64 s, .int .i64 w, .int .i64 b, .int .i64 px, .int .i64 py, .int .i64 pt]] => .ret [.agg [.str q, .int .i64 x, .int .i64 y, .int .i64 t, .int .i64 n, .int .i64 e, .int .i64 s, .int .i64 w, .int .i64 b, .int .i64 px, .int .i64 py, .int .i64 pt]]
  | _ => .fail
theorem laws_toPuzzle.ok : StubOk Tryd.prog C0 21 laws_toPuzzle.stub := by
  intro args res h
  unfold laws_toPuzzle.stub at h
  split at h
  · cases h
    exact laws_toPuzzle.ev (n := 0) rfl
  · cases h
/-! laws_szDesk -/
noncomputable def laws_szDesk.cfg : Cfg := { C0 with keep := fun _ => none, nb := 0, M := tabM [], MM := tabB [] }
noncomputable def laws_szDesk.res (n : Nat) (a0_0 : ByteArray) (a0_1 : Int) (a0_2 : Int) (a0_3 : Int) (a0_4 : Int) (a0_5 : Int) (a0_6 : Int) (a0_7 : Int) (a0_8 : Int) (a1 : Int) : Option (List Q) :=
  bif decide (IntKind.wrap IntKind.i64 (a1 - (↑(ByteArray.size a0_0) : Int)) < (0 : Int)) then some [Q.one (D.int IntKind.i64 (-1 : Int))] else some [Q.one (D.int IntKind.i64 (IntKind.wrap IntKind.i64 (a1 - (↑(ByteArray.size a0_0) : Int))))]
theorem laws_szDesk.run (n : Nat) (a0_0 : ByteArray) (a0_1 : Int) (a0_2 : Int) (a0_3 : Int) (a0_4 : Int) (a0_5 : Int) (a0_6 : Int) (a0_7 : Int) (a0_8 : Int) (a1 : Int) :
    run1 laws_szDesk.cfg [RK.one (LK.int IntKind.i64)] n Tryd.f15 [Q.agg [D.str a0_0, D.int IntKind.i64 a0_1, D.int IntKind.i64 a0_2, D.int IntKind.i64 a0_3, D.int IntKind.i64 a0_4, D.int IntKind.i64 a0_5, D.int IntKind.i64 a0_6, D.int IntKind.i64 a0_7, D.int IntKind.i64 a0_8], Q.one (D.int IntKind.i64 a1)] = laws_szDesk.res n a0_0 a0_1 a0_2 a0_3 a0_4 a0_5 a0_6 a0_7 a0_8 a1 := by kernel_rfl
theorem laws_szDesk.ev {n : Nat} {a0_0 : ByteArray} {a0_1 : Int} {a0_2 : Int} {a0_3 : Int} {a0_4 : Int} {a0_5 : Int} {a0_6 : Int} {a0_7 : Int} {a0_8 : Int} {a1 : Int} {r : List Q} (h : laws_szDesk.res n a0_0 a0_1 a0_2 a0_3 a0_4 a0_5 a0_6 a0_7 a0_8 a1 = some r) : Snd Tryd.prog C0 15 [.agg [.str a0_0, .int .i64 a0_1, .int .i64 a0_2, .int .i64 a0_3, .int .i64 a0_4, .int .i64 a0_5, .int .i64 a0_6, .int .i64 a0_7, .int .i64 a0_8], .one (.int .i64 a1)] r :=
  snd_ev (C := laws_szDesk.cfg) cfg0 mix rfl rfl rfl rfl rfl .nil .nil rfl Tryd.func15 (by kernel_rfl) (by kernel_rfl) rfl ((laws_szDesk.run n a0_0 a0_1 a0_2 a0_3 a0_4 a0_5 a0_6 a0_7 a0_8 a1).trans h)

def laws_szDesk.stub : Stub
  | [.agg [.str q, .int .i64 x, .int .i64 y, .int .i64 t, .int .i64 n, .int .i64 e, .int .i64 s, .int .i64 w, .int .i64 b], .one (.int .i64 m)] => .gd (decide (q.size ≤ 9223372036854775807)) (.gd (decide (m = 1048576)) (.ret [.one (.int .i64 (bif decide (q.size ≤ 1048576) then (1048576 - (q.size : Int)) else -1))]))
  | _ => .fail
theorem laws_szDesk.ok : StubOk Tryd.prog C0 15 laws_szDesk.stub := by
  intro args res h
  unfold laws_szDesk.stub at h
  split at h
  · rename_i q x y t n e s w b m
    obtain ⟨h1, h0⟩ := gd_out h
    obtain ⟨h2, h0⟩ := gd_out h0
    cases h0
    have h1 := of_decide_eq_true h1
    obtain rfl := of_decide_eq_true h2
    refine laws_szDesk.ev (n := 0) ?_
    unfold laws_szDesk.res
    rw [wrap_in (by omega) (by omega)]
    by_cases hs : q.size ≤ 1048576
    · have k : ¬ (1048576 - ((q.size : Nat) : Int)) < 0 := by omega
      simp only [hs, k, decide_true, decide_false, cond_true, cond_false]
    · have k : (1048576 - ((q.size : Nat) : Int)) < 0 := by omega
      simp only [hs, k, decide_true, decide_false, cond_true, cond_false]
  · cases h
/-! laws_szPuzzle -/
noncomputable def laws_szPuzzle.cfg : Cfg := { C0 with keep := fun _ => none, nb := 0, M := tabM [], MM := tabB [] }
noncomputable def laws_szPuzzle.res (n : Nat) (a0_0 : ByteArray) (a0_1 : Int) (a0_2 : Int) (a0_3 : Int) (a0_4 : Int) (a0_5 : Int) (a0_6 : Int) (a0_7 : Int) (a0_8 : Int) (a0_9 : Int) (a0_10 : Int) (a0_11 : Int) (a1 : Int) : Option (List Q) :=
  bif decide (IntKind.wrap IntKind.i64 (a1 - (↑(ByteArray.size a0_0) : Int)) < (0 : Int)) then some [Q.one (D.int IntKind.i64 (-1 : Int))] else some [Q.one (D.int IntKind.i64 (IntKind.wrap IntKind.i64 (a1 - (↑(ByteArray.size a0_0) : Int))))]
theorem laws_szPuzzle.run (n : Nat) (a0_0 : ByteArray) (a0_1 : Int) (a0_2 : Int) (a0_3 : Int) (a0_4 : Int) (a0_5 : Int) (a0_6 : Int) (a0_7 : Int) (a0_8 : Int) (a0_9 : Int) (a0_10 : Int) (a0_11 : Int) (a1 : Int) :
    run1 laws_szPuzzle.cfg [RK.one (LK.int IntKind.i64)] n Tryd.f19 [Q.agg [D.str a0_0, D.int IntKind.i64 a0_1, D.int IntKind.i64 a0_2, D.int IntKind.i64 a0_3, D.int IntKind.i64 a0_4, D.int IntKind.i64 a0_5, D.int IntKind.i64 a0_6, D.int IntKind.i64 a0_7, D.int IntKind.i64 a0_8, D.int IntKind.i64 a0_9, D.int IntKind.i64 a0_10, D.int IntKind.i64 a0_11], Q.one (D.int IntKind.i64 a1)] = laws_szPuzzle.res n a0_0 a0_1 a0_2 a0_3 a0_4 a0_5 a0_6 a0_7 a0_8 a0_9 a0_10 a0_11 a1 := by kernel_rfl
theorem laws_szPuzzle.ev {n : Nat} {a0_0 : ByteArray} {a0_1 : Int} {a0_2 : Int} {a0_3 : Int} {a0_4 : Int} {a0_5 : Int} {a0_6 : Int} {a0_7 : Int} {a0_8 : Int} {a0_9 : Int} {a0_10 : Int} {a0_11 : Int} {a1 : Int} {r : List Q} (h : laws_szPuzzle.res n a0_0 a0_1 a0_2 a0_3 a0_4 a0_5 a0_6 a0_7 a0_8 a0_9 a0_10 a0_11 a1 = some r) : Snd Tryd.prog C0 19 [.agg [.str a0_0, .int .i64 a0_1, .int .i64 a0_2, .int .i64 a0_3, .int .i64 a0_4, .int .i64 a0_5, .int .i64 a0_6, .int .i64 a0_7, .int .i64 a0_8, .int .i64 a0_9, .int .i64 a0_10, .int .i64 a0_11], .one (.int .i64 a1)] r :=
  snd_ev (C := laws_szPuzzle.cfg) cfg0 mix rfl rfl rfl rfl rfl .nil .nil rfl Tryd.func19 (by kernel_rfl) (by kernel_rfl) rfl ((laws_szPuzzle.run n a0_0 a0_1 a0_2 a0_3 a0_4 a0_5 a0_6 a0_7 a0_8 a0_9 a0_10 a0_11 a1).trans h)

def laws_szPuzzle.stub : Stub
  | [.agg [.str q, .int .i64 x, .int .i64 y, .int .i64 t, .int .i64 n, .int .i64 e, .int .i64 s, .int .i64 w, .int .i64 b, .int .i64 px, .int .i64 py, .int .i64 pt], .one (.int .i64 m)] => .gd (decide (q.size ≤ 9223372036854775807)) (.gd (decide (m = 1048576)) (.ret [.one (.int .i64 (bif decide (q.size ≤ 1048576) then (1048576 - (q.size : Int)) else -1))]))
  | _ => .fail
theorem laws_szPuzzle.ok : StubOk Tryd.prog C0 19 laws_szPuzzle.stub := by
  intro args res h
  unfold laws_szPuzzle.stub at h
  split at h
  · rename_i q x y t n e s w b px py pt m
    obtain ⟨h1, h0⟩ := gd_out h
    obtain ⟨h2, h0⟩ := gd_out h0
    cases h0
    have h1 := of_decide_eq_true h1
    obtain rfl := of_decide_eq_true h2
    refine laws_szPuzzle.ev (n := 0) ?_
    unfold laws_szPuzzle.res
    rw [wrap_in (by omega) (by omega)]
    by_cases hs : q.size ≤ 1048576
    · have k : ¬ (1048576 - ((q.size : Nat) : Int)) < 0 := by omega
      simp only [hs, k, decide_true, decide_false, cond_true, cond_false]
    · have k : (1048576 - ((q.size : Nat) : Int)) < 0 := by omega
      simp only [hs, k, decide_true, decide_false, cond_true, cond_false]
  · cases h
/-! laws_FnExactIsDesk -/
noncomputable def laws_FnExactIsDesk.cfg : Cfg := { C0 with keep := fun _ => none, nb := 0, M := tabM [(15, laws_szDesk.stub), (17, laws_toDesk.stub), (16, spec_IsDesk.stub), (18, impl_IsDesk.stub)], MM := tabB [] }
noncomputable def laws_FnExactIsDesk.res (n : Nat) (a0_0 : ByteArray) (a0_1 : Int) (a0_2 : Int) (a0_3 : Int) (a0_4 : Int) (a0_5 : Int) (a0_6 : Int) (a0_7 : Int) (a0_8 : Int) : Option (List Q) :=
  bif decide (ByteArray.size a0_0 ≤ (9223372036854775807 : Nat)) then bif decide ((bif decide (ByteArray.size a0_0 ≤ (1048576 : Nat)) then (1048576 : Int) - (↑(ByteArray.size a0_0) : Int) else (-1 : Int)) < (0 : Int)) then some [Q.one (D.bool true)] else bif decide (ByteArray.size a0_0 < (17179869184 : Nat)) then bif !(isBo brd a0_0 && (Die.good (Die.mk a0_3 a0_4 a0_5 a0_6 a0_7 a0_8) && isFl (rws a0_0) a0_1 a0_2)) == (isBo brd a0_0 && (Die.good (Die.mk a0_3 a0_4 a0_5 a0_6 a0_7 a0_8) && isFl (rws a0_0) a0_1 a0_2)) then some [Q.one (D.bool false)] else some [Q.one (D.bool true)] else none else none
theorem laws_FnExactIsDesk.run (n : Nat) (a0_0 : ByteArray) (a0_1 : Int) (a0_2 : Int) (a0_3 : Int) (a0_4 : Int) (a0_5 : Int) (a0_6 : Int) (a0_7 : Int) (a0_8 : Int) :
    run1 laws_FnExactIsDesk.cfg [RK.one LK.bool] n Tryd.f3 [Q.agg [D.str a0_0, D.int IntKind.i64 a0_1, D.int IntKind.i64 a0_2, D.int IntKind.i64 a0_3, D.int IntKind.i64 a0_4, D.int IntKind.i64 a0_5, D.int IntKind.i64 a0_6, D.int IntKind.i64 a0_7, D.int IntKind.i64 a0_8]] = laws_FnExactIsDesk.res n a0_0 a0_1 a0_2 a0_3 a0_4 a0_5 a0_6 a0_7 a0_8 := by kernel_rfl
theorem laws_FnExactIsDesk.ev {n : Nat} {a0_0 : ByteArray} {a0_1 : Int} {a0_2 : Int} {a0_3 : Int} {a0_4 : Int} {a0_5 : Int} {a0_6 : Int} {a0_7 : Int} {a0_8 : Int} {r : List Q} (h : laws_FnExactIsDesk.res n a0_0 a0_1 a0_2 a0_3 a0_4 a0_5 a0_6 a0_7 a0_8 = some r) : Snd Tryd.prog C0 3 [.agg [.str a0_0, .int .i64 a0_1, .int .i64 a0_2, .int .i64 a0_3, .int .i64 a0_4, .int .i64 a0_5, .int .i64 a0_6, .int .i64 a0_7, .int .i64 a0_8]] r :=
  snd_ev (C := laws_FnExactIsDesk.cfg) cfg0 mix rfl rfl rfl rfl rfl (.cons laws_szDesk.ok (.cons laws_toDesk.ok (.cons spec_IsDesk.ok (.cons impl_IsDesk.ok .nil)))) .nil rfl Tryd.func3 (by kernel_rfl) (by kernel_rfl) rfl ((laws_FnExactIsDesk.run n a0_0 a0_1 a0_2 a0_3 a0_4 a0_5 a0_6 a0_7 a0_8).trans h)

theorem szNeg (k : Nat) : decide ((bif decide (k ≤ 1048576) then (1048576 - (k : Int)) else -1) < 0) = !decide (k ≤ 1048576) := by
  by_cases h : k ≤ 1048576
  · simp only [h, decide_true, cond_true, Bool.not_true, decide_eq_false_iff_not]
    omega
  · simp only [h, decide_false, cond_false, Bool.not_false, decide_eq_true_eq]
    omega
theorem laws_FnExactIsDesk.law (q : ByteArray) (hq : q.size ≤ 9223372036854775807) (x y t n e s w b : Int) : Snd Tryd.prog C0 3 [.agg [.str q, .int .i64 x, .int .i64 y, .int .i64 t, .int .i64 n, .int .i64 e, .int .i64 s, .int .i64 w, .int .i64 b]] [.one (.bool true)] := by
  refine laws_FnExactIsDesk.ev (n := 0) ?_
  unfold laws_FnExactIsDesk.res
  simp only [hq, decide_true, cond_true, szNeg]
  by_cases hs : q.size ≤ 1048576
  · have h1 : q.size < 17179869184 := by omega
    simp only [hs, h1, decide_true, cond_true, Bool.not_true, cond_false, beq_self_eq_true]
  · simp only [hs, decide_false, Bool.not_false, cond_true]
/-! laws_FnExactIsPuzzle -/
noncomputable def laws_FnExactIsPuzzle.cfg : Cfg := { C0 with keep := fun _ => none, nb := 0, M := tabM [(19, laws_szPuzzle.stub), (21, laws_toPuzzle.stub), (20, spec_IsPuzzle.stub), (22, impl_IsPuzzle.stub)], MM := tabB [] }
noncomputable def laws_FnExactIsPuzzle.res (n : Nat) (a0_0 : ByteArray) (a0_1 : Int) (a0_2 : Int) (a0_3 : Int) (a0_4 : Int) (a0_5 : Int) (a0_6 : Int) (a0_7 : Int) (a0_8 : Int) (a0_9 : Int) (a0_10 : Int) (a0_11 : Int) : Option (List Q) :=
  bif decide (ByteArray.size a0_0 ≤ (9223372036854775807 : Nat)) then bif decide ((bif decide (ByteArray.size a0_0 ≤ (1048576 : Nat)) then (1048576 : Int) - (↑(ByteArray.size a0_0) : Int) else (-1 : Int)) < (0 : Int)) then some [Q.one (D.bool true)] else bif decide (ByteArray.size a0_0 < (17179869184 : Nat)) then bif !(isBo brd a0_0 && (Die.good (Die.mk a0_3 a0_4 a0_5 a0_6 a0_7 a0_8) && isFl (rws a0_0) a0_1 a0_2) && (isFl (rws a0_0) a0_9 a0_10 && inR a0_11 (0 : Int) (9 : Int))) == (isBo brd a0_0 && (Die.good (Die.mk a0_3 a0_4 a0_5 a0_6 a0_7 a0_8) && isFl (rws a0_0) a0_1 a0_2) && (isFl (rws a0_0) a0_9 a0_10 && inR a0_11 (0 : Int) (9 : Int))) then some [Q.one (D.bool false)] else some [Q.one (D.bool true)] else none else none
theorem laws_FnExactIsPuzzle.run (n : Nat) (a0_0 : ByteArray) (a0_1 : Int) (a0_2 : Int) (a0_3 : Int) (a0_4 : Int) (a0_5 : Int) (a0_6 : Int) (a0_7 : Int) (a0_8 : Int) (a0_9 : Int) (a0_10 : Int) (a0_11 : Int) :
    run1 laws_FnExactIsPuzzle.cfg [RK.one LK.bool] n Tryd.f4 [Q.agg [D.str a0_0, D.int IntKind.i64 a0_1, D.int IntKind.i64 a0_2, D.int IntKind.i64 a0_3, D.int IntKind.i64 a0_4, D.int IntKind.i64 a0_5, D.int IntKind.i64 a0_6, D.int IntKind.i64 a0_7, D.int IntKind.i64 a0_8, D.int IntKind.i64 a0_9, D.int IntKind.i64 a0_10, D.int IntKind.i64 a0_11]] = laws_FnExactIsPuzzle.res n a0_0 a0_1 a0_2 a0_3 a0_4 a0_5 a0_6 a0_7 a0_8 a0_9 a0_10 a0_11 := by kernel_rfl
theorem laws_FnExactIsPuzzle.ev {n : Nat} {a0_0 : ByteArray} {a0_1 : Int} {a0_2 : Int} {a0_3 : Int} {a0_4 : Int} {a0_5 : Int} {a0_6 : Int} {a0_7 : Int} {a0_8 : Int} {a0_9 : Int} {a0_10 : Int} {a0_11 : Int} {r : List Q} (h : laws_FnExactIsPuzzle.res n a0_0 a0_1 a0_2 a0_3 a0_4 a0_5 a0_6 a0_7 a0_8 a0_9 a0_10 a0_11 = some r) : Snd Tryd.prog C0 4 [.agg [.str a0_0, .int .i64 a0_1, .int .i64 a0_2, .int .i64 a0_3, .int .i64 a0_4, .int .i64 a0_5, .int .i64 a0_6, .int .i64 a0_7, .int .i64 a0_8, .int .i64 a0_9, .int .i64 a0_10, .int .i64 a0_11]] r :=
  snd_ev (C := laws_FnExactIsPuzzle.cfg) cfg0 mix rfl rfl rfl rfl rfl (.cons laws_szPuzzle.ok (.cons laws_toPuzzle.ok (.cons spec_IsPuzzle.ok (.cons impl_IsPuzzle.ok .nil)))) .nil rfl Tryd.func4 (by kernel_rfl) (by kernel_rfl) rfl ((laws_FnExactIsPuzzle.run n a0_0 a0_1 a0_2 a0_3 a0_4 a0_5 a0_6 a0_7 a0_8 a0_9 a0_10 a0_11).trans h)

theorem laws_FnExactIsPuzzle.law (q : ByteArray) (hq : q.size ≤ 9223372036854775807) (x y t n e s w b px py pt : Int) : Snd Tryd.prog C0 4 [.agg [.str q, .int .i64 x, .int .i64 y, .int .i64 t, .int .i64 n, .int .i64 e, .int .i64 s, .int .i64 w, .int .i64 b, .int .i64 px, .int .i64 py, .int .i64 pt]] [.one (.bool true)] := by
  refine laws_FnExactIsPuzzle.ev (n := 0) ?_
  unfold laws_FnExactIsPuzzle.res
  simp only [hq, decide_true, cond_true, szNeg]
  by_cases hs : q.size ≤ 1048576
  · have h1 : q.size < 17179869184 := by omega
    simp only [hs, h1, decide_true, cond_true, Bool.not_true, cond_false, beq_self_eq_true]
  · simp only [hs, decide_false, Bool.not_false, cond_true]
end Go.Proofs.EV.PL
namespace Go.Proofs
open Go.Shelf
def Tryd.strJoin_ren : Go.Shelf.Ren := ⟨fun | 156 => 89 | 165 => 108 | 166 => 109 | 169 => 110 | 240 => 128 | 241 => 129 | 276 => 142 | 277 => 143 | n => n, fun | 31 => 55 | 9 => 9 | 3 => 3 | 4 => 4 | 0 => 0 | 20 => 20 | 72 => 122 | 76 => 126 | 70 => 120 | 37 => 68 | 75 => 125 | 127 => 141 | 164 => 152 | 5 => 5 | 80 => 77 | n => n, fun | n => n⟩
theorem Tryd.strJoin : Go.Proofs.Lays.n156 Tryd.prog Tryd.strJoin_ren := {
  mixed := by kernel_rfl
  f156 := Tryd.func89.trans (congrArg some (by kernel_rfl))
  f165 := Tryd.func108.trans (congrArg some (by kernel_rfl))
  f166 := Tryd.func109.trans (congrArg some (by kernel_rfl))
  f169 := Tryd.func110.trans (congrArg some (by kernel_rfl))
  f240 := Tryd.func128.trans (congrArg some (by kernel_rfl))
  f241 := Tryd.func129.trans (congrArg some (by kernel_rfl))
  f276 := Tryd.func142.trans (congrArg some (by kernel_rfl))
  f277 := Tryd.func143.trans (congrArg some (by kernel_rfl))
  t0 := Tryd.underlying0
  a0 := Tryd.isAgg0
  z0 := Tryd.sizeOf0
  v0 := Tryd.zeroValue0
  t3 := Tryd.underlying3
  a3 := Tryd.isAgg3
  z3 := Tryd.sizeOf3
  v3 := Tryd.zeroValue3
  t4 := Tryd.underlying4
  a4 := Tryd.isAgg4
  z4 := Tryd.sizeOf4
  v4 := Tryd.zeroValue4
  t9 := Tryd.underlying9
  a9 := Tryd.isAgg9
  z9 := Tryd.sizeOf9
  v9 := Tryd.zeroValue9
  t20 := Tryd.underlying20
  a20 := Tryd.isAgg20
  z20 := Tryd.sizeOf20
  v20 := Tryd.zeroValue20
  t31 := Tryd.underlying55
  a31 := Tryd.isAgg55
  z31 := Tryd.sizeOf55
  v31 := Tryd.zeroValue55
  t37 := Tryd.underlying68
  a37 := Tryd.isAgg68
  z37 := Tryd.sizeOf68
  v37 := Tryd.zeroValue68
  t70 := Tryd.underlying120
  a70 := Tryd.isAgg120
  z70 := Tryd.sizeOf120
  v70 := Tryd.zeroValue120
  t72 := Tryd.underlying122
  a72 := Tryd.isAgg122
  z72 := Tryd.sizeOf122
  v72 := Tryd.zeroValue122
  t75 := Tryd.underlying125
  a75 := Tryd.isAgg125
  z75 := Tryd.sizeOf125
  v75 := Tryd.zeroValue125
  t76 := Tryd.underlying126
  a76 := Tryd.isAgg126
  z76 := Tryd.sizeOf126
  v76 := Tryd.zeroValue126
  t127 := Tryd.underlying141
  a127 := Tryd.isAgg141
  z127 := Tryd.sizeOf141
  v127 := Tryd.zeroValue141
  t164 := Tryd.underlying152
  a164 := Tryd.isAgg152
  z164 := Tryd.sizeOf152
  v164 := Tryd.zeroValue152 }
end Go.Proofs
namespace Go.Proofs
open Go.Shelf
theorem Tryd.strJoin_extra : Builder.Extra Tryd.prog Tryd.strJoin_ren := {
  sizeBuilder := by kernel_rfl
  liesBuilder := by kernel_rfl
  t5 := Tryd.underlying5
  a5 := Tryd.isAgg5
  z5 := Tryd.sizeOf5
  v5 := Tryd.zeroValue5
  infoByte := by kernel_rfl
  cellsByte := by kernel_rfl
  sizeByte := by kernel_rfl
  neB5 := by decide }
end Go.Proofs
set_option linter.unusedVariables false
set_option linter.unusedSimpArgs false
/-! Rows joined. -/
namespace Go.Proofs.EV.PL
open Go Go.Proofs Go.Proofs.EV Sp
def strings_Join.stub : Stub
  | [.one (.sl 1 es), .one (.str t)] => .any (strC.decs es) fun l => .gd (Sp.isSl t) (.gd (decide ((Sp.jn (Sp.lb l)).length ≤ LIM)) (.ret [.one (.str (Sp.mkB (Sp.jn (Sp.lb l))))]))
  | _ => .fail
theorem strings_Join.ok : StubOk Tryd.prog C0 89 strings_Join.stub := by
  intro args res h
  unfold strings_Join.stub at h
  split at h
  · rename_i es t
    obtain ⟨l, h1, h0⟩ := any_out h
    obtain ⟨rfl, hl⟩ := Cod.decs_inv h1
    obtain ⟨h2, h0⟩ := gd_out h0
    obtain ⟨h3, h0⟩ := gd_out h0
    cases h0
    have h3 := of_decide_eq_true h3
    have h2 := of_decide_eq_true h2
    subst h2
    have e : Lib.join (l.map (·.data.toList)) (ByteArray.mk #[47]).data.toList = jn (lb l) := jn_join (lb l)
    have key := join_ok (C := C0) (fun h => h) Tryd.strJoin Tryd.strJoin_extra (f := 89) rfl Tryd.func89 (by kernel_rfl) (by kernel_rfl) rfl l ⟨#[47]⟩ hl (by rw [e]; exact h3)
    rw [e] at key
    exact key
  · cases h
end Go.Proofs.EV.PL
set_option linter.unusedVariables false
set_option linter.unusedSimpArgs false
/-! Boards turned. -/
namespace Go.Proofs.EV.PL
open Go Go.Proofs Go.Proofs.EV Sp
/-! spec_boText -/
noncomputable def spec_boText.cfg : Cfg := { C0 with keep := fun | 3 => some [1, 3, 4] | _ => none, nb := 0, M := tabM [], MM := tabB [] }
noncomputable def spec_boText.l3 (n : Nat) (m3 : Nat) (s0 : ByteArray) (i1 : Int) (i2 : Int) (i3 : Int) (l4 : List (List D)) : Option (List Q) :=
  loopAt spec_boText.cfg [RK.one LK.str] n Tryd.f54 [1, 1, 0, 1, 0] [] m3 (St.mk [V.undef, V.rp (0 : Nat) (0 : Nat), V.undef, V.one true (D.str s0), V.one true (D.int IntKind.i64 i1), V.undef, V.undef, V.undef, V.undef, V.undef, V.undef, V.undef, V.undef, V.undef, V.undef, V.undef, V.undef, V.undef, V.undef, V.undef, V.undef, V.undef, V.undef, V.undef, V.undef, V.undef, V.undef, V.undef, V.undef, V.undef, V.undef] [Ob.box [V.one true (D.int IntKind.i64 i2), V.one true (D.int IntKind.i64 i3), V.one false (D.sl (1 : Nat) l4)]])
theorem spec_boText.l3_eq (n : Nat) (m3 : Nat) (s0 : ByteArray) (i1 : Int) (i2 : Int) (i3 : Int) (l4 : List (List D)) :
    spec_boText.l3 n (m3 + 1) s0 i1 i2 i3 l4 = bif decide (i1 < i3) then bif decide (i1 > (0 : Int)) then bif decide (ByteArray.size s0 + ByteArray.size (ByteArray.mk #[(47 : UInt8)]) ≤ (17179869184 : Nat)) then bif decide ((0 : Int) ≤ IntKind.wrap IntKind.i64 (IntKind.wrap IntKind.i64 (i1 + (1 : Int)) * i2)) then bif decide (IntKind.wrap IntKind.i64 (IntKind.wrap IntKind.i64 (i1 + (1 : Int)) * i2) ≤ (↑(List.length l4) : Int)) then bif decide ((0 : Int) ≤ IntKind.wrap IntKind.i64 (i1 * i2)) then bif decide (IntKind.wrap IntKind.i64 (i1 * i2) ≤ (↑(Int.toNat (IntKind.wrap IntKind.i64 (IntKind.wrap IntKind.i64 (i1 + (1 : Int)) * i2))) : Int)) then Option.bind (Option.map (fun (l : List UInt8) => ByteArray.mk (List.toArray l)) (rowStr? (List.take (Int.toNat (IntKind.wrap IntKind.i64 (IntKind.wrap IntKind.i64 (i1 + (1 : Int)) * i2)) - Int.toNat (IntKind.wrap IntKind.i64 (i1 * i2))) (List.drop (Int.toNat (IntKind.wrap IntKind.i64 (i1 * i2))) l4)))) fun (s1 : ByteArray) => bif decide (ByteArray.size (s0 ++ ByteArray.mk #[(47 : UInt8)]) + ByteArray.size s1 ≤ (17179869184 : Nat)) then spec_boText.l3 n m3 (s0 ++ ByteArray.mk #[(47 : UInt8)] ++ s1) (IntKind.wrap IntKind.i64 (i1 + (1 : Int))) i2 i3 l4 else none else none else none else none else none else none else bif decide ((0 : Int) ≤ IntKind.wrap IntKind.i64 (IntKind.wrap IntKind.i64 (i1 + (1 : Int)) * i2)) then bif decide (IntKind.wrap IntKind.i64 (IntKind.wrap IntKind.i64 (i1 + (1 : Int)) * i2) ≤ (↑(List.length l4) : Int)) then bif decide ((0 : Int) ≤ IntKind.wrap IntKind.i64 (i1 * i2)) then bif decide (IntKind.wrap IntKind.i64 (i1 * i2) ≤ (↑(Int.toNat (IntKind.wrap IntKind.i64 (IntKind.wrap IntKind.i64 (i1 + (1 : Int)) * i2))) : Int)) then Option.bind (Option.map (fun (l : List UInt8) => ByteArray.mk (List.toArray l)) (rowStr? (List.take (Int.toNat (IntKind.wrap IntKind.i64 (IntKind.wrap IntKind.i64 (i1 + (1 : Int)) * i2)) - Int.toNat (IntKind.wrap IntKind.i64 (i1 * i2))) (List.drop (Int.toNat (IntKind.wrap IntKind.i64 (i1 * i2))) l4)))) fun (s2 : ByteArray) => bif decide (ByteArray.size s0 + ByteArray.size s2 ≤ (17179869184 : Nat)) then spec_boText.l3 n m3 (s0 ++ s2) (IntKind.wrap IntKind.i64 (i1 + (1 : Int))) i2 i3 l4 else none else none else none else none else none else some [Q.one (D.str s0)] := by kernel_rfl
noncomputable def spec_boText.res (n : Nat) (a0_0 : Int) (a0_1 : Int) (a0_2 : List (List D)) : Option (List Q) :=
  spec_boText.l3 n n (ByteArray.mk #[]) (0 : Int) a0_0 a0_1 a0_2
theorem spec_boText.run (n : Nat) (a0_0 : Int) (a0_1 : Int) (a0_2 : List (List D)) :
    run1 spec_boText.cfg [RK.one LK.str] n Tryd.f54 [Q.agg [D.int IntKind.i64 a0_0, D.int IntKind.i64 a0_1, D.sl (1 : Nat) a0_2]] = spec_boText.res n a0_0 a0_1 a0_2 := by kernel_rfl
theorem spec_boText.ev {n : Nat} {a0_0 : Int} {a0_1 : Int} {a0_2 : List (List D)} {r : List Q} (h : spec_boText.res n a0_0 a0_1 a0_2 = some r) : Snd Tryd.prog C0 54 [.agg [.int .i64 a0_0, .int .i64 a0_1, .sl 1 a0_2]] r :=
  snd_ev (C := spec_boText.cfg) cfg0 mix rfl rfl rfl rfl rfl .nil .nil rfl Tryd.func54 (by kernel_rfl) (by kernel_rfl) rfl ((spec_boText.run n a0_0 a0_1 a0_2).trans h)

theorem row_take (cs : List UInt8) (a b : Nat) : (Option.map (fun (l : List UInt8) => ByteArray.mk (List.toArray l)) (rowStr? (((u8C.encs cs).drop a).take b))) = some (mkB ((cs.drop a).take b)) := by
  rw [Cod.encs_drop, Cod.encs_take, rowStr_u8]; rfl
theorem spec_boText.l3_run {n : Nat} {w h : Nat} {cs : List UInt8} (hw : w ≤ 7) (hh : h ≤ 7) (hc : cs.length = w * h) : ∀ (d y m : Nat), y + d = h → d < m →
    spec_boText.l3 n m (mkB (jn (chunk w y cs))) (y : Int) (w : Int) (h : Int) (u8C.encs cs) = some [Q.one (.str (mkB (jn (chunk w h cs))))] := by
  intro d
  induction d with
  | zero =>
    intro y m hy hm
    obtain ⟨m, rfl⟩ : ∃ m', m = m' + 1 := ⟨m - 1, by omega⟩
    obtain rfl : y = h := by omega
    have h1 : ¬ (y : Int) < (y : Int) := by omega
    rw [spec_boText.l3_eq]
    simp only [h1, decide_false, cond_false]
  | succ d ih =>
    intro y m hy hm
    obtain ⟨m, rfl⟩ : ∃ m', m = m' + 1 := ⟨m - 1, by omega⟩
    have h1 : (y : Int) < (h : Int) := by omega
    have hyw : (y + 1) * w ≤ h * w := Nat.mul_le_mul_right _ (by omega)
    have hy1 : (y + 1) * w = y * w + w := by rw [Nat.add_mul, Nat.one_mul]
    have hhw : h * w ≤ 49 := by
      have := Nat.mul_le_mul hh hw
      omega
    have hwh : w * h = h * w := Nat.mul_comm w h
    have e1 : IntKind.wrap .i64 (((y + 1 : Nat) : Int) * (w : Int)) = (((y + 1) * w : Nat) : Int) := by rw [← Int.natCast_mul, wrap_in (by omega) (by omega)]
    have e2 : IntKind.wrap .i64 ((y : Int) * (w : Int)) = ((y * w : Nat) : Int) := by rw [← Int.natCast_mul, wrap_in (by omega) (by omega)]
    have h2 : (((y + 1) * w : Nat) : Int) ≤ ((cs.length : Nat) : Int) := by omega
    have h3 : ((y * w : Nat) : Int) ≤ (((y + 1) * w : Nat) : Int) := by omega
    have e3 : (y + 1) * w - y * w = w := by omega
    have hj := chunk_jn_le w y cs
    have hj' : y * (w + 1) ≤ 56 := by
      have := Nat.mul_le_mul (show y ≤ 7 by omega) (show w + 1 ≤ 8 by omega)
      omega
    have hr : ((cs.drop (y * w)).take w).length ≤ 7 := by rw [List.length_take]; omega
    have g1 : (mkB (jn (chunk w y cs))).size + (ByteArray.mk #[47]).size ≤ 17179869184 := by
      rw [mkB_size, show (ByteArray.mk #[47]).size = 1 from rfl]; omega
    have g2 : (mkB (jn (chunk w y cs)) ++ ByteArray.mk #[47]).size + (mkB ((cs.drop (y * w)).take w)).size ≤ 17179869184 := by
      rw [show ByteArray.mk #[47] = mkB [47] from rfl, mkB_app, mkB_size, mkB_size, List.length_append, List.length_singleton]; omega
    have g3 : (mkB (jn (chunk w y cs))).size + (mkB ((cs.drop (y * w)).take w)).size ≤ 17179869184 := by
      rw [mkB_size, mkB_size]; omega
    have step := ih (y + 1) m (by omega) (by omega)
    rw [chunk_jn] at step
    rw [spec_boText.l3_eq]
    simp only [h1, h2, h3, e1, e2, e3, g1, g2, g3, wrap_succ (show y ≤ LIM by unfold LIM; omega), Cod.encs_len, Int.natCast_nonneg, Int.toNat_natCast, decide_true, cond_true, row_take, Option.bind_some]
    by_cases hy0 : 0 < y
    · have h4 : (y : Int) > 0 := by omega
      rw [decide_eq_true hy0, cond_true] at step
      simp only [h4, decide_true, cond_true]
      rw [show ByteArray.mk #[47] = mkB [47] from rfl, mkB_app, mkB_app]
      exact step
    · have h4 : ¬ (y : Int) > 0 := by omega
      rw [decide_eq_false hy0, cond_false] at step
      simp only [h4, decide_false, cond_false]
      rw [mkB_app]
      exact step
def spec_boText.stub : Stub
  | [.agg [.int .i64 W, .int .i64 H, .sl 1 es]] => .any (u8C.decs es) fun cs => .gd (Sp.inR W 0 7) (.gd (Sp.inR H 0 7) (.gd (decide (cs.length = W.toNat * H.toNat)) (.ret [.one (.str (Sp.mkB (Sp.jn (Sp.chunk W.toNat H.toNat cs))))])))
  | _ => .fail
theorem spec_boText.ok : StubOk Tryd.prog C0 54 spec_boText.stub := by
  intro args res h
  unfold spec_boText.stub at h
  split at h
  · rename_i W H es
    obtain ⟨cs, h1, h0⟩ := any_out h
    obtain ⟨rfl, hl⟩ := Cod.decs_inv h1
    obtain ⟨h2, h0⟩ := gd_out h0
    obtain ⟨h3, h0⟩ := gd_out h0
    obtain ⟨h4, h0⟩ := gd_out h0
    cases h0
    have h4 := of_decide_eq_true h4
    obtain ⟨k1, k2⟩ := inR_out h2
    obtain ⟨k3, k4⟩ := inR_out h3
    obtain ⟨w, rfl⟩ : ∃ n : Nat, W = (n : Int) := ⟨W.toNat, by omega⟩
    obtain ⟨g, rfl⟩ : ∃ n : Nat, H = (n : Int) := ⟨H.toNat, by omega⟩
    simp only [Int.toNat_natCast] at h4 ⊢
    obtain ⟨N, hN⟩ : ∃ N, 44 ≤ N := ⟨44, Nat.le_refl _⟩
    refine spec_boText.ev (n := N) ?_
    have key := spec_boText.l3_run (n := N) (w := w) (h := g) (cs := cs) (by omega) (by omega) h4 g 0 N (by omega) (by omega)
    exact key
  · cases h
/-! spec_prText -/
noncomputable def spec_prText.cfg : Cfg := { C0 with keep := fun _ => none, nb := 0, M := tabM [(54, spec_boText.stub)], MM := tabB [] }
noncomputable def spec_prText.res (n : Nat) (a0_0 : Int) (a0_1 : Int) (a0_2 : List (List D)) (a1 : List (List D)) : Option (List Q) :=
  Option.bind (Cod.decs u8C a1) fun (l1 : List UInt8) => bif inR a0_0 (0 : Int) (7 : Int) then bif inR a0_1 (0 : Int) (7 : Int) then bif decide (List.length l1 = Int.toNat a0_0 * Int.toNat a0_1) then some [Q.one (D.str (mkB (jn (chunk (Int.toNat a0_0) (Int.toNat a0_1) l1))))] else none else none else none
theorem spec_prText.run (n : Nat) (a0_0 : Int) (a0_1 : Int) (a0_2 : List (List D)) (a1 : List (List D)) :
    run1 spec_prText.cfg [RK.one LK.str] n Tryd.f78 [Q.agg [D.int IntKind.i64 a0_0, D.int IntKind.i64 a0_1, D.sl (1 : Nat) a0_2], Q.one (D.sl (1 : Nat) a1)] = spec_prText.res n a0_0 a0_1 a0_2 a1 := by kernel_rfl
theorem spec_prText.ev {n : Nat} {a0_0 : Int} {a0_1 : Int} {a0_2 : List (List D)} {a1 : List (List D)} {r : List Q} (h : spec_prText.res n a0_0 a0_1 a0_2 a1 = some r) : Snd Tryd.prog C0 78 [.agg [.int .i64 a0_0, .int .i64 a0_1, .sl 1 a0_2], .one (.sl 1 a1)] r :=
  snd_ev (C := spec_prText.cfg) cfg0 mix rfl rfl rfl rfl rfl (.cons spec_boText.ok .nil) .nil rfl Tryd.func78 (by kernel_rfl) (by kernel_rfl) rfl ((spec_prText.run n a0_0 a0_1 a0_2 a1).trans h)

def spec_prText.stub : Stub
  | [.agg [.int .i64 W, .int .i64 H, .sl 1 _], .one (.sl 1 es)] => .any (u8C.decs es) fun cs => .gd (Sp.inR W 0 7) (.gd (Sp.inR H 0 7) (.gd (decide (cs.length = W.toNat * H.toNat)) (.ret [.one (.str (Sp.mkB (Sp.jn (Sp.chunk W.toNat H.toNat cs))))])))
  | _ => .fail
theorem spec_prText.ok : StubOk Tryd.prog C0 78 spec_prText.stub := by
  intro args res h
  unfold spec_prText.stub at h
  split at h
  · rename_i W H es0 es
    obtain ⟨cs, h1, h0⟩ := any_out h
    obtain ⟨h2, h0⟩ := gd_out h0
    obtain ⟨h3, h0⟩ := gd_out h0
    obtain ⟨h4, h0⟩ := gd_out h0
    cases h0
    refine spec_prText.ev (n := 0) ?_
    unfold spec_prText.res
    rw [h1]
    simp only [Option.bind_some, h2, h3, h4, cond_true]
  · cases h
/-! spec_boTurn -/
noncomputable def spec_boTurn.cfg : Cfg := { C0 with keep := fun | 3 => some [1, 2, 3, 4] | 6 => some [1, 2, 3, 4, 5] | _ => none, nb := 0, M := tabM [], MM := tabB [] }
noncomputable def spec_boTurn.l3 (n : Nat) (m3 : Nat) (i0 : Int) (i1 : Int) (i2 : Int) (l3 : List (List D)) (i4 : Int) (i5 : Int) (l6 : List (List D)) (i7 : Int) (i8 : Int) (l9 : List (List D)) : Option (List Q) :=
  loopAt spec_boTurn.cfg [RK.agg [LK.int IntKind.i64, LK.int IntKind.i64, LK.sl (1 : Nat)]] n Tryd.f55 [1, 1, 0, 1, 0] [] m3 (St.mk [V.undef, V.rp (0 : Nat) (0 : Nat), V.rp (1 : Nat) (0 : Nat), V.rp (3 : Nat) (0 : Nat), V.one true (D.int IntKind.i64 i0), V.undef, V.undef, V.undef, V.undef, V.undef, V.undef, V.undef, V.undef, V.undef, V.undef, V.undef, V.undef, V.undef, V.undef, V.undef, V.undef, V.undef, V.undef, V.undef, V.undef, V.undef, V.undef, V.undef, V.undef, V.undef, V.undef, V.undef, V.undef, V.undef, V.undef, V.undef, V.undef, V.undef, V.undef, V.undef] [Ob.box [V.one true (D.int IntKind.i64 i1), V.one true (D.int IntKind.i64 i2), V.one false (D.sl (1 : Nat) l3)], Ob.box [V.one true (D.int IntKind.i64 i4), V.one true (D.int IntKind.i64 i5), V.rw (2 : Nat)], Ob.row false (1 : Nat) l6, Ob.box [V.one true (D.int IntKind.i64 i7), V.one true (D.int IntKind.i64 i8), V.rw (4 : Nat)], Ob.row false (1 : Nat) l9])
noncomputable def spec_boTurn.l6 (n : Nat) (m3 : Nat) (m6 : Nat) (i0 : Int) (i1 : Int) (i2 : Int) (i3 : Int) (l4 : List (List D)) (i5 : Int) (i6 : Int) (l7 : List (List D)) (i8 : Int) (i9 : Int) (l10 : List (List D)) : Option (List Q) :=
  loopAt spec_boTurn.cfg [RK.agg [LK.int IntKind.i64, LK.int IntKind.i64, LK.sl (1 : Nat)]] n Tryd.f55 [1, 1, 0, 1, 0, 0, 1, 0, 0, 1, 0] [m3] m6 (St.mk [V.undef, V.rp (0 : Nat) (0 : Nat), V.rp (1 : Nat) (0 : Nat), V.rp (3 : Nat) (0 : Nat), V.one true (D.int IntKind.i64 i0), V.one true (D.int IntKind.i64 i1), V.undef, V.undef, V.undef, V.undef, V.undef, V.undef, V.undef, V.undef, V.undef, V.undef, V.undef, V.undef, V.undef, V.undef, V.undef, V.undef, V.undef, V.undef, V.undef, V.undef, V.undef, V.undef, V.undef, V.undef, V.undef, V.undef, V.undef, V.undef, V.undef, V.undef, V.undef, V.undef, V.undef, V.undef] [Ob.box [V.one true (D.int IntKind.i64 i2), V.one true (D.int IntKind.i64 i3), V.one false (D.sl (1 : Nat) l4)], Ob.box [V.one true (D.int IntKind.i64 i5), V.one true (D.int IntKind.i64 i6), V.rw (2 : Nat)], Ob.row false (1 : Nat) l7, Ob.box [V.one true (D.int IntKind.i64 i8), V.one true (D.int IntKind.i64 i9), V.rw (4 : Nat)], Ob.row false (1 : Nat) l10])
theorem spec_boTurn.l3_eq (n : Nat) (m3 : Nat) (i0 : Int) (i1 : Int) (i2 : Int) (l3 : List (List D)) (i4 : Int) (i5 : Int) (l6 : List (List D)) (i7 : Int) (i8 : Int) (l9 : List (List D)) :
    spec_boTurn.l3 n (m3 + 1) i0 i1 i2 l3 i4 i5 l6 i7 i8 l9 = bif decide (i0 < i1) then spec_boTurn.l6 n m3 n i0 (IntKind.wrap IntKind.i64 (i2 - (1 : Int))) i1 i2 l3 i4 i5 l6 i7 i8 l9 else some [Q.agg [D.int IntKind.i64 i7, D.int IntKind.i64 i8, D.sl (1 : Nat) l9]] := by kernel_rfl
theorem spec_boTurn.l6_eq (n : Nat) (m3 : Nat) (m6 : Nat) (i0 : Int) (i1 : Int) (i2 : Int) (i3 : Int) (l4 : List (List D)) (i5 : Int) (i6 : Int) (l7 : List (List D)) (i8 : Int) (i9 : Int) (l10 : List (List D)) :
    spec_boTurn.l6 n m3 (m6 + 1) i0 i1 i2 i3 l4 i5 i6 l7 i8 i9 l10 = bif decide (i1 ≥ (0 : Int)) then bif decide ((0 : Int) ≤ IntKind.wrap IntKind.i64 (IntKind.wrap IntKind.i64 (i1 * i2) + i0)) then bif decide (IntKind.wrap IntKind.i64 (IntKind.wrap IntKind.i64 (i1 * i2) + i0) < (↑(List.length l4) : Int)) then Option.bind (Option.bind (some (cellD l4 (Int.toNat (IntKind.wrap IntKind.i64 (IntKind.wrap IntKind.i64 (i1 * i2) + i0))) (0 : Nat))) (D.int? IntKind.u8)) fun (i1_1 : Int) => bif decide (List.length l10 + (1 : Nat) ≤ (17179869184 : Nat)) then spec_boTurn.l6 n m3 m6 i0 (IntKind.wrap IntKind.i64 (i1 - (1 : Int))) i2 i3 l4 i5 i6 l7 i8 i9 (l10 ++ [[D.int IntKind.u8 i1_1]]) else none else none else none else spec_boTurn.l3 n m3 (IntKind.wrap IntKind.i64 (i0 + (1 : Int))) i2 i3 l4 i5 i6 l7 i8 i9 l10 := by kernel_rfl
noncomputable def spec_boTurn.res (n : Nat) (a0_0 : Int) (a0_1 : Int) (a0_2 : List (List D)) : Option (List Q) :=
  spec_boTurn.l3 n n (0 : Int) a0_0 a0_1 a0_2 (0 : Int) (0 : Int) [] a0_1 a0_0 []
theorem spec_boTurn.run (n : Nat) (a0_0 : Int) (a0_1 : Int) (a0_2 : List (List D)) :
    run1 spec_boTurn.cfg [RK.agg [LK.int IntKind.i64, LK.int IntKind.i64, LK.sl (1 : Nat)]] n Tryd.f55 [Q.agg [D.int IntKind.i64 a0_0, D.int IntKind.i64 a0_1, D.sl (1 : Nat) a0_2]] = spec_boTurn.res n a0_0 a0_1 a0_2 := by kernel_rfl
theorem spec_boTurn.ev {n : Nat} {a0_0 : Int} {a0_1 : Int} {a0_2 : List (List D)} {r : List Q} (h : spec_boTurn.res n a0_0 a0_1 a0_2 = some r) : Snd Tryd.prog C0 55 [.agg [.int .i64 a0_0, .int .i64 a0_1, .sl 1 a0_2]] r :=
  snd_ev (C := spec_boTurn.cfg) cfg0 mix rfl rfl rfl rfl rfl .nil .nil rfl Tryd.func55 (by kernel_rfl) (by kernel_rfl) rfl ((spec_boTurn.run n a0_0 a0_1 a0_2).trans h)

theorem spec_boTurn.l6_run {n m3 : Nat} {w h x : Nat} {cs : List UInt8} (hw : w ≤ 7) (hh : h ≤ 7) (hc : cs.length = w * h) (hx : x < w) : ∀ (d m : Nat) (out : List UInt8), d < m → d ≤ h → out.length + d ≤ 49 →
    spec_boTurn.l6 n m3 m (x : Int) ((d : Int) - 1) (w : Int) (h : Int) (u8C.encs cs) 0 0 [] (h : Int) (w : Int) (u8C.encs out) = spec_boTurn.l3 n m3 ((x + 1 : Nat) : Int) (w : Int) (h : Int) (u8C.encs cs) 0 0 [] (h : Int) (w : Int) (u8C.encs (out ++ colUp w cs x d)) := by
  intro d
  induction d with
  | zero =>
    intro m out hm hd ho
    obtain ⟨m, rfl⟩ : ∃ m', m = m' + 1 := ⟨m - 1, by omega⟩
    have h1 : ¬ (((0 : Nat) : Int) - 1) ≥ 0 := by omega
    rw [spec_boTurn.l6_eq]
    simp only [h1, decide_false, cond_false, wrap_succ (show x ≤ LIM by unfold LIM; omega)]
    rw [show colUp w cs x 0 = [] from rfl, List.append_nil]
  | succ d ih =>
    intro m out hm hd ho
    obtain ⟨m, rfl⟩ : ∃ m', m = m' + 1 := ⟨m - 1, by omega⟩
    have h1 : (d : Int) ≥ 0 := by omega
    have hdw : (d + 1) * w ≤ h * w := Nat.mul_le_mul_right _ hd
    have hd1 : (d + 1) * w = d * w + w := by rw [Nat.add_mul, Nat.one_mul]
    have hhw : h * w ≤ 49 := by
      have := Nat.mul_le_mul hh hw
      omega
    have hwh : w * h = h * w := Nat.mul_comm w h
    have hlt : d * w + x < cs.length := by omega
    have e0 : ((d + 1 : Nat) : Int) - 1 = (d : Int) := by omega
    have e1 : IntKind.wrap .i64 ((d : Int) * (w : Int)) = ((d * w : Nat) : Int) := by rw [← Int.natCast_mul, wrap_in (by omega) (by omega)]
    have e2 : IntKind.wrap .i64 (((d * w : Nat) : Int) + (x : Int)) = ((d * w + x : Nat) : Int) := by rw [← Int.natCast_add, wrap_in (by omega) (by omega)]
    have e3 : IntKind.wrap .i64 ((d : Int) - 1) = (d : Int) - 1 := wrap_in (by omega) (by omega)
    have h2 : ((d * w + x : Nat) : Int) < ((cs.length : Nat) : Int) := by omega
    have h3 : out.length + 1 ≤ 17179869184 := by omega
    have step := ih m (out ++ [cs[d * w + x]]) (by omega) (by omega) (by rw [List.length_append, List.length_singleton]; omega)
    rw [spec_boTurn.l6_eq, e0]
    simp only [h1, h2, h3, e1, e2, e3, Cod.encs_len, Int.natCast_nonneg, Int.toNat_natCast, decide_true, cond_true, u8C_cell hlt, Option.bind_some, u8C_snoc, step]
    rw [colUp_succ, List.append_assoc, List.singleton_append, List.getD_eq_getElem?_getD, List.getElem?_eq_getElem hlt]
    rfl
theorem spec_boTurn.l3_run {n : Nat} {w h : Nat} {cs : List UInt8} (hw : w ≤ 7) (hh : h ≤ 7) (hc : cs.length = w * h) (hn : 8 ≤ n) : ∀ (d x m : Nat), x + d = w → d < m →
    spec_boTurn.l3 n m (x : Int) (w : Int) (h : Int) (u8C.encs cs) 0 0 [] (h : Int) (w : Int) (u8C.encs (turnTo w h cs x)) = some [Q.agg [.int .i64 (h : Int), .int .i64 (w : Int), .sl 1 (u8C.encs (turnC w h cs))]] := by
  intro d
  induction d with
  | zero =>
    intro x m hx hm
    obtain ⟨m, rfl⟩ : ∃ m', m = m' + 1 := ⟨m - 1, by omega⟩
    obtain rfl : x = w := by omega
    have h1 : ¬ (x : Int) < (x : Int) := by omega
    rw [spec_boTurn.l3_eq]
    simp only [h1, decide_false, cond_false, turnTo_all]
  | succ d ih =>
    intro x m hx hm
    obtain ⟨m, rfl⟩ : ∃ m', m = m' + 1 := ⟨m - 1, by omega⟩
    have h1 : (x : Int) < (w : Int) := by omega
    have e1 : IntKind.wrap .i64 ((h : Int) - 1) = (h : Int) - 1 := wrap_in (by omega) (by omega)
    have hl := turnTo_len w h cs x
    have hb : x * h + h ≤ 49 := by
      have := Nat.mul_le_mul (show x + 1 ≤ 7 by omega) hh
      rw [Nat.add_mul] at this; omega
    have step := ih (x + 1) m (by omega) (by omega)
    rw [turnTo_succ] at step
    rw [spec_boTurn.l3_eq]
    simp only [h1, e1, decide_true, cond_true]
    rw [spec_boTurn.l6_run hw hh hc (by omega) h n _ (by omega) (Nat.le_refl _) (by omega)]
    exact step
def spec_boTurn.stub : Stub
  | [.agg [.int .i64 W, .int .i64 H, .sl 1 es]] => .any (u8C.decs es) fun cs => .gd (Sp.inR W 0 7) (.gd (Sp.inR H 0 7) (.gd (decide (cs.length = W.toNat * H.toNat)) (.ret [.agg [.int .i64 H, .int .i64 W, .sl 1 (u8C.encs (Sp.turnC W.toNat H.toNat cs))]])))
  | _ => .fail
theorem spec_boTurn.ok : StubOk Tryd.prog C0 55 spec_boTurn.stub := by
  intro args res h
  unfold spec_boTurn.stub at h
  split at h
  · rename_i W H es
    obtain ⟨cs, h1, h0⟩ := any_out h
    obtain ⟨rfl, hl⟩ := Cod.decs_inv h1
    obtain ⟨h2, h0⟩ := gd_out h0
    obtain ⟨h3, h0⟩ := gd_out h0
    obtain ⟨h4, h0⟩ := gd_out h0
    cases h0
    have h4 := of_decide_eq_true h4
    obtain ⟨k1, k2⟩ := inR_out h2
    obtain ⟨k3, k4⟩ := inR_out h3
    obtain ⟨w, rfl⟩ : ∃ n : Nat, W = (n : Int) := ⟨W.toNat, by omega⟩
    obtain ⟨g, rfl⟩ : ∃ n : Nat, H = (n : Int) := ⟨H.toNat, by omega⟩
    simp only [Int.toNat_natCast] at h4 ⊢
    obtain ⟨N, hN⟩ : ∃ N, 44 ≤ N := ⟨44, Nat.le_refl _⟩
    refine spec_boTurn.ev (n := N) ?_
    have key := spec_boTurn.l3_run (n := N) (w := w) (h := g) (cs := cs) (by omega) (by omega) h4 (by omega) w 0 N (by omega) (by omega)
    exact key
  · cases h
/-! impl_grid_turn -/
noncomputable def impl_grid_turn.cfg : Cfg := { C0 with keep := fun | 3 => some [0, 3, 11, 12] | 7 => some [0, 3, 4, 5, 6, 11, 12] | _ => none, nb := 0, M := tabM [], MM := tabB [] }
noncomputable def impl_grid_turn.l3 (n : Nat) (m3 : Nat) (l0 : List (List D)) (i1 : Int) (i2 : Int) (l3 : List (List D)) : Option (List Q) :=
  loopAt impl_grid_turn.cfg [RK.own (1 : Nat)] n Tryd.f57 [1, 1, 0, 1, 0] [] m3 (St.mk [V.one false (D.sl (1 : Nat) l0), V.undef, V.undef, V.rw (0 : Nat), V.undef, V.undef, V.undef, V.undef, V.undef, V.undef, V.undef, V.one true (D.int IntKind.i64 i1), V.one true (D.int IntKind.i64 i2), V.undef, V.undef, V.undef, V.undef, V.undef, V.undef, V.undef, V.undef, V.undef, V.undef, V.undef, V.undef, V.undef, V.undef, V.undef, V.undef, V.undef, V.undef, V.undef, V.undef, V.undef, V.undef, V.undef, V.undef, V.undef, V.undef] [Ob.row false (1 : Nat) l3])
noncomputable def impl_grid_turn.l7 (n : Nat) (m3 : Nat) (m7 : Nat) (l0 : List (List D)) (i1 : Int) (i2 : Int) (i3 : Int) (i4 : Int) (l5 : List (List D)) (l6 : List (List D)) : Option (List Q) :=
  loopAt impl_grid_turn.cfg [RK.own (1 : Nat)] n Tryd.f57 [1, 1, 0, 1, 0, 0, 1, 1, 0, 0, 1, 1, 0, 1, 0] [m3] m7 (St.mk [V.one false (D.sl (1 : Nat) l0), V.undef, V.undef, V.rw (0 : Nat), V.one true (D.int IntKind.i64 i1), V.rw (1 : Nat), V.one true (D.int IntKind.i64 i2), V.undef, V.undef, V.undef, V.undef, V.one true (D.int IntKind.i64 i3), V.one true (D.int IntKind.i64 i4), V.undef, V.undef, V.undef, V.undef, V.undef, V.undef, V.undef, V.undef, V.undef, V.undef, V.undef, V.undef, V.undef, V.undef, V.undef, V.undef, V.undef, V.undef, V.undef, V.undef, V.undef, V.undef, V.undef, V.undef, V.undef, V.undef] [Ob.row false (1 : Nat) l5, Ob.row false (1 : Nat) l6])
theorem impl_grid_turn.l3_eq (n : Nat) (m3 : Nat) (l0 : List (List D)) (i1 : Int) (i2 : Int) (l3 : List (List D)) :
    impl_grid_turn.l3 n (m3 + 1) l0 i1 i2 l3 = bif decide (i2 < i1) then impl_grid_turn.l7 n m3 n l0 i2 (IntKind.wrap IntKind.i64 ((↑(List.length l0) : Int) - (1 : Int))) i1 i2 l3 [] else some [Q.one (D.sl (1 : Nat) l3)] := by kernel_rfl
theorem impl_grid_turn.l7_eq (n : Nat) (m3 : Nat) (m7 : Nat) (l0 : List (List D)) (i1 : Int) (i2 : Int) (i3 : Int) (i4 : Int) (l5 : List (List D)) (l6 : List (List D)) :
    impl_grid_turn.l7 n m3 (m7 + 1) l0 i1 i2 i3 i4 l5 l6 = bif decide (i2 ≥ (0 : Int)) then bif decide ((0 : Int) ≤ i2) then bif decide (i2 < (↑(List.length l0) : Int)) then Option.bind (Option.bind (some (cellD l0 (Int.toNat i2) (0 : Nat))) D.str?) fun (s2 : ByteArray) => bif decide ((0 : Int) ≤ i1) then bif decide (i1 < (↑(ByteArray.size s2) : Int)) then bif decide (List.length l6 + (1 : Nat) ≤ (17179869184 : Nat)) then impl_grid_turn.l7 n m3 m7 l0 i1 (IntKind.wrap IntKind.i64 (i2 - (1 : Int))) i3 i4 l5 (l6 ++ [[D.int IntKind.u8 (byteAt s2 (Int.toNat i1))]]) else none else none else none else none else none else Option.bind (Option.map (fun (l : List UInt8) => ByteArray.mk (List.toArray l)) (rowStr? l6)) fun (s3 : ByteArray) => bif decide (List.length l5 + (1 : Nat) ≤ (17179869184 : Nat)) then impl_grid_turn.l3 n m3 l0 i3 (IntKind.wrap IntKind.i64 (i4 + (1 : Int))) (l5 ++ [[D.str s3]]) else none := by kernel_rfl
noncomputable def impl_grid_turn.res (n : Nat) (a0 : List (List D)) : Option (List Q) :=
  bif decide ((0 : Int) < (↑(List.length a0) : Int)) then Option.bind (Option.bind (some (cellD a0 (Int.toNat (0 : Int)) (0 : Nat))) D.str?) fun (s1 : ByteArray) => impl_grid_turn.l3 n n a0 (↑(ByteArray.size s1) : Int) (0 : Int) [] else none
theorem impl_grid_turn.run (n : Nat) (a0 : List (List D)) :
    run1 impl_grid_turn.cfg [RK.own (1 : Nat)] n Tryd.f57 [Q.one (D.sl (1 : Nat) a0)] = impl_grid_turn.res n a0 := by kernel_rfl
theorem impl_grid_turn.ev {n : Nat} {a0 : List (List D)} {r : List Q} (h : impl_grid_turn.res n a0 = some r) : Snd Tryd.prog C0 57 [.one (.sl 1 a0)] r :=
  snd_ev (C := impl_grid_turn.cfg) cfg0 mix rfl rfl rfl rfl rfl .nil .nil rfl Tryd.func57 (by kernel_rfl) (by kernel_rfl) rfl ((impl_grid_turn.run n a0).trans h)

theorem impl_grid_turn.l7_run {n m3 : Nat} {l : List ByteArray} {x : Nat} {W : Int} {out : List (List D)} (hu : unif (lb l) = true) (hl : l.length ≤ 7) (hx : x < wOf (lb l)) (hw : wOf (lb l) ≤ 7) (ho : out.length + 1 ≤ 17179869184) : ∀ (d m : Nat) (row : List UInt8), d < m → d ≤ l.length → row.length + d ≤ 49 →
    impl_grid_turn.l7 n m3 m (strC.encs l) (x : Int) ((d : Int) - 1) W (x : Int) out (u8C.encs row) = impl_grid_turn.l3 n m3 (strC.encs l) W ((x + 1 : Nat) : Int) (out ++ [[D.str (mkB (row ++ colR (lb l) x d))]]) := by
  intro d
  induction d with
  | zero =>
    intro m row hm hd hr
    obtain ⟨m, rfl⟩ : ∃ m', m = m' + 1 := ⟨m - 1, by omega⟩
    have h1 : ¬ (((0 : Nat) : Int) - 1) ≥ 0 := by omega
    rw [impl_grid_turn.l7_eq]
    simp only [h1, ho, decide_false, cond_false, decide_true, cond_true, wrap_succ (show x ≤ LIM by unfold LIM; omega), rowStr_u8, Option.map_some, Option.bind_some]
    rw [show colR (lb l) x 0 = [] from rfl, List.append_nil]
    rfl
  | succ d ih =>
    intro m row hm hd hr
    obtain ⟨m, rfl⟩ : ∃ m', m = m' + 1 := ⟨m - 1, by omega⟩
    have h1 : (d : Int) ≥ 0 := by omega
    have hlt : d < l.length := by omega
    have e0 : ((d + 1 : Nat) : Int) - 1 = (d : Int) := by omega
    have e3 : IntKind.wrap .i64 ((d : Int) - 1) = (d : Int) - 1 := wrap_in (by omega) (by omega)
    have h2 : (d : Int) < ((l.length : Nat) : Int) := by omega
    have h3 : row.length + 1 ≤ 17179869184 := by omega
    have hs := lb_wget hu hlt
    have h4 : (x : Int) < ((l[d].size : Nat) : Int) := by omega
    have hxl : x < (bl l[d]).length := by rw [bl_len]; omega
    have step := ih m (row ++ [(bl l[d])[x]]) (by omega) (by omega) (by rw [List.length_append, List.length_singleton]; omega)
    rw [impl_grid_turn.l7_eq, e0]
    simp only [h1, h2, h3, h4, e3, Cod.encs_len, Int.natCast_nonneg, Int.toNat_natCast, decide_true, cond_true, strC_cell hlt, Option.bind_some, byteAt_bl hxl, u8C_snoc, step]
    rw [colR_succ, List.append_assoc, List.singleton_append, lb_get hlt, List.getD_eq_getElem?_getD, List.getElem?_eq_getElem hxl]
    rfl
theorem impl_grid_turn.l3_run {n : Nat} {l : List ByteArray} (hu : unif (lb l) = true) (hl : l.length ≤ 7) (hw : wOf (lb l) ≤ 7) (hn : 8 ≤ n) : ∀ (d x m : Nat), x + d = wOf (lb l) → d < m →
    impl_grid_turn.l3 n m (strC.encs l) ((wOf (lb l) : Nat) : Int) (x : Int) (strC.encs ((turnRTo (lb l) x).map mkB)) = some [Q.one (.sl 1 (strC.encs ((turnR (lb l)).map mkB)))] := by
  intro d
  induction d with
  | zero =>
    intro x m hx hm
    obtain ⟨m, rfl⟩ : ∃ m', m = m' + 1 := ⟨m - 1, by omega⟩
    obtain rfl : x = wOf (lb l) := by omega
    have h1 : ¬ ((wOf (lb l) : Nat) : Int) < ((wOf (lb l) : Nat) : Int) := by omega
    rw [impl_grid_turn.l3_eq]
    simp only [h1, decide_false, cond_false, turnRTo_all]
  | succ d ih =>
    intro x m hx hm
    obtain ⟨m, rfl⟩ : ∃ m', m = m' + 1 := ⟨m - 1, by omega⟩
    have h1 : (x : Int) < ((wOf (lb l) : Nat) : Int) := by omega
    have e1 : IntKind.wrap .i64 ((l.length : Int) - 1) = (l.length : Int) - 1 := wrap_in (by omega) (by omega)
    have step := ih (x + 1) m (by omega) (by omega)
    rw [turnRTo_succ, List.map_append, List.map_singleton, ← strC_snoc, lb_len] at step
    have key := impl_grid_turn.l7_run (n := n) (m3 := m) (W := ((wOf (lb l) : Nat) : Int)) (out := strC.encs ((turnRTo (lb l) x).map mkB)) hu hl (show x < wOf (lb l) by omega) hw (by rw [Cod.encs_len, List.length_map, turnRTo_len]; omega) l.length n [] (by omega) (Nat.le_refl _) (by simp; omega)
    rw [impl_grid_turn.l3_eq]
    simp only [h1, e1, Cod.encs_len, decide_true, cond_true]
    exact key.trans step
def impl_grid_turn.stub : Stub
  | [.one (.sl 1 es)] => .any (strC.decs es) fun l => .gd (Sp.unif (Sp.lb l)) (.gd (Sp.inR l.length 1 7) (.gd (Sp.inR (Sp.wOf (Sp.lb l)) 0 7) (.ret [.one (.sl 1 (strC.encs (Sp.turnB l)))])))
  | _ => .fail
theorem impl_grid_turn.ok : StubOk Tryd.prog C0 57 impl_grid_turn.stub := by
  intro args res h
  unfold impl_grid_turn.stub at h
  split at h
  · rename_i es
    obtain ⟨l, h1, h0⟩ := any_out h
    obtain ⟨rfl, hl⟩ := Cod.decs_inv h1
    obtain ⟨hu, h0⟩ := gd_out h0
    obtain ⟨h3, h0⟩ := gd_out h0
    obtain ⟨h4, h0⟩ := gd_out h0
    cases h0
    obtain ⟨k1, k2⟩ := inR_out h3
    obtain ⟨k3, k4⟩ := inR_out h4
    have hpos : 0 < l.length := by omega
    have hpos' : (0 : Int) < ((l.length : Nat) : Int) := by omega
    obtain ⟨N, hN⟩ : ∃ N, 44 ≤ N := ⟨44, Nat.le_refl _⟩
    refine impl_grid_turn.ev (n := N) ?_
    unfold impl_grid_turn.res
    rw [show Int.toNat (0 : Int) = 0 from rfl]
    simp only [Cod.encs_len, hpos', decide_true, cond_true, strC_cell hpos, Option.bind_some, ← lb_w hpos]
    have key := impl_grid_turn.l3_run (n := N) hu (by omega) (by omega) (by omega) (wOf (lb l)) 0 N (by omega) (by omega)
    exact key
  · cases h
/-! impl_grid_text -/
noncomputable def impl_grid_text.cfg : Cfg := { C0 with keep := fun _ => none, nb := 0, M := tabM [(89, strings_Join.stub)], MM := tabB [] }
noncomputable def impl_grid_text.res (n : Nat) (a0 : List (List D)) : Option (List Q) :=
  Option.bind (Cod.decs strC a0) fun (l1 : List ByteArray) => bif decide (List.length (jn (lb l1)) ≤ (17179869184 : Nat)) then some [Q.one (D.str (mkB (jn (lb l1))))] else none
theorem impl_grid_text.run (n : Nat) (a0 : List (List D)) :
    run1 impl_grid_text.cfg [RK.one LK.str] n Tryd.f58 [Q.one (D.sl (1 : Nat) a0)] = impl_grid_text.res n a0 := by kernel_rfl
theorem impl_grid_text.ev {n : Nat} {a0 : List (List D)} {r : List Q} (h : impl_grid_text.res n a0 = some r) : Snd Tryd.prog C0 58 [.one (.sl 1 a0)] r :=
  snd_ev (C := impl_grid_text.cfg) cfg0 mix rfl rfl rfl rfl rfl (.cons strings_Join.ok .nil) .nil rfl Tryd.func58 (by kernel_rfl) (by kernel_rfl) rfl ((impl_grid_text.run n a0).trans h)

def impl_grid_text.stub : Stub
  | [.one (.sl 1 es)] => .any (strC.decs es) fun l => .gd (decide ((Sp.jn (Sp.lb l)).length ≤ LIM)) (.ret [.one (.str (Sp.mkB (Sp.jn (Sp.lb l))))])
  | _ => .fail
theorem impl_grid_text.ok : StubOk Tryd.prog C0 58 impl_grid_text.stub := by
  intro args res h
  unfold impl_grid_text.stub at h
  split at h
  · rename_i es
    obtain ⟨l, h1, h0⟩ := any_out h
    obtain ⟨h3, h0⟩ := gd_out h0
    cases h0
    unfold LIM at h3
    refine impl_grid_text.ev (n := 0) ?_
    unfold impl_grid_text.res
    rw [h1]
    simp only [Option.bind_some, h3, cond_true]
  · cases h
/-! impl_isDigit -/
noncomputable def impl_isDigit.cfg : Cfg := { C0 with keep := fun _ => none, nb := 0, M := tabM [], MM := tabB [] }
noncomputable def impl_isDigit.res (n : Nat) (a0 : Int) : Option (List Q) :=
  bif decide (a0 ≥ (48 : Int)) then some [Q.one (D.bool (decide (a0 ≤ (57 : Int))))] else some [Q.one (D.bool false)]
theorem impl_isDigit.run (n : Nat) (a0 : Int) :
    run1 impl_isDigit.cfg [RK.one LK.bool] n Tryd.f91 [Q.one (D.int IntKind.u8 a0)] = impl_isDigit.res n a0 := by kernel_rfl
theorem impl_isDigit.ev {n : Nat} {a0 : Int} {r : List Q} (h : impl_isDigit.res n a0 = some r) : Snd Tryd.prog C0 91 [.one (.int .u8 a0)] r :=
  snd_ev (C := impl_isDigit.cfg) cfg0 mix rfl rfl rfl rfl rfl .nil .nil rfl Tryd.func91 (by kernel_rfl) (by kernel_rfl) rfl ((impl_isDigit.run n a0).trans h)

def impl_isDigit.stub : Stub
  | [.one (.int .u8 c)] => .ret [.one (.bool (Sp.digI c))]
  | _ => .fail
theorem impl_isDigit.ok : StubOk Tryd.prog C0 91 impl_isDigit.stub := by
  intro args res h
  unfold impl_isDigit.stub at h
  split at h
  · rename_i c
    cases h
    refine impl_isDigit.ev (n := 0) ?_
    unfold impl_isDigit.res digI
    rw [show decide (c ≥ 48) = decide (48 ≤ c) from rfl]
    cases decide (48 ≤ c) <;> rfl
  · cases h
/-! impl_grid_floor -/
noncomputable def impl_grid_floor.cfg : Cfg := { C0 with keep := fun | 3 => some [3, 10, 11, 12] | 7 => some [3, 6, 10, 11, 12, 18, 19, 20] | _ => none, nb := 0, M := tabM [(91, impl_isDigit.stub)], MM := tabB [] }
noncomputable def impl_grid_floor.l3 (n : Nat) (m3 : Nat) (l0 : List (List D)) (i1 : Int) (i2 : Int) (l3 : List (List D)) : Option (List Q) :=
  loopAt impl_grid_floor.cfg [RK.own (1 : Nat)] n Tryd.f63 [1, 1, 0, 1, 0] [] m3 (St.mk [V.undef, V.undef, V.undef, V.rw (0 : Nat), V.undef, V.undef, V.undef, V.undef, V.undef, V.undef, V.one false (D.sl (1 : Nat) l0), V.one true (D.int IntKind.i64 i1), V.one true (D.int IntKind.i64 i2), V.undef, V.undef, V.undef, V.undef, V.undef, V.undef, V.undef, V.undef, V.undef, V.undef, V.undef, V.undef, V.undef, V.undef, V.undef, V.undef, V.undef, V.undef, V.undef, V.undef, V.undef, V.undef, V.undef, V.undef, V.undef] [Ob.row false (1 : Nat) l3])
noncomputable def impl_grid_floor.l7 (n : Nat) (m3 : Nat) (m7 : Nat) (l0 : List (List D)) (i1 : Int) (i2 : Int) (i3 : Int) (i4 : Int) (l5 : List (List D)) (l6 : List (List D)) : Option (List Q) :=
  loopAt impl_grid_floor.cfg [RK.own (1 : Nat)] n Tryd.f63 [1, 1, 0, 1, 0, 0, 1, 1, 0, 0, 1, 1, 0, 1, 0] [m3] m7 (St.mk [V.undef, V.undef, V.undef, V.rw (0 : Nat), V.undef, V.undef, V.rw (1 : Nat), V.undef, V.undef, V.undef, V.one false (D.sl (1 : Nat) l0), V.one true (D.int IntKind.i64 i1), V.one true (D.int IntKind.i64 i2), V.undef, V.undef, V.undef, V.undef, V.undef, V.rw (1 : Nat), V.one true (D.int IntKind.i64 i3), V.one true (D.int IntKind.i64 i4), V.undef, V.undef, V.undef, V.undef, V.undef, V.undef, V.undef, V.undef, V.undef, V.undef, V.undef, V.undef, V.undef, V.undef, V.undef, V.undef, V.undef] [Ob.row false (1 : Nat) l5, Ob.row false (1 : Nat) l6])
theorem impl_grid_floor.l3_eq (n : Nat) (m3 : Nat) (l0 : List (List D)) (i1 : Int) (i2 : Int) (l3 : List (List D)) :
    impl_grid_floor.l3 n (m3 + 1) l0 i1 i2 l3 = bif decide (i2 < i1) then bif decide ((0 : Int) ≤ i2) then bif decide (i2 < (↑(List.length l0) : Int)) then Option.bind (Option.bind (some (cellD l0 (Int.toNat i2) (0 : Nat))) D.str?) fun (s1 : ByteArray) => bif decide (ByteArray.size s1 ≤ (17179869184 : Nat)) then impl_grid_floor.l7 n m3 n l0 i1 i2 (↑(List.length (strRow s1)) : Int) (0 : Int) l3 (strRow s1) else none else none else none else some [Q.one (D.sl (1 : Nat) l3)] := by kernel_rfl
theorem impl_grid_floor.l7_eq (n : Nat) (m3 : Nat) (m7 : Nat) (l0 : List (List D)) (i1 : Int) (i2 : Int) (i3 : Int) (i4 : Int) (l5 : List (List D)) (l6 : List (List D)) :
    impl_grid_floor.l7 n m3 (m7 + 1) l0 i1 i2 i3 i4 l5 l6 = bif decide (i4 < i3) then bif decide ((0 : Int) ≤ i4) then bif decide (i4 < (↑(List.length l6) : Int)) then Option.bind (Option.bind (some (cellD l6 (Int.toNat i4) (0 : Nat))) (D.int? IntKind.u8)) fun (i2_1 : Int) => bif digI i2_1 then bif decide ((0 : Int) ≤ i4) then bif decide (i4 < (↑(List.length l6) : Int)) then impl_grid_floor.l7 n m3 m7 l0 i1 i2 i3 (IntKind.wrap IntKind.i64 (i4 + (1 : Int))) l5 (setRow (1 : Nat) l6 (Int.toNat i4) (0 : Nat) [D.int IntKind.u8 (46 : Int)]) else none else none else impl_grid_floor.l7 n m3 m7 l0 i1 i2 i3 (IntKind.wrap IntKind.i64 (i4 + (1 : Int))) l5 l6 else none else none else Option.bind (Option.map (fun (l : List UInt8) => ByteArray.mk (List.toArray l)) (rowStr? l6)) fun (s3 : ByteArray) => bif decide (List.length l5 + (1 : Nat) ≤ (17179869184 : Nat)) then impl_grid_floor.l3 n m3 l0 i1 (IntKind.wrap IntKind.i64 (i2 + (1 : Int))) (l5 ++ [[D.str s3]]) else none := by kernel_rfl
noncomputable def impl_grid_floor.res (n : Nat) (a0 : List (List D)) : Option (List Q) :=
  impl_grid_floor.l3 n n a0 (↑(List.length a0) : Int) (0 : Int) []
theorem impl_grid_floor.run (n : Nat) (a0 : List (List D)) :
    run1 impl_grid_floor.cfg [RK.own (1 : Nat)] n Tryd.f63 [Q.one (D.sl (1 : Nat) a0)] = impl_grid_floor.res n a0 := by kernel_rfl
theorem impl_grid_floor.ev {n : Nat} {a0 : List (List D)} {r : List Q} (h : impl_grid_floor.res n a0 = some r) : Snd Tryd.prog C0 63 [.one (.sl 1 a0)] r :=
  snd_ev (C := impl_grid_floor.cfg) cfg0 mix rfl rfl rfl rfl rfl (.cons impl_isDigit.ok .nil) .nil rfl Tryd.func63 (by kernel_rfl) (by kernel_rfl) rfl ((impl_grid_floor.run n a0).trans h)

theorem impl_grid_floor.l7_run {n m3 : Nat} {g : List (List D)} {I : Int} {i L : Nat} {out : List (List D)} (hi : i ≤ 7) (hL : L ≤ 7) (ho : out.length + 1 ≤ 17179869184) : ∀ (rest done : List UInt8) (m : Nat), done.length + rest.length = L → rest.length < m →
    impl_grid_floor.l7 n m3 m g I (i : Int) (L : Int) (done.length : Int) out (u8C.encs (done.map fl ++ rest)) = impl_grid_floor.l3 n m3 g I ((i + 1 : Nat) : Int) (out ++ [[D.str (mkB ((done ++ rest).map fl))]])
  | [], done, m, hl, hm => by
    obtain ⟨m, rfl⟩ : ∃ m', m = m' + 1 := ⟨m - 1, by simp at hm; omega⟩
    have h1 : ¬ (done.length : Int) < (L : Int) := by simp at hl; omega
    rw [impl_grid_floor.l7_eq]
    simp only [h1, ho, decide_false, cond_false, decide_true, cond_true, List.append_nil, rowStr_u8, Option.map_some, Option.bind_some, wrap_succ (show i ≤ LIM by unfold LIM; omega)]
    rfl
  | c :: rest, done, m, hl, hm => by
    obtain ⟨m, rfl⟩ : ∃ m', m = m' + 1 := ⟨m - 1, by simp at hm; omega⟩
    rw [List.length_cons] at hl hm
    have h1 : (done.length : Int) < (L : Int) := by omega
    have hlt : done.length < (done.map fl ++ c :: rest).length := by simp
    have h2 : (done.length : Int) < (((done.map fl ++ c :: rest).length : Nat) : Int) := by omega
    have hget : (done.map fl ++ c :: rest)[done.length] = c := by
      rw [List.getElem_append_right (by simp)]
      simp
    have step := impl_grid_floor.l7_run (n := n) (m3 := m3) (g := g) (I := I) (out := out) hi hL ho rest (done ++ [c]) m (by simp; omega) (by omega)
    rw [List.length_append, List.length_singleton, List.append_assoc, List.singleton_append, List.map_append, List.map_singleton, List.append_assoc, List.singleton_append] at step
    have hset : (done.map fl ++ c :: rest).set done.length 46 = done.map fl ++ 46 :: rest := by
      rw [List.set_append_right _ _ (by simp)]
      simp
    rw [impl_grid_floor.l7_eq]
    simp only [h1, h2, Cod.encs_len, Int.natCast_nonneg, Int.toNat_natCast, decide_true, cond_true, u8C_cell hlt, hget, Option.bind_some, wrap_succ (show done.length ≤ LIM by unfold LIM; omega), show D.int .u8 (46 : Int) = D.int .u8 ((46 : UInt8).toNat : Int) from rfl, u8C_set, hset]
    rw [show digI (c.toNat : Int) = dig c from rfl]
    cases hd : dig c with
    | true =>
      have e : fl c = 46 := by unfold fl; rw [hd]; rfl
      rw [e] at step
      exact step
    | false =>
      have e : fl c = c := by unfold fl; rw [hd]; rfl
      rw [e] at step
      exact step
theorem impl_grid_floor.l3_run {n : Nat} {l : List ByteArray} (hl : l.length ≤ 7) (hs : ∀ x ∈ l, x.size ≤ 7) (hn : 8 ≤ n) : ∀ (d i m : Nat), i + d = l.length → d < m →
    impl_grid_floor.l3 n m (strC.encs l) ((l.length : Nat) : Int) (i : Int) (strC.encs ((l.take i).map plainB)) = some [Q.one (.sl 1 (strC.encs (l.map plainB)))] := by
  intro d
  induction d with
  | zero =>
    intro i m hi hm
    obtain ⟨m, rfl⟩ : ∃ m', m = m' + 1 := ⟨m - 1, by omega⟩
    have h1 : ¬ (i : Int) < ((l.length : Nat) : Int) := by omega
    rw [impl_grid_floor.l3_eq, List.take_of_length_le (by omega)]
    simp only [h1, decide_false, cond_false]
  | succ d ih =>
    intro i m hi hm
    obtain ⟨m, rfl⟩ : ∃ m', m = m' + 1 := ⟨m - 1, by omega⟩
    have hlt : i < l.length := by omega
    have h1 : (i : Int) < ((l.length : Nat) : Int) := by omega
    have hx := hs l[i] (List.getElem_mem hlt)
    have h2 : l[i].size ≤ 17179869184 := by omega
    have step := ih (i + 1) m (by omega) (by omega)
    rw [List.take_succ_eq_append_getElem hlt, List.map_append, List.map_singleton, ← strC_snoc] at step
    have key := impl_grid_floor.l7_run (n := n) (m3 := m) (g := strC.encs l) (I := ((l.length : Nat) : Int)) (i := i) (L := l[i].size) (out := strC.encs ((l.take i).map plainB)) (by omega) hx (by rw [Cod.encs_len, List.length_map, List.length_take]; omega) (bl l[i]) [] n (by rw [bl_len]; simp) (by rw [bl_len]; omega)
    rw [impl_grid_floor.l3_eq]
    simp only [h1, h2, Cod.encs_len, Int.natCast_nonneg, Int.toNat_natCast, decide_true, cond_true, strC_cell hlt, Option.bind_some]
    rw [strRow_u8, Cod.encs_len, bl_len]
    exact key.trans step
def impl_grid_floor.stub : Stub
  | [.one (.sl 1 es)] => .any (strC.decs es) fun l => .gd (Sp.smallR l) (.ret [.one (.sl 1 (strC.encs (Sp.plainL l)))])
  | _ => .fail
theorem impl_grid_floor.ok : StubOk Tryd.prog C0 63 impl_grid_floor.stub := by
  intro args res h
  unfold impl_grid_floor.stub at h
  split at h
  · rename_i es
    obtain ⟨l, h1, h0⟩ := any_out h
    obtain ⟨rfl, hl⟩ := Cod.decs_inv h1
    obtain ⟨h2, h0⟩ := gd_out h0
    cases h0
    obtain ⟨k1, k2⟩ := smallR_out h2
    obtain ⟨N, hN⟩ : ∃ N, 44 ≤ N := ⟨44, Nat.le_refl _⟩
    refine impl_grid_floor.ev (n := N) ?_
    unfold impl_grid_floor.res
    rw [Cod.encs_len]
    have key := impl_grid_floor.l3_run (n := N) k1 k2 (by omega) l.length 0 N (by omega) (by omega)
    exact key
  · cases h
end Go.Proofs.EV.PL
