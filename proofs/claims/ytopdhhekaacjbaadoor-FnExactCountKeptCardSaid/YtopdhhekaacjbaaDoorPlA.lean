import Derived.Test.YtopdhhekaacjbaaDoorProg
import Derived.Test.YtopdhhekaacjbaaDoorEvC
set_option linter.unusedVariables false
/-! The seat's types. -/
namespace Go.Proofs.EV.PL
open Go Go.Proofs Go.Proofs.EV
def tyl : List (TypeId × TI) := [
  (1, ⟨.func, 1, [.nl .nilf], false⟩),
  (2, ⟨.int .i64, 1, [.int .i64], false⟩),
  (3, ⟨.int .i64, 1, [.int .i64], false⟩),
  (4, ⟨.bool, 1, [.bool], false⟩),
  (5, ⟨.int .u8, 1, [.int .u8], false⟩),
  (6, ⟨.int .u8, 1, [.int .u8], false⟩),
  (7, ⟨.struct [(0, 2), (1, 3), (2, 4), (3, 6)], 4, [.int .i64, .int .i64, .bool, .int .u8], true⟩),
  (8, ⟨.struct [(0, 2), (1, 3), (2, 4), (3, 6)], 4, [.int .i64, .int .i64, .bool, .int .u8], true⟩),
  (9, ⟨.string, 1, [.str], false⟩),
  (10, ⟨.string, 1, [.str], false⟩),
  (11, ⟨.string, 1, [.str], false⟩),
  (12, ⟨.int .u64, 1, [.int .u64], false⟩),
  (13, ⟨.struct [(0, 9), (1, 12)], 2, [.str, .int .u64], false⟩),
  (14, ⟨.struct [(0, 9), (1, 12)], 2, [.str, .int .u64], false⟩),
  (15, ⟨.pointer 96, 1, [.nl .nilp], false⟩),
  (16, ⟨.pointer 99, 1, [.nl .nilp], false⟩),
  (17, ⟨.pointer 108, 1, [.nl .nilp], false⟩),
  (18, ⟨.struct [(0, 17)], 1, [.nl .nilp], false⟩),
  (19, ⟨.struct [(0, 17)], 1, [.nl .nilp], false⟩),
  (20, ⟨.iface, 1, [.nl .nili], false⟩),
  (21, ⟨.int .i32, 1, [.int .i32], false⟩),
  (23, ⟨.func, 1, [.nl .nilf], false⟩),
  (24, ⟨.func, 1, [.nl .nilf], false⟩),
  (25, ⟨.slice 3, 1, [.sl 1], false⟩),
  (27, ⟨.func, 1, [.nl .nilf], false⟩),
  (28, ⟨.func, 1, [.nl .nilf], false⟩),
  (29, ⟨.func, 1, [.nl .nilf], false⟩),
  (30, ⟨.func, 1, [.nl .nilf], false⟩),
  (31, ⟨.func, 1, [.nl .nilf], false⟩),
  (32, ⟨.func, 1, [.nl .nilf], false⟩),
  (33, ⟨.func, 1, [.nl .nilf], false⟩),
  (34, ⟨.struct [(0, 3), (1, 3), (2, 3), (3, 3), (4, 3), (5, 3)], 6, [.int .i64, .int .i64, .int .i64, .int .i64, .int .i64, .int .i64], true⟩),
  (35, ⟨.struct [(0, 3), (1, 3), (2, 3), (3, 3), (4, 3), (5, 3)], 6, [.int .i64, .int .i64, .int .i64, .int .i64, .int .i64, .int .i64], true⟩),
  (36, ⟨.func, 1, [.nl .nilf], false⟩),
  (37, ⟨.func, 1, [.nl .nilf], false⟩),
  (38, ⟨.func, 1, [.nl .nilf], false⟩),
  (39, ⟨.func, 1, [.nl .nilf], false⟩),
  (40, ⟨.func, 1, [.nl .nilf], false⟩),
  (41, ⟨.slice 4, 1, [.sl 1], false⟩),
  (42, ⟨.func, 1, [.nl .nilf], false⟩),
  (43, ⟨.func, 1, [.nl .nilf], false⟩),
  (44, ⟨.func, 1, [.nl .nilf], false⟩),
  (45, ⟨.func, 1, [.nl .nilf], false⟩),
  (46, ⟨.func, 1, [.nl .nilf], false⟩),
  (47, ⟨.array 6 4, 6, [.bool, .bool, .bool, .bool, .bool, .bool], false⟩),
  (48, ⟨.func, 1, [.nl .nilf], false⟩),
  (49, ⟨.func, 1, [.nl .nilf], false⟩),
  (50, ⟨.func, 1, [.nl .nilf], false⟩),
  (51, ⟨.func, 1, [.nl .nilf], false⟩),
  (52, ⟨.array 256 4, 256, [.bool, .bool, .bool, .bool, .bool, .bool, .bool, .bool, .bool, .bool, .bool, .bool, .bool, .bool, .bool, .bool, .bool, .bool, .bool, .bool, .bool, .bool, .bool, .bool, .bool, .bool, .bool, .bool, .bool, .bool, .bool, .bool, .bool, .bool, .bool, .bool, .bool, .bool, .bool, .bool, .bool, .bool, .bool, .bool, .bool, .bool, .bool, .bool, .bool, .bool, .bool, .bool, .bool, .bool, .bool, .bool, .bool, .bool, .bool, .bool, .bool, .bool, .bool, .bool, .bool, .bool, .bool, .bool, .bool, .bool, .bool, .bool, .bool, .bool, .bool, .bool, .bool, .bool, .bool, .bool, .bool, .bool, .bool, .bool, .bool, .bool, .bool, .bool, .bool, .bool, .bool, .bool, .bool, .bool, .bool, .bool, .bool, .bool, .bool, .bool, .bool, .bool, .bool, .bool, .bool, .bool, .bool, .bool, .bool, .bool, .bool, .bool, .bool, .bool, .bool, .bool, .bool, .bool, .bool, .bool, .bool, .bool, .bool, .bool, .bool, .bool, .bool, .bool, .bool, .bool, .bool, .bool, .bool, .bool, .bool, .bool, .bool, .bool, .bool, .bool, .bool, .bool, .bool, .bool, .bool, .bool, .bool, .bool, .bool, .bool, .bool, .bool, .bool, .bool, .bool, .bool, .bool, .bool, .bool, .bool, .bool, .bool, .bool, .bool, .bool, .bool, .bool, .bool, .bool, .bool, .bool, .bool, .bool, .bool, .bool, .bool, .bool, .bool, .bool, .bool, .bool, .bool, .bool, .bool, .bool, .bool, .bool, .bool, .bool, .bool, .bool, .bool, .bool, .bool, .bool, .bool, .bool, .bool, .bool, .bool, .bool, .bool, .bool, .bool, .bool, .bool, .bool, .bool, .bool, .bool, .bool, .bool, .bool, .bool, .bool, .bool, .bool, .bool, .bool, .bool, .bool, .bool, .bool, .bool, .bool, .bool, .bool, .bool, .bool, .bool, .bool, .bool, .bool, .bool, .bool, .bool, .bool, .bool, .bool, .bool, .bool, .bool, .bool, .bool, .bool, .bool, .bool, .bool, .bool, .bool, .bool, .bool, .bool, .bool, .bool, .bool], false⟩),
  (53, ⟨.array 256 4, 256, [.bool, .bool, .bool, .bool, .bool, .bool, .bool, .bool, .bool, .bool, .bool, .bool, .bool, .bool, .bool, .bool, .bool, .bool, .bool, .bool, .bool, .bool, .bool, .bool, .bool, .bool, .bool, .bool, .bool, .bool, .bool, .bool, .bool, .bool, .bool, .bool, .bool, .bool, .bool, .bool, .bool, .bool, .bool, .bool, .bool, .bool, .bool, .bool, .bool, .bool, .bool, .bool, .bool, .bool, .bool, .bool, .bool, .bool, .bool, .bool, .bool, .bool, .bool, .bool, .bool, .bool, .bool, .bool, .bool, .bool, .bool, .bool, .bool, .bool, .bool, .bool, .bool, .bool, .bool, .bool, .bool, .bool, .bool, .bool, .bool, .bool, .bool, .bool, .bool, .bool, .bool, .bool, .bool, .bool, .bool, .bool, .bool, .bool, .bool, .bool, .bool, .bool, .bool, .bool, .bool, .bool, .bool, .bool, .bool, .bool, .bool, .bool, .bool, .bool, .bool, .bool, .bool, .bool, .bool, .bool, .bool, .bool, .bool, .bool, .bool, .bool, .bool, .bool, .bool, .bool, .bool, .bool, .bool, .bool, .bool, .bool, .bool, .bool, .bool, .bool, .bool, .bool, .bool, .bool, .bool, .bool, .bool, .bool, .bool, .bool, .bool, .bool, .bool, .bool, .bool, .bool, .bool, .bool, .bool, .bool, .bool, .bool, .bool, .bool, .bool, .bool, .bool, .bool, .bool, .bool, .bool, .bool, .bool, .bool, .bool, .bool, .bool, .bool, .bool, .bool, .bool, .bool, .bool, .bool, .bool, .bool, .bool, .bool, .bool, .bool, .bool, .bool, .bool, .bool, .bool, .bool, .bool, .bool, .bool, .bool, .bool, .bool, .bool, .bool, .bool, .bool, .bool, .bool, .bool, .bool, .bool, .bool, .bool, .bool, .bool, .bool, .bool, .bool, .bool, .bool, .bool, .bool, .bool, .bool, .bool, .bool, .bool, .bool, .bool, .bool, .bool, .bool, .bool, .bool, .bool, .bool, .bool, .bool, .bool, .bool, .bool, .bool, .bool, .bool, .bool, .bool, .bool, .bool, .bool, .bool, .bool, .bool, .bool, .bool, .bool, .bool], false⟩),
  (55, ⟨.func, 1, [.nl .nilf], false⟩),
  (56, ⟨.func, 1, [.nl .nilf], false⟩),
  (57, ⟨.pointer 53, 1, [.nl .nilp], false⟩),
  (58, ⟨.func, 1, [.nl .nilf], false⟩),
  (59, ⟨.func, 1, [.nl .nilf], false⟩),
  (60, ⟨.int .u64, 1, [.int .u64], false⟩),
  (61, ⟨.func, 1, [.nl .nilf], false⟩),
  (63, ⟨.func, 1, [.nl .nilf], false⟩),
  (64, ⟨.func, 1, [.nl .nilf], false⟩),
  (65, ⟨.func, 1, [.nl .nilf], false⟩),
  (66, ⟨.int .i64, 1, [.int .i64], false⟩),
  (68, ⟨.func, 1, [.nl .nilf], false⟩),
  (69, ⟨.func, 1, [.nl .nilf], false⟩),
  (70, ⟨.func, 1, [.nl .nilf], false⟩),
  (71, ⟨.func, 1, [.nl .nilf], false⟩),
  (72, ⟨.func, 1, [.nl .nilf], false⟩),
  (73, ⟨.func, 1, [.nl .nilf], false⟩),
  (74, ⟨.int .u32, 1, [.int .u32], false⟩),
  (75, ⟨.func, 1, [.nl .nilf], false⟩),
  (76, ⟨.int .u64, 1, [.int .u64], false⟩),
  (77, ⟨.func, 1, [.nl .nilf], false⟩),
  (78, ⟨.int .u64, 1, [.int .u64], false⟩),
  (79, ⟨.func, 1, [.nl .nilf], false⟩),
  (80, ⟨.func, 1, [.nl .nilf], false⟩),
  (81, ⟨.func, 1, [.nl .nilf], false⟩),
  (82, ⟨.pointer 3, 1, [.nl .nilp], false⟩),
  (83, ⟨.func, 1, [.nl .nilf], false⟩),
  (84, ⟨.array 256 5, 256, [.int .u8, .int .u8, .int .u8, .int .u8, .int .u8, .int .u8, .int .u8, .int .u8, .int .u8, .int .u8, .int .u8, .int .u8, .int .u8, .int .u8, .int .u8, .int .u8, .int .u8, .int .u8, .int .u8, .int .u8, .int .u8, .int .u8, .int .u8, .int .u8, .int .u8, .int .u8, .int .u8, .int .u8, .int .u8, .int .u8, .int .u8, .int .u8, .int .u8, .int .u8, .int .u8, .int .u8, .int .u8, .int .u8, .int .u8, .int .u8, .int .u8, .int .u8, .int .u8, .int .u8, .int .u8, .int .u8, .int .u8, .int .u8, .int .u8, .int .u8, .int .u8, .int .u8, .int .u8, .int .u8, .int .u8, .int .u8, .int .u8, .int .u8, .int .u8, .int .u8, .int .u8, .int .u8, .int .u8, .int .u8, .int .u8, .int .u8, .int .u8, .int .u8, .int .u8, .int .u8, .int .u8, .int .u8, .int .u8, .int .u8, .int .u8, .int .u8, .int .u8, .int .u8, .int .u8, .int .u8, .int .u8, .int .u8, .int .u8, .int .u8, .int .u8, .int .u8, .int .u8, .int .u8, .int .u8, .int .u8, .int .u8, .int .u8, .int .u8, .int .u8, .int .u8, .int .u8, .int .u8, .int .u8, .int .u8, .int .u8, .int .u8, .int .u8, .int .u8, .int .u8, .int .u8, .int .u8, .int .u8, .int .u8, .int .u8, .int .u8, .int .u8, .int .u8, .int .u8, .int .u8, .int .u8, .int .u8, .int .u8, .int .u8, .int .u8, .int .u8, .int .u8, .int .u8, .int .u8, .int .u8, .int .u8, .int .u8, .int .u8, .int .u8, .int .u8, .int .u8, .int .u8, .int .u8, .int .u8, .int .u8, .int .u8, .int .u8, .int .u8, .int .u8, .int .u8, .int .u8, .int .u8, .int .u8, .int .u8, .int .u8, .int .u8, .int .u8, .int .u8, .int .u8, .int .u8, .int .u8, .int .u8, .int .u8, .int .u8, .int .u8, .int .u8, .int .u8, .int .u8, .int .u8, .int .u8, .int .u8, .int .u8, .int .u8, .int .u8, .int .u8, .int .u8, .int .u8, .int .u8, .int .u8, .int .u8, .int .u8, .int .u8, .int .u8, .int .u8, .int .u8, .int .u8, .int .u8, .int .u8, .int .u8, .int .u8, .int .u8, .int .u8, .int .u8, .int .u8, .int .u8, .int .u8, .int .u8, .int .u8, .int .u8, .int .u8, .int .u8, .int .u8, .int .u8, .int .u8, .int .u8, .int .u8, .int .u8, .int .u8, .int .u8, .int .u8, .int .u8, .int .u8, .int .u8, .int .u8, .int .u8, .int .u8, .int .u8, .int .u8, .int .u8, .int .u8, .int .u8, .int .u8, .int .u8, .int .u8, .int .u8, .int .u8, .int .u8, .int .u8, .int .u8, .int .u8, .int .u8, .int .u8, .int .u8, .int .u8, .int .u8, .int .u8, .int .u8, .int .u8, .int .u8, .int .u8, .int .u8, .int .u8, .int .u8, .int .u8, .int .u8, .int .u8, .int .u8, .int .u8, .int .u8, .int .u8, .int .u8, .int .u8, .int .u8, .int .u8, .int .u8, .int .u8, .int .u8, .int .u8, .int .u8, .int .u8, .int .u8, .int .u8, .int .u8, .int .u8, .int .u8, .int .u8, .int .u8], false⟩),
  (85, ⟨.struct [(0, 5), (1, 5)], 2, [.int .u8, .int .u8], true⟩),
  (86, ⟨.struct [(0, 5), (1, 5)], 2, [.int .u8, .int .u8], true⟩),
  (87, ⟨.array 16 86, 32, [.int .u8, .int .u8, .int .u8, .int .u8, .int .u8, .int .u8, .int .u8, .int .u8, .int .u8, .int .u8, .int .u8, .int .u8, .int .u8, .int .u8, .int .u8, .int .u8, .int .u8, .int .u8, .int .u8, .int .u8, .int .u8, .int .u8, .int .u8, .int .u8, .int .u8, .int .u8, .int .u8, .int .u8, .int .u8, .int .u8, .int .u8, .int .u8], false⟩),
  (88, ⟨.func, 1, [.nl .nilf], false⟩),
  (89, ⟨.func, 1, [.nl .nilf], false⟩),
  (90, ⟨.func, 1, [.nl .nilf], false⟩),
  (91, ⟨.func, 1, [.nl .nilf], false⟩),
  (92, ⟨.pointer 78, 1, [.nl .nilp], false⟩),
  (94, ⟨.func, 1, [.nl .nilf], false⟩),
  (95, ⟨.struct [(0, 17), (1, 17), (2, 17), (3, 9)], 4, [.nl .nilp, .nl .nilp, .nl .nilp, .str], false⟩),
  (96, ⟨.struct [(0, 17), (1, 17), (2, 17), (3, 9)], 4, [.nl .nilp, .nl .nilp, .nl .nilp, .str], false⟩),
  (100, ⟨.func, 1, [.nl .nilf], false⟩),
  (101, ⟨.int .u8, 1, [.int .u8], false⟩),
  (102, ⟨.int .u8, 1, [.int .u8], false⟩),
  (103, ⟨.func, 1, [.nl .nilf], false⟩),
  (104, ⟨.pointer 5, 1, [.nl .nilp], false⟩),
  (105, ⟨.int .i32, 1, [.int .i32], false⟩),
  (106, ⟨.int .i32, 1, [.int .i32], false⟩),
  (107, ⟨.struct [(0, 12), (1, 12), (2, 74), (3, 101), (4, 5), (5, 5), (6, 102), (7, 103), (8, 104), (9, 105), (10, 106)], 11, [.int .u64, .int .u64, .int .u32, .int .u8, .int .u8, .int .u8, .int .u8, .nl .nilf, .nl .nilp, .int .i32, .int .i32], false⟩),
  (108, ⟨.struct [(0, 12), (1, 12), (2, 74), (3, 101), (4, 5), (5, 5), (6, 102), (7, 103), (8, 104), (9, 105), (10, 106)], 11, [.int .u64, .int .u64, .int .u32, .int .u8, .int .u8, .int .u8, .int .u8, .nl .nilf, .nl .nilp, .int .i32, .int .i32], false⟩),
  (109, ⟨.func, 1, [.nl .nilf], false⟩)]
def sigF : Nat → List RK
  | 0 => []
  | 1 => []
  | 2 => []
  | 3 => [.one (.bool)]
  | 4 => [.one (.bool)]
  | 5 => [.one (.int .i64), .one (.bool)]
  | 6 => [.one (.int .i64), .one (.bool)]
  | 7 => [.own 1, .one (.bool)]
  | 8 => [.own 1, .one (.bool)]
  | 9 => [.one (.bool)]
  | 10 => [.one (.int .i64)]
  | 11 => [.one (.int .i64)]
  | 12 => [.one (.bool)]
  | 13 => [.one (.bool)]
  | 14 => [.one (.int .i64)]
  | 15 => [.own 1]
  | 16 => [.agg [.int .i64, .int .i64, .int .i64, .int .i64, .int .i64, .int .i64]]
  | 17 => [.agg [.int .i64, .int .i64, .int .i64, .int .i64, .int .i64, .int .i64]]
  | 18 => [.one (.bool)]
  | 19 => [.one (.bool)]
  | 20 => [.one (.int .i64)]
  | 21 => [.own 1]
  | 22 => [.agg [.int .i64, .int .i64, .int .i64, .int .i64, .int .i64, .int .i64]]
  | 23 => [.agg [.int .i64, .int .i64, .int .i64, .int .i64, .int .i64, .int .i64]]
  | 24 => [.one (.bool)]
  | 25 => [.one (.int .i64)]
  | 26 => [.own 1]
  | 27 => [.own 1]
  | 28 => [.agg [.int .i64, .int .i64, .int .i64, .int .i64, .int .i64, .int .i64]]
  | 29 => [.agg [.int .i64, .int .i64, .int .i64, .int .i64, .int .i64, .int .i64]]
  | 30 => [.one (.bool)]
  | 31 => [.one (.str)]
  | 32 => [.own 1]
  | 33 => []
  | 34 => [.agg [.int .i64, .int .i64, .int .i64, .int .i64, .int .i64, .int .i64]]
  | 35 => [.one (.str)]
  | 36 => [.one (.str)]
  | 37 => [.one (.str)]
  | 38 => [.agg [.bool, .bool, .bool, .bool, .bool, .bool, .bool, .bool, .bool, .bool, .bool, .bool, .bool, .bool, .bool, .bool, .bool, .bool, .bool, .bool, .bool, .bool, .bool, .bool, .bool, .bool, .bool, .bool, .bool, .bool, .bool, .bool, .bool, .bool, .bool, .bool, .bool, .bool, .bool, .bool, .bool, .bool, .bool, .bool, .bool, .bool, .bool, .bool, .bool, .bool, .bool, .bool, .bool, .bool, .bool, .bool, .bool, .bool, .bool, .bool, .bool, .bool, .bool, .bool, .bool, .bool, .bool, .bool, .bool, .bool, .bool, .bool, .bool, .bool, .bool, .bool, .bool, .bool, .bool, .bool, .bool, .bool, .bool, .bool, .bool, .bool, .bool, .bool, .bool, .bool, .bool, .bool, .bool, .bool, .bool, .bool, .bool, .bool, .bool, .bool, .bool, .bool, .bool, .bool, .bool, .bool, .bool, .bool, .bool, .bool, .bool, .bool, .bool, .bool, .bool, .bool, .bool, .bool, .bool, .bool, .bool, .bool, .bool, .bool, .bool, .bool, .bool, .bool, .bool, .bool, .bool, .bool, .bool, .bool, .bool, .bool, .bool, .bool, .bool, .bool, .bool, .bool, .bool, .bool, .bool, .bool, .bool, .bool, .bool, .bool, .bool, .bool, .bool, .bool, .bool, .bool, .bool, .bool, .bool, .bool, .bool, .bool, .bool, .bool, .bool, .bool, .bool, .bool, .bool, .bool, .bool, .bool, .bool, .bool, .bool, .bool, .bool, .bool, .bool, .bool, .bool, .bool, .bool, .bool, .bool, .bool, .bool, .bool, .bool, .bool, .bool, .bool, .bool, .bool, .bool, .bool, .bool, .bool, .bool, .bool, .bool, .bool, .bool, .bool, .bool, .bool, .bool, .bool, .bool, .bool, .bool, .bool, .bool, .bool, .bool, .bool, .bool, .bool, .bool, .bool, .bool, .bool, .bool, .bool, .bool, .bool, .bool, .bool, .bool, .bool, .bool, .bool, .bool, .bool, .bool, .bool, .bool, .bool, .bool, .bool, .bool, .bool, .bool, .bool, .bool, .bool, .bool, .bool, .bool, .bool, .bool, .bool, .bool, .bool, .bool, .bool], .one (.bool)]
  | 39 => [.one (.str)]
  | 40 => [.one (.str)]
  | 41 => [.one (.str)]
  | 42 => [.one (.str)]
  | 43 => []
  | 44 => [.one (.int .i64)]
  | 45 => [.one (.bool)]
  | 46 => [.one (.int .i32), .one (.int .i64)]
  | 47 => [.one (.bool)]
  | 48 => [.one (.int .i32), .one (.int .i64)]
  | 49 => []
  | 50 => []
  | 51 => []
  | 52 => [.one (.int .i64), .one (.int .i64)]
  | 53 => []
  | 54 => [.one (.bool)]
  | 55 => [.one (.bool)]
  | 56 => [.one (.int .i64)]
  | 57 => [.one (.int .i64), .one (.bool)]
  | 58 => [.one (.int .i64)]
  | 59 => [.one (.int .i64)]
  | 60 => [.one (.int .i32), .one (.int .i64)]
  | 61 => [.one (.int .i64)]
  | 62 => [.one (.bool)]
  | 63 => []
  | 64 => [.one (.int .u64)]
  | 65 => [.one (.int .u64)]
  | 66 => [.one (.int .i64)]
  | 67 => [.one (.int .i64)]
  | 68 => [.one (.bool)]
  | 69 => [.one (.int .i64)]
  | 70 => [.one (.bool)]
  | 71 => [.one (.int .i64)]
  | 72 => [.one (.int .i64)]
  | 73 => [.one (.int .i64), .one (.int .i64)]
  | 74 => [.one (.int .i64)]
  | 75 => [.one (.int .i64)]
  | 76 => [.one (.str)]
  | 77 => []
  | 78 => [.one (.str)]
  | 79 => []
  | 80 => [.one (.str)]
  | 81 => []
  | 82 => [.one (.str)]
  | 83 => []
  | 84 => [.one (.str)]
  | 85 => []
  | 86 => [.one (.str)]
  | 87 => []
  | 88 => [.one (.int .i64)]
  | 89 => [.one (.str)]
  | 90 => []
  | 91 => [.one (.bool)]
  | 92 => [.one (.str)]
  | 93 => []
  | 94 => []
  | 95 => []
  | 96 => []
  | 97 => []
  | _ => []
def borF : Nat → Bool
  | 10 => true
  | 33 => true
  | 43 => true
  | 49 => true
  | 50 => true
  | 51 => true
  | 52 => true
  | 53 => true
  | 54 => true
  | 56 => true
  | 57 => true
  | 63 => true
  | 65 => true
  | 66 => true
  | 67 => true
  | 73 => true
  | _ => false
def newsF : Nat → Nat
  | _ => 0
def C0 : Cfg := { ty := tysOf tyl, M := fun _ _ => .fail, sig := sigF, glob := fun _ => .undef, keep := fun _ => none, nb := 0, bor := borF, news := newsF, MM := fun _ _ _ => .fail }
theorem cfg0 : CfgOk Tryd.prog C0 := cfgOk_tys rfl (by kernel_rfl)
theorem mix : Tryd.prog.follows .mixedOrders = true := by kernel_rfl
end Go.Proofs.EV.PL
set_option linter.unusedVariables false
set_option linter.unusedSimpArgs false
/-! Dice: what they are, in both packages. -/
namespace Go.Proofs.EV.PL
open Go Go.Proofs Go.Proofs.EV Sp
/-! spec_l1In -/
noncomputable def spec_l1In.cfg : Cfg := { C0 with keep := fun _ => none, nb := 0, M := tabM [], MM := tabB [] }
noncomputable def spec_l1In.res (n : Nat) (a0 : Int) (a1 : Int) (a2 : Int) : Option (List Q) :=
  bif decide (a0 ≥ a1) then some [Q.one (D.bool (decide (a0 ≤ a2)))] else some [Q.one (D.bool false)]
theorem spec_l1In.run (n : Nat) (a0 : Int) (a1 : Int) (a2 : Int) :
    run1 spec_l1In.cfg [RK.one LK.bool] n Tryd.f24 [Q.one (D.int IntKind.i64 a0), Q.one (D.int IntKind.i64 a1), Q.one (D.int IntKind.i64 a2)] = spec_l1In.res n a0 a1 a2 := by kernel_rfl
theorem spec_l1In.ev {n : Nat} {a0 : Int} {a1 : Int} {a2 : Int} {r : List Q} (h : spec_l1In.res n a0 a1 a2 = some r) : Snd Tryd.prog C0 24 [.one (.int .i64 a0), .one (.int .i64 a1), .one (.int .i64 a2)] r :=
  snd_ev (C := spec_l1In.cfg) cfg0 mix rfl rfl rfl rfl rfl .nil .nil rfl Tryd.func24 (by kernel_rfl) (by kernel_rfl) rfl ((spec_l1In.run n a0 a1 a2).trans h)

def spec_l1In.stub : Stub
  | [.one (.int .i64 a), .one (.int .i64 b), .one (.int .i64 c)] => .ret [.one (.bool (Sp.inR a b c))]
  | _ => .fail
theorem spec_l1In.ok : StubOk Tryd.prog C0 24 spec_l1In.stub := by
  intro args res h
  unfold spec_l1In.stub at h
  split at h
  · rename_i a b c
    cases h
    refine spec_l1In.ev (n := 0) ?_
    unfold spec_l1In.res Sp.inR
    by_cases h1 : b ≤ a <;> simp [h1]
  · cases h
/-! impl_in -/
noncomputable def impl_in.cfg : Cfg := { C0 with keep := fun _ => none, nb := 0, M := tabM [], MM := tabB [] }
noncomputable def impl_in.res (n : Nat) (a0 : Int) (a1 : Int) (a2 : Int) : Option (List Q) :=
  bif decide (a1 ≤ a0) then some [Q.one (D.bool (decide (a0 ≤ a2)))] else some [Q.one (D.bool false)]
theorem impl_in.run (n : Nat) (a0 : Int) (a1 : Int) (a2 : Int) :
    run1 impl_in.cfg [RK.one LK.bool] n Tryd.f30 [Q.one (D.int IntKind.i64 a0), Q.one (D.int IntKind.i64 a1), Q.one (D.int IntKind.i64 a2)] = impl_in.res n a0 a1 a2 := by kernel_rfl
theorem impl_in.ev {n : Nat} {a0 : Int} {a1 : Int} {a2 : Int} {r : List Q} (h : impl_in.res n a0 a1 a2 = some r) : Snd Tryd.prog C0 30 [.one (.int .i64 a0), .one (.int .i64 a1), .one (.int .i64 a2)] r :=
  snd_ev (C := impl_in.cfg) cfg0 mix rfl rfl rfl rfl rfl .nil .nil rfl Tryd.func30 (by kernel_rfl) (by kernel_rfl) rfl ((impl_in.run n a0 a1 a2).trans h)

def impl_in.stub : Stub
  | [.one (.int .i64 a), .one (.int .i64 b), .one (.int .i64 c)] => .ret [.one (.bool (Sp.inR a b c))]
  | _ => .fail
theorem impl_in.ok : StubOk Tryd.prog C0 30 impl_in.stub := by
  intro args res h
  unfold impl_in.stub at h
  split at h
  · rename_i a b c
    cases h
    refine impl_in.ev (n := 0) ?_
    unfold impl_in.res Sp.inR
    by_cases h1 : b ≤ a <;> simp [h1]
  · cases h
/-! spec_diFaces -/
noncomputable def spec_diFaces.cfg : Cfg := { C0 with keep := fun _ => none, nb := 0, M := tabM [], MM := tabB [] }
noncomputable def spec_diFaces.res (n : Nat) (a0_0 : Int) (a0_1 : Int) (a0_2 : Int) (a0_3 : Int) (a0_4 : Int) (a0_5 : Int) : Option (List Q) :=
  some [Q.one (D.sl (1 : Nat) [[D.int IntKind.i64 a0_0], [D.int IntKind.i64 a0_1], [D.int IntKind.i64 a0_2], [D.int IntKind.i64 a0_3], [D.int IntKind.i64 a0_4], [D.int IntKind.i64 a0_5]])]
theorem spec_diFaces.run (n : Nat) (a0_0 : Int) (a0_1 : Int) (a0_2 : Int) (a0_3 : Int) (a0_4 : Int) (a0_5 : Int) :
    run1 spec_diFaces.cfg [RK.own (1 : Nat)] n Tryd.f26 [Q.agg [D.int IntKind.i64 a0_0, D.int IntKind.i64 a0_1, D.int IntKind.i64 a0_2, D.int IntKind.i64 a0_3, D.int IntKind.i64 a0_4, D.int IntKind.i64 a0_5]] = spec_diFaces.res n a0_0 a0_1 a0_2 a0_3 a0_4 a0_5 := by kernel_rfl
theorem spec_diFaces.ev {n : Nat} {a0_0 : Int} {a0_1 : Int} {a0_2 : Int} {a0_3 : Int} {a0_4 : Int} {a0_5 : Int} {r : List Q} (h : spec_diFaces.res n a0_0 a0_1 a0_2 a0_3 a0_4 a0_5 = some r) : Snd Tryd.prog C0 26 [.agg [.int .i64 a0_0, .int .i64 a0_1, .int .i64 a0_2, .int .i64 a0_3, .int .i64 a0_4, .int .i64 a0_5]] r :=
  snd_ev (C := spec_diFaces.cfg) cfg0 mix rfl rfl rfl rfl rfl .nil .nil rfl Tryd.func26 (by kernel_rfl) (by kernel_rfl) rfl ((spec_diFaces.run n a0_0 a0_1 a0_2 a0_3 a0_4 a0_5).trans h)

def spec_diFaces.stub : Stub
  | [.agg [.int .i64 t, .int .i64 n, .int .i64 e, .int .i64 s, .int .i64 w, .int .i64 b]] => .ret [.one (.sl 1 [[.int .i64 t], [.int .i64 n], [.int .i64 e], [.int .i64 s], [.int .i64 w], [.int .i64 b]])]
  | _ => .fail
theorem spec_diFaces.ok : StubOk Tryd.prog C0 26 spec_diFaces.stub := by
  intro args res h
  unfold spec_diFaces.stub at h
  split at h
  · cases h; exact spec_diFaces.ev (n := 0) rfl
  · cases h
/-! impl_Die_faces -/
noncomputable def impl_Die_faces.cfg : Cfg := { C0 with keep := fun _ => none, nb := 0, M := tabM [], MM := tabB [] }
noncomputable def impl_Die_faces.res (n : Nat) (a0_0 : Int) (a0_1 : Int) (a0_2 : Int) (a0_3 : Int) (a0_4 : Int) (a0_5 : Int) : Option (List Q) :=
  some [Q.one (D.sl (1 : Nat) [[D.int IntKind.i64 a0_0], [D.int IntKind.i64 a0_1], [D.int IntKind.i64 a0_2], [D.int IntKind.i64 a0_3], [D.int IntKind.i64 a0_4], [D.int IntKind.i64 a0_5]])]
theorem impl_Die_faces.run (n : Nat) (a0_0 : Int) (a0_1 : Int) (a0_2 : Int) (a0_3 : Int) (a0_4 : Int) (a0_5 : Int) :
    run1 impl_Die_faces.cfg [RK.own (1 : Nat)] n Tryd.f32 [Q.agg [D.int IntKind.i64 a0_0, D.int IntKind.i64 a0_1, D.int IntKind.i64 a0_2, D.int IntKind.i64 a0_3, D.int IntKind.i64 a0_4, D.int IntKind.i64 a0_5]] = impl_Die_faces.res n a0_0 a0_1 a0_2 a0_3 a0_4 a0_5 := by kernel_rfl
theorem impl_Die_faces.ev {n : Nat} {a0_0 : Int} {a0_1 : Int} {a0_2 : Int} {a0_3 : Int} {a0_4 : Int} {a0_5 : Int} {r : List Q} (h : impl_Die_faces.res n a0_0 a0_1 a0_2 a0_3 a0_4 a0_5 = some r) : Snd Tryd.prog C0 32 [.agg [.int .i64 a0_0, .int .i64 a0_1, .int .i64 a0_2, .int .i64 a0_3, .int .i64 a0_4, .int .i64 a0_5]] r :=
  snd_ev (C := impl_Die_faces.cfg) cfg0 mix rfl rfl rfl rfl rfl .nil .nil rfl Tryd.func32 (by kernel_rfl) (by kernel_rfl) rfl ((impl_Die_faces.run n a0_0 a0_1 a0_2 a0_3 a0_4 a0_5).trans h)

def impl_Die_faces.stub : Stub
  | [.agg [.int .i64 t, .int .i64 n, .int .i64 e, .int .i64 s, .int .i64 w, .int .i64 b]] => .ret [.one (.sl 1 [[.int .i64 t], [.int .i64 n], [.int .i64 e], [.int .i64 s], [.int .i64 w], [.int .i64 b]])]
  | _ => .fail
theorem impl_Die_faces.ok : StubOk Tryd.prog C0 32 impl_Die_faces.stub := by
  intro args res h
  unfold impl_Die_faces.stub at h
  split at h
  · cases h; exact impl_Die_faces.ev (n := 0) rfl
  · cases h
end Go.Proofs.EV.PL
set_option linter.unusedVariables false
set_option linter.unusedSimpArgs false
/-! All ways to lie, the reference's. -/
namespace Go.Proofs.EV.PL
open Go Go.Proofs Go.Proofs.EV Sp
/-! spec_diOf -/
noncomputable def spec_diOf.cfg : Cfg := { C0 with keep := fun _ => none, nb := 0, M := tabM [], MM := tabB [] }
noncomputable def spec_diOf.res (n : Nat) (a0 : List (List D)) : Option (List Q) :=
  bif decide ((0 : Int) < (↑(List.length a0) : Int)) then Option.bind (Option.bind (some (cellD a0 (Int.toNat (0 : Int)) (0 : Nat))) (D.int? IntKind.i64)) fun (i1 : Int) => bif decide ((1 : Int) < (↑(List.length a0) : Int)) then Option.bind (Option.bind (some (cellD a0 (Int.toNat (1 : Int)) (0 : Nat))) (D.int? IntKind.i64)) fun (i2 : Int) => bif decide ((2 : Int) < (↑(List.length a0) : Int)) then Option.bind (Option.bind (some (cellD a0 (Int.toNat (2 : Int)) (0 : Nat))) (D.int? IntKind.i64)) fun (i3 : Int) => bif decide ((3 : Int) < (↑(List.length a0) : Int)) then Option.bind (Option.bind (some (cellD a0 (Int.toNat (3 : Int)) (0 : Nat))) (D.int? IntKind.i64)) fun (i4 : Int) => bif decide ((4 : Int) < (↑(List.length a0) : Int)) then Option.bind (Option.bind (some (cellD a0 (Int.toNat (4 : Int)) (0 : Nat))) (D.int? IntKind.i64)) fun (i5 : Int) => bif decide ((5 : Int) < (↑(List.length a0) : Int)) then Option.bind (Option.bind (some (cellD a0 (Int.toNat (5 : Int)) (0 : Nat))) (D.int? IntKind.i64)) fun (i6 : Int) => some [Q.agg [D.int IntKind.i64 i1, D.int IntKind.i64 i2, D.int IntKind.i64 i3, D.int IntKind.i64 i4, D.int IntKind.i64 i5, D.int IntKind.i64 i6]] else none else none else none else none else none else none
theorem spec_diOf.run (n : Nat) (a0 : List (List D)) :
    run1 spec_diOf.cfg [RK.agg [LK.int IntKind.i64, LK.int IntKind.i64, LK.int IntKind.i64, LK.int IntKind.i64, LK.int IntKind.i64, LK.int IntKind.i64]] n Tryd.f29 [Q.one (D.sl (1 : Nat) a0)] = spec_diOf.res n a0 := by kernel_rfl
theorem spec_diOf.ev {n : Nat} {a0 : List (List D)} {r : List Q} (h : spec_diOf.res n a0 = some r) : Snd Tryd.prog C0 29 [.one (.sl 1 a0)] r :=
  snd_ev (C := spec_diOf.cfg) cfg0 mix rfl rfl rfl rfl rfl .nil .nil rfl Tryd.func29 (by kernel_rfl) (by kernel_rfl) rfl ((spec_diOf.run n a0).trans h)

def spec_diOf.stub : Stub
  | [.one (.sl 1 es)] => .any (intC.decs es) fun l => .gd (decide (l.length = 6)) (.ret [.agg (dieC.enc (Sp.ofL l))])
  | _ => .fail
theorem spec_diOf.ok : StubOk Tryd.prog C0 29 spec_diOf.stub := by
  intro args res h
  unfold spec_diOf.stub at h
  split at h
  · obtain ⟨l, h1, h0⟩ := any_out h
    obtain ⟨rfl, hl⟩ := Cod.decs_inv h1
    obtain ⟨h2, h3⟩ := gd_out h0
    have h2 := of_decide_eq_true h2
    cases h3
    refine spec_diOf.ev (n := 0) ?_
    unfold spec_diOf.res
    match l, h2 with
    | [a, b, c, d, e, f], _ => rfl
  · cases h
/-! spec_diUnit -/
noncomputable def spec_diUnit.cfg : Cfg := { C0 with keep := fun _ => none, nb := 0, M := tabM [(29, spec_diOf.stub)], MM := tabB [] }
noncomputable def spec_diUnit.res (n : Nat) : Option (List Q) :=
  some [Q.agg [D.int IntKind.i64 (Die.t (ofL [(0 : Int), (1 : Int), (2 : Int), (3 : Int), (4 : Int), (5 : Int)])), D.int IntKind.i64 (Die.n (ofL [(0 : Int), (1 : Int), (2 : Int), (3 : Int), (4 : Int), (5 : Int)])), D.int IntKind.i64 (Die.e (ofL [(0 : Int), (1 : Int), (2 : Int), (3 : Int), (4 : Int), (5 : Int)])), D.int IntKind.i64 (Die.s (ofL [(0 : Int), (1 : Int), (2 : Int), (3 : Int), (4 : Int), (5 : Int)])), D.int IntKind.i64 (Die.w (ofL [(0 : Int), (1 : Int), (2 : Int), (3 : Int), (4 : Int), (5 : Int)])), D.int IntKind.i64 (Die.b (ofL [(0 : Int), (1 : Int), (2 : Int), (3 : Int), (4 : Int), (5 : Int)]))]]
theorem spec_diUnit.run (n : Nat) :
    run1 spec_diUnit.cfg [RK.agg [LK.int IntKind.i64, LK.int IntKind.i64, LK.int IntKind.i64, LK.int IntKind.i64, LK.int IntKind.i64, LK.int IntKind.i64]] n Tryd.f17 [] = spec_diUnit.res n := by kernel_rfl
theorem spec_diUnit.ev {n : Nat}  {r : List Q} (h : spec_diUnit.res n  = some r) : Snd Tryd.prog C0 17 [] r :=
  snd_ev (C := spec_diUnit.cfg) cfg0 mix rfl rfl rfl rfl rfl (.cons spec_diOf.ok .nil) .nil rfl Tryd.func17 (by kernel_rfl) (by kernel_rfl) rfl ((spec_diUnit.run n ).trans h)

def spec_diUnit.stub : Stub
  | [] => .ret [.agg (dieC.enc Sp.unitD)]
  | _ => .fail
theorem spec_diUnit.ok : StubOk Tryd.prog C0 17 spec_diUnit.stub := by
  intro args res h
  unfold spec_diUnit.stub at h
  split at h
  · cases h; exact spec_diUnit.ev (n := 0) rfl
  · cases h
/-! spec_diDirs -/
noncomputable def spec_diDirs.cfg : Cfg := { C0 with keep := fun _ => none, nb := 0, M := tabM [], MM := tabB [] }
noncomputable def spec_diDirs.res (n : Nat) : Option (List Q) :=
  some [Q.one (D.str (ByteArray.mk #[(110 : UInt8), (101 : UInt8), (115 : UInt8), (119 : UInt8)]))]
theorem spec_diDirs.run (n : Nat) :
    run1 spec_diDirs.cfg [RK.one LK.str] n Tryd.f35 [] = spec_diDirs.res n := by kernel_rfl
theorem spec_diDirs.ev {n : Nat}  {r : List Q} (h : spec_diDirs.res n  = some r) : Snd Tryd.prog C0 35 [] r :=
  snd_ev (C := spec_diDirs.cfg) cfg0 mix rfl rfl rfl rfl rfl .nil .nil rfl Tryd.func35 (by kernel_rfl) (by kernel_rfl) rfl ((spec_diDirs.run n ).trans h)

def spec_diDirs.stub : Stub
  | [] => .ret [.one (.str ⟨#[110, 101, 115, 119]⟩)]
  | _ => .fail
theorem spec_diDirs.ok : StubOk Tryd.prog C0 35 spec_diDirs.stub := by
  intro args res h
  unfold spec_diDirs.stub at h
  split at h
  · cases h; exact spec_diDirs.ev (n := 0) rfl
  · cases h
/-! spec_diRoll -/
noncomputable def spec_diRoll.cfg : Cfg := { C0 with keep := fun _ => none, nb := 0, M := tabM [], MM := tabB [] }
noncomputable def spec_diRoll.res (n : Nat) (a0_0 : Int) (a0_1 : Int) (a0_2 : Int) (a0_3 : Int) (a0_4 : Int) (a0_5 : Int) (a1 : Int) : Option (List Q) :=
  bif a1 == (0 : Int) then some [Q.agg [D.int IntKind.i64 a0_3, D.int IntKind.i64 a0_0, D.int IntKind.i64 a0_2, D.int IntKind.i64 a0_5, D.int IntKind.i64 a0_4, D.int IntKind.i64 a0_1]] else bif a1 == (1 : Int) then some [Q.agg [D.int IntKind.i64 a0_4, D.int IntKind.i64 a0_1, D.int IntKind.i64 a0_0, D.int IntKind.i64 a0_3, D.int IntKind.i64 a0_5, D.int IntKind.i64 a0_2]] else bif a1 == (2 : Int) then some [Q.agg [D.int IntKind.i64 a0_1, D.int IntKind.i64 a0_5, D.int IntKind.i64 a0_2, D.int IntKind.i64 a0_0, D.int IntKind.i64 a0_4, D.int IntKind.i64 a0_3]] else some [Q.agg [D.int IntKind.i64 a0_2, D.int IntKind.i64 a0_1, D.int IntKind.i64 a0_5, D.int IntKind.i64 a0_3, D.int IntKind.i64 a0_0, D.int IntKind.i64 a0_4]]
theorem spec_diRoll.run (n : Nat) (a0_0 : Int) (a0_1 : Int) (a0_2 : Int) (a0_3 : Int) (a0_4 : Int) (a0_5 : Int) (a1 : Int) :
    run1 spec_diRoll.cfg [RK.agg [LK.int IntKind.i64, LK.int IntKind.i64, LK.int IntKind.i64, LK.int IntKind.i64, LK.int IntKind.i64, LK.int IntKind.i64]] n Tryd.f28 [Q.agg [D.int IntKind.i64 a0_0, D.int IntKind.i64 a0_1, D.int IntKind.i64 a0_2, D.int IntKind.i64 a0_3, D.int IntKind.i64 a0_4, D.int IntKind.i64 a0_5], Q.one (D.int IntKind.i64 a1)] = spec_diRoll.res n a0_0 a0_1 a0_2 a0_3 a0_4 a0_5 a1 := by kernel_rfl
theorem spec_diRoll.ev {n : Nat} {a0_0 : Int} {a0_1 : Int} {a0_2 : Int} {a0_3 : Int} {a0_4 : Int} {a0_5 : Int} {a1 : Int} {r : List Q} (h : spec_diRoll.res n a0_0 a0_1 a0_2 a0_3 a0_4 a0_5 a1 = some r) : Snd Tryd.prog C0 28 [.agg [.int .i64 a0_0, .int .i64 a0_1, .int .i64 a0_2, .int .i64 a0_3, .int .i64 a0_4, .int .i64 a0_5], .one (.int .i64 a1)] r :=
  snd_ev (C := spec_diRoll.cfg) cfg0 mix rfl rfl rfl rfl rfl .nil .nil rfl Tryd.func28 (by kernel_rfl) (by kernel_rfl) rfl ((spec_diRoll.run n a0_0 a0_1 a0_2 a0_3 a0_4 a0_5 a1).trans h)

def spec_diRoll.stub : Stub
  | [.agg [.int .i64 t, .int .i64 n, .int .i64 e, .int .i64 s, .int .i64 w, .int .i64 b], .one (.int .i64 k)] => .ret [.agg (dieC.enc (Sp.roll ⟨t, n, e, s, w, b⟩ k))]
  | _ => .fail
theorem spec_diRoll.ok : StubOk Tryd.prog C0 28 spec_diRoll.stub := by
  intro args res h
  unfold spec_diRoll.stub at h
  split at h
  · rename_i k
    cases h
    refine spec_diRoll.ev (n := 0) ?_
    unfold spec_diRoll.res Sp.roll
    simp only [ieq]
    cases decide (k = 0) <;> cases decide (k = 1) <;> cases decide (k = 2) <;> rfl
  · cases h
end Go.Proofs.EV.PL
set_option linter.unusedVariables false
set_option linter.unusedSimpArgs false
/-! All ways to lie, the program's. -/
namespace Go.Proofs.EV.PL
open Go Go.Proofs Go.Proofs.EV Sp
/-! impl_plain -/
noncomputable def impl_plain.cfg : Cfg := { C0 with keep := fun _ => none, nb := 0, M := tabM [], MM := tabB [] }
noncomputable def impl_plain.res (n : Nat) : Option (List Q) :=
  some [Q.agg [D.int IntKind.i64 (0 : Int), D.int IntKind.i64 (1 : Int), D.int IntKind.i64 (2 : Int), D.int IntKind.i64 (3 : Int), D.int IntKind.i64 (4 : Int), D.int IntKind.i64 (5 : Int)]]
theorem impl_plain.run (n : Nat) :
    run1 impl_plain.cfg [RK.agg [LK.int IntKind.i64, LK.int IntKind.i64, LK.int IntKind.i64, LK.int IntKind.i64, LK.int IntKind.i64, LK.int IntKind.i64]] n Tryd.f22 [] = impl_plain.res n := by kernel_rfl
theorem impl_plain.ev {n : Nat}  {r : List Q} (h : impl_plain.res n  = some r) : Snd Tryd.prog C0 22 [] r :=
  snd_ev (C := impl_plain.cfg) cfg0 mix rfl rfl rfl rfl rfl .nil .nil rfl Tryd.func22 (by kernel_rfl) (by kernel_rfl) rfl ((impl_plain.run n ).trans h)

def impl_plain.stub : Stub
  | [] => .ret [.agg (dieC.enc Sp.unitD)]
  | _ => .fail
theorem impl_plain.ok : StubOk Tryd.prog C0 22 impl_plain.stub := by
  intro args res h
  unfold impl_plain.stub at h
  split at h
  · cases h; exact impl_plain.ev (n := 0) rfl
  · cases h
/-! impl_Die_roll -/
noncomputable def impl_Die_roll.cfg : Cfg := { C0 with keep := fun _ => none, nb := 0, M := tabM [], MM := tabB [] }
noncomputable def impl_Die_roll.res (n : Nat) (a0_0 : Int) (a0_1 : Int) (a0_2 : Int) (a0_3 : Int) (a0_4 : Int) (a0_5 : Int) (a1 : Int) : Option (List Q) :=
  bif a1 == (110 : Int) then some [Q.agg [D.int IntKind.i64 a0_3, D.int IntKind.i64 a0_0, D.int IntKind.i64 a0_2, D.int IntKind.i64 a0_5, D.int IntKind.i64 a0_4, D.int IntKind.i64 a0_1]] else bif a1 == (101 : Int) then some [Q.agg [D.int IntKind.i64 a0_4, D.int IntKind.i64 a0_1, D.int IntKind.i64 a0_0, D.int IntKind.i64 a0_3, D.int IntKind.i64 a0_5, D.int IntKind.i64 a0_2]] else bif a1 == (115 : Int) then some [Q.agg [D.int IntKind.i64 a0_1, D.int IntKind.i64 a0_5, D.int IntKind.i64 a0_2, D.int IntKind.i64 a0_0, D.int IntKind.i64 a0_4, D.int IntKind.i64 a0_3]] else some [Q.agg [D.int IntKind.i64 a0_2, D.int IntKind.i64 a0_1, D.int IntKind.i64 a0_5, D.int IntKind.i64 a0_3, D.int IntKind.i64 a0_0, D.int IntKind.i64 a0_4]]
theorem impl_Die_roll.run (n : Nat) (a0_0 : Int) (a0_1 : Int) (a0_2 : Int) (a0_3 : Int) (a0_4 : Int) (a0_5 : Int) (a1 : Int) :
    run1 impl_Die_roll.cfg [RK.agg [LK.int IntKind.i64, LK.int IntKind.i64, LK.int IntKind.i64, LK.int IntKind.i64, LK.int IntKind.i64, LK.int IntKind.i64]] n Tryd.f34 [Q.agg [D.int IntKind.i64 a0_0, D.int IntKind.i64 a0_1, D.int IntKind.i64 a0_2, D.int IntKind.i64 a0_3, D.int IntKind.i64 a0_4, D.int IntKind.i64 a0_5], Q.one (D.int IntKind.u8 a1)] = impl_Die_roll.res n a0_0 a0_1 a0_2 a0_3 a0_4 a0_5 a1 := by kernel_rfl
theorem impl_Die_roll.ev {n : Nat} {a0_0 : Int} {a0_1 : Int} {a0_2 : Int} {a0_3 : Int} {a0_4 : Int} {a0_5 : Int} {a1 : Int} {r : List Q} (h : impl_Die_roll.res n a0_0 a0_1 a0_2 a0_3 a0_4 a0_5 a1 = some r) : Snd Tryd.prog C0 34 [.agg [.int .i64 a0_0, .int .i64 a0_1, .int .i64 a0_2, .int .i64 a0_3, .int .i64 a0_4, .int .i64 a0_5], .one (.int .u8 a1)] r :=
  snd_ev (C := impl_Die_roll.cfg) cfg0 mix rfl rfl rfl rfl rfl .nil .nil rfl Tryd.func34 (by kernel_rfl) (by kernel_rfl) rfl ((impl_Die_roll.run n a0_0 a0_1 a0_2 a0_3 a0_4 a0_5 a1).trans h)

def impl_Die_roll.stub : Stub
  | [.agg [.int .i64 t, .int .i64 n, .int .i64 e, .int .i64 s, .int .i64 w, .int .i64 b], .one (.int .u8 k)] => .ret [.agg (dieC.enc (Sp.rollB ⟨t, n, e, s, w, b⟩ k))]
  | _ => .fail
theorem impl_Die_roll.ok : StubOk Tryd.prog C0 34 impl_Die_roll.stub := by
  intro args res h
  unfold impl_Die_roll.stub at h
  split at h
  · rename_i k
    cases h
    refine impl_Die_roll.ev (n := 0) ?_
    unfold impl_Die_roll.res Sp.rollB
    simp only [ieq]
    cases decide (k = 110) <;> cases decide (k = 101) <;> cases decide (k = 115) <;> rfl
  · cases h
/-! impl_Die_rolled -/
noncomputable def impl_Die_rolled.cfg : Cfg := { C0 with keep := fun | 2 => some [1, 2, 4, 7, 8] | _ => none, nb := 0, M := tabM [(34, impl_Die_roll.stub)], MM := tabB [] }
noncomputable def impl_Die_rolled.l2 (n : Nat) (m2 : Nat) (s0 : ByteArray) (i1 : Int) (i2 : Int) (i3 : Int) (i4 : Int) (i5 : Int) (i6 : Int) (i7 : Int) (i8 : Int) (i9 : Int) (i10 : Int) (i11 : Int) (i12 : Int) (i13 : Int) (i14 : Int) : Option (List Q) :=
  loopAt impl_Die_rolled.cfg [RK.agg [LK.int IntKind.i64, LK.int IntKind.i64, LK.int IntKind.i64, LK.int IntKind.i64, LK.int IntKind.i64, LK.int IntKind.i64]] n Tryd.f23 [1, 0, 1, 0] [] m2 (St.mk [V.undef, V.one true (D.str s0), V.rp (0 : Nat) (0 : Nat), V.undef, V.rp (1 : Nat) (0 : Nat), V.undef, V.undef, V.one true (D.int IntKind.i64 i1), V.one true (D.int IntKind.i64 i2), V.undef, V.undef, V.undef, V.undef, V.undef, V.undef, V.undef, V.undef, V.undef] [Ob.box [V.one true (D.int IntKind.i64 i3), V.one true (D.int IntKind.i64 i4), V.one true (D.int IntKind.i64 i5), V.one true (D.int IntKind.i64 i6), V.one true (D.int IntKind.i64 i7), V.one true (D.int IntKind.i64 i8)], Ob.box [V.one true (D.int IntKind.i64 i9), V.one true (D.int IntKind.i64 i10), V.one true (D.int IntKind.i64 i11), V.one true (D.int IntKind.i64 i12), V.one true (D.int IntKind.i64 i13), V.one true (D.int IntKind.i64 i14)]])
theorem impl_Die_rolled.l2_eq (n : Nat) (m2 : Nat) (s0 : ByteArray) (i1 : Int) (i2 : Int) (i3 : Int) (i4 : Int) (i5 : Int) (i6 : Int) (i7 : Int) (i8 : Int) (i9 : Int) (i10 : Int) (i11 : Int) (i12 : Int) (i13 : Int) (i14 : Int) :
    impl_Die_rolled.l2 n (m2 + 1) s0 i1 i2 i3 i4 i5 i6 i7 i8 i9 i10 i11 i12 i13 i14 = bif decide (i2 < i1) then bif decide ((0 : Int) ≤ i2) then bif decide (i2 < (↑(ByteArray.size s0) : Int)) then impl_Die_rolled.l2 n m2 s0 i1 (IntKind.wrap IntKind.i64 (i2 + (1 : Int))) (Die.t (rollB (Die.mk i3 i4 i5 i6 i7 i8) (byteAt s0 (Int.toNat i2)))) (Die.n (rollB (Die.mk i3 i4 i5 i6 i7 i8) (byteAt s0 (Int.toNat i2)))) (Die.e (rollB (Die.mk i3 i4 i5 i6 i7 i8) (byteAt s0 (Int.toNat i2)))) (Die.s (rollB (Die.mk i3 i4 i5 i6 i7 i8) (byteAt s0 (Int.toNat i2)))) (Die.w (rollB (Die.mk i3 i4 i5 i6 i7 i8) (byteAt s0 (Int.toNat i2)))) (Die.b (rollB (Die.mk i3 i4 i5 i6 i7 i8) (byteAt s0 (Int.toNat i2)))) i9 i10 i11 i12 i13 i14 else none else none else some [Q.agg [D.int IntKind.i64 i3, D.int IntKind.i64 i4, D.int IntKind.i64 i5, D.int IntKind.i64 i6, D.int IntKind.i64 i7, D.int IntKind.i64 i8]] := by kernel_rfl
noncomputable def impl_Die_rolled.res (n : Nat) (a0_0 : Int) (a0_1 : Int) (a0_2 : Int) (a0_3 : Int) (a0_4 : Int) (a0_5 : Int) (a1 : ByteArray) : Option (List Q) :=
  impl_Die_rolled.l2 n n a1 (↑(ByteArray.size a1) : Int) (0 : Int) a0_0 a0_1 a0_2 a0_3 a0_4 a0_5 (0 : Int) (0 : Int) (0 : Int) (0 : Int) (0 : Int) (0 : Int)
theorem impl_Die_rolled.run (n : Nat) (a0_0 : Int) (a0_1 : Int) (a0_2 : Int) (a0_3 : Int) (a0_4 : Int) (a0_5 : Int) (a1 : ByteArray) :
    run1 impl_Die_rolled.cfg [RK.agg [LK.int IntKind.i64, LK.int IntKind.i64, LK.int IntKind.i64, LK.int IntKind.i64, LK.int IntKind.i64, LK.int IntKind.i64]] n Tryd.f23 [Q.agg [D.int IntKind.i64 a0_0, D.int IntKind.i64 a0_1, D.int IntKind.i64 a0_2, D.int IntKind.i64 a0_3, D.int IntKind.i64 a0_4, D.int IntKind.i64 a0_5], Q.one (D.str a1)] = impl_Die_rolled.res n a0_0 a0_1 a0_2 a0_3 a0_4 a0_5 a1 := by kernel_rfl
theorem impl_Die_rolled.ev {n : Nat} {a0_0 : Int} {a0_1 : Int} {a0_2 : Int} {a0_3 : Int} {a0_4 : Int} {a0_5 : Int} {a1 : ByteArray} {r : List Q} (h : impl_Die_rolled.res n a0_0 a0_1 a0_2 a0_3 a0_4 a0_5 a1 = some r) : Snd Tryd.prog C0 23 [.agg [.int .i64 a0_0, .int .i64 a0_1, .int .i64 a0_2, .int .i64 a0_3, .int .i64 a0_4, .int .i64 a0_5], .one (.str a1)] r :=
  snd_ev (C := impl_Die_rolled.cfg) cfg0 mix rfl rfl rfl rfl rfl (.cons impl_Die_roll.ok .nil) .nil rfl Tryd.func23 (by kernel_rfl) (by kernel_rfl) rfl ((impl_Die_rolled.run n a0_0 a0_1 a0_2 a0_3 a0_4 a0_5 a1).trans h)

theorem byteAt_get {s : ByteArray} {k : Nat} (h : k < s.data.toList.length) : byteAt s k = ((s.data.toList[k]).toNat : Int) := by
  unfold byteAt; rw [getD_of_lt h]
theorem impl_Die_rolled.loop {n : Nat} {x : ByteArray} {z0 z1 z2 z3 z4 z5 : Int} (hx : x.size ≤ LIM) : ∀ (d k m : Nat) (p : Die), k + d = x.data.toList.length → d < m →
    impl_Die_rolled.l2 n m x x.size k p.t p.n p.e p.s p.w p.b z0 z1 z2 z3 z4 z5 = some [Q.agg (dieC.enc ((x.data.toList.drop k).foldl (fun d c => rollB d (c.toNat : Int)) p))] := by
  have hsz : x.data.toList.length = x.size := rfl
  intro d
  induction d with
  | zero =>
    intro k m p hk hm
    obtain ⟨m, rfl⟩ : ∃ m', m = m' + 1 := ⟨m - 1, by omega⟩
    have h1 : ¬ (k : Int) < x.size := by omega
    rw [impl_Die_rolled.l2_eq, List.drop_of_length_le (by omega)]
    simp only [h1, decide_false, cond_false, List.foldl_nil]
    rfl
  | succ d ih =>
    intro k m p hk hm
    obtain ⟨m, rfl⟩ : ∃ m', m = m' + 1 := ⟨m - 1, by omega⟩
    have hlt : k < x.data.toList.length := by omega
    have h1 : (k : Int) < x.size := by omega
    rw [impl_Die_rolled.l2_eq, List.drop_eq_getElem_cons hlt, List.foldl_cons]
    simp only [h1, decide_true, cond_true, Int.natCast_nonneg, Int.toNat_natCast, Die.eta, wrap_succ (show k ≤ LIM by omega), byteAt_get hlt]
    exact ih (k + 1) m _ (by omega) (by omega)
def impl_Die_rolled.stub : Stub
  | [.agg [.int .i64 t, .int .i64 n, .int .i64 e, .int .i64 s, .int .i64 w, .int .i64 b], .one (.str x)] => .gd (decide (x.size ≤ LIM)) (.ret [.agg (dieC.enc (Sp.rolledB ⟨t, n, e, s, w, b⟩ x))])
  | _ => .fail
theorem impl_Die_rolled.ok : StubOk Tryd.prog C0 23 impl_Die_rolled.stub := by
  intro args res h
  unfold impl_Die_rolled.stub at h
  split at h
  · rename_i t n e s w b x
    obtain ⟨h1, h2⟩ := gd_out h
    have h1 := of_decide_eq_true h1
    cases h2
    refine impl_Die_rolled.ev (n := x.size + 1) ?_
    have hsz : x.data.toList.length = x.size := rfl
    exact impl_Die_rolled.loop (n := x.size + 1) h1 x.size 0 (x.size + 1) ⟨t, n, e, s, w, b⟩ (by omega) (by omega)
  · cases h
/-! cmp_isNaN_int -/
noncomputable def cmp_isNaN_int.cfg : Cfg := { C0 with keep := fun _ => none, nb := 0, M := tabM [], MM := tabB [] }
noncomputable def cmp_isNaN_int.res (n : Nat) (a0 : Int) : Option (List Q) :=
  some [Q.one (D.bool (a0 != a0))]
theorem cmp_isNaN_int.run (n : Nat) (a0 : Int) :
    run1 cmp_isNaN_int.cfg [RK.one LK.bool] n Tryd.f68 [Q.one (D.int IntKind.i64 a0)] = cmp_isNaN_int.res n a0 := by kernel_rfl
theorem cmp_isNaN_int.ev {n : Nat} {a0 : Int} {r : List Q} (h : cmp_isNaN_int.res n a0 = some r) : Snd Tryd.prog C0 68 [.one (.int .i64 a0)] r :=
  snd_ev (C := cmp_isNaN_int.cfg) cfg0 mix rfl rfl rfl rfl rfl .nil .nil rfl Tryd.func68 (by kernel_rfl) (by kernel_rfl) rfl ((cmp_isNaN_int.run n a0).trans h)

def cmp_isNaN_int.stub : Stub
  | [.one (.int .i64 a)] => .ret [.one (.bool false)]
  | _ => .fail
theorem cmp_isNaN_int.ok : StubOk Tryd.prog C0 68 cmp_isNaN_int.stub := by
  intro args res h
  unfold cmp_isNaN_int.stub at h
  split at h
  · cases h
    refine cmp_isNaN_int.ev (n := 0) ?_
    simp [cmp_isNaN_int.res]
  · cases h
end Go.Proofs.EV.PL
set_option linter.unusedVariables false
set_option linter.unusedSimpArgs false
/-! Powers. -/
namespace Go.Proofs.EV.PL
open Go Go.Proofs Go.Proofs.EV
/-! spec_clPower -/
noncomputable def spec_clPower.cfg : Cfg := { C0 with keep := fun | 2 => some [0, 1, 5] | _ => none, nb := 0, M := tabM [], MM := tabB [] }
noncomputable def spec_clPower.l2 (n : Nat) (m2 : Nat) (i0 : Int) (i1 : Int) (i2 : Int) : Option (List Q) :=
  loopAt spec_clPower.cfg [RK.one (LK.int IntKind.i64)] n Tryd.f14 [1, 1, 0, 0] [] m2 (St.mk [V.one true (D.int IntKind.i64 i0), V.one true (D.int IntKind.i64 i1), V.undef, V.undef, V.undef, V.one true (D.int IntKind.i64 i2), V.undef, V.undef, V.undef, V.undef, V.undef, V.undef, V.undef, V.undef] [])
theorem spec_clPower.l2_eq (n : Nat) (m2 : Nat) (i0 : Int) (i1 : Int) (i2 : Int) :
    spec_clPower.l2 n (m2 + 1) i0 i1 i2 = bif decide (i1 > (0 : Int)) then spec_clPower.l2 n m2 i0 (IntKind.wrap IntKind.i64 (i1 - (1 : Int))) (IntKind.wrap IntKind.i64 (i2 * i0)) else some [Q.one (D.int IntKind.i64 i2)] := by kernel_rfl
noncomputable def spec_clPower.res (n : Nat) (a0 : Int) (a1 : Int) : Option (List Q) :=
  spec_clPower.l2 n n a0 a1 (1 : Int)
theorem spec_clPower.run (n : Nat) (a0 : Int) (a1 : Int) :
    run1 spec_clPower.cfg [RK.one (LK.int IntKind.i64)] n Tryd.f14 [Q.one (D.int IntKind.i64 a0), Q.one (D.int IntKind.i64 a1)] = spec_clPower.res n a0 a1 := by kernel_rfl
theorem spec_clPower.ev {n : Nat} {a0 : Int} {a1 : Int} {r : List Q} (h : spec_clPower.res n a0 a1 = some r) : Snd Tryd.prog C0 14 [.one (.int .i64 a0), .one (.int .i64 a1)] r :=
  snd_ev (C := spec_clPower.cfg) cfg0 mix rfl rfl rfl rfl rfl .nil .nil rfl Tryd.func14 (by kernel_rfl) (by kernel_rfl) rfl ((spec_clPower.run n a0 a1).trans h)

def spec_clPower.stub : Stub
  | [.one (.int .i64 k), .one (.int .i64 n)] => .gd (Sp.okPow k n) (.ret [.one (.int .i64 (Sp.pow k n))])
  | _ => .fail
theorem spec_clPower.ok : StubOk Tryd.prog C0 14 spec_clPower.stub := by
  intro args res h
  unfold spec_clPower.stub at h
  split at h
  · rename_i k n
    obtain ⟨h1, h2⟩ := gd_out h
    have h1 := of_decide_eq_true h1
    cases h2
    refine spec_clPower.ev (n := 10) ?_
    obtain ⟨ha, hb, hc, hd⟩ := h1
    rcases (show k = 1 ∨ k = 2 ∨ k = 3 ∨ k = 4 ∨ k = 5 ∨ k = 6 ∨ k = 7 ∨ k = 8 ∨ k = 9 by omega) with rfl | rfl | rfl | rfl | rfl | rfl | rfl | rfl | rfl <;>
    rcases (show n = 0 ∨ n = 1 ∨ n = 2 ∨ n = 3 ∨ n = 4 ∨ n = 5 ∨ n = 6 by omega) with rfl | rfl | rfl | rfl | rfl | rfl | rfl <;> kernel_rfl
  · cases h
/-! impl_power -/
noncomputable def impl_power.cfg : Cfg := { C0 with keep := fun | 3 => some [0, 5, 6, 7] | _ => none, nb := 0, M := tabM [], MM := tabB [] }
noncomputable def impl_power.l3 (n : Nat) (m3 : Nat) (i0 : Int) (i1 : Int) (i2 : Int) (i3 : Int) : Option (List Q) :=
  loopAt impl_power.cfg [RK.one (LK.int IntKind.i64)] n Tryd.f20 [1, 1, 0, 1, 0] [] m3 (St.mk [V.one true (D.int IntKind.i64 i0), V.undef, V.undef, V.undef, V.undef, V.one true (D.int IntKind.i64 i1), V.one true (D.int IntKind.i64 i2), V.one true (D.int IntKind.i64 i3), V.undef, V.undef, V.undef, V.undef, V.undef, V.undef] [])
theorem impl_power.l3_eq (n : Nat) (m3 : Nat) (i0 : Int) (i1 : Int) (i2 : Int) (i3 : Int) :
    impl_power.l3 n (m3 + 1) i0 i1 i2 i3 = bif decide (i3 < i2) then impl_power.l3 n m3 i0 (IntKind.wrap IntKind.i64 (i1 * i0)) i2 (IntKind.wrap IntKind.i64 (i3 + (1 : Int))) else some [Q.one (D.int IntKind.i64 i1)] := by kernel_rfl
noncomputable def impl_power.res (n : Nat) (a0 : Int) (a1 : Int) : Option (List Q) :=
  impl_power.l3 n n a0 (1 : Int) a1 (0 : Int)
theorem impl_power.run (n : Nat) (a0 : Int) (a1 : Int) :
    run1 impl_power.cfg [RK.one (LK.int IntKind.i64)] n Tryd.f20 [Q.one (D.int IntKind.i64 a0), Q.one (D.int IntKind.i64 a1)] = impl_power.res n a0 a1 := by kernel_rfl
theorem impl_power.ev {n : Nat} {a0 : Int} {a1 : Int} {r : List Q} (h : impl_power.res n a0 a1 = some r) : Snd Tryd.prog C0 20 [.one (.int .i64 a0), .one (.int .i64 a1)] r :=
  snd_ev (C := impl_power.cfg) cfg0 mix rfl rfl rfl rfl rfl .nil .nil rfl Tryd.func20 (by kernel_rfl) (by kernel_rfl) rfl ((impl_power.run n a0 a1).trans h)

def impl_power.stub : Stub
  | [.one (.int .i64 k), .one (.int .i64 n)] => .gd (Sp.okPow k n) (.ret [.one (.int .i64 (Sp.pow k n))])
  | _ => .fail
theorem impl_power.ok : StubOk Tryd.prog C0 20 impl_power.stub := by
  intro args res h
  unfold impl_power.stub at h
  split at h
  · rename_i k n
    obtain ⟨h1, h2⟩ := gd_out h
    have h1 := of_decide_eq_true h1
    cases h2
    refine impl_power.ev (n := 10) ?_
    obtain ⟨ha, hb, hc, hd⟩ := h1
    rcases (show k = 1 ∨ k = 2 ∨ k = 3 ∨ k = 4 ∨ k = 5 ∨ k = 6 ∨ k = 7 ∨ k = 8 ∨ k = 9 by omega) with rfl | rfl | rfl | rfl | rfl | rfl | rfl | rfl | rfl <;>
    rcases (show n = 0 ∨ n = 1 ∨ n = 2 ∨ n = 3 ∨ n = 4 ∨ n = 5 ∨ n = 6 by omega) with rfl | rfl | rfl | rfl | rfl | rfl | rfl <;> kernel_rfl
  · cases h
end Go.Proofs.EV.PL
namespace Go.Proofs
open Go.Shelf
def Tryd.sortInt_ren : Go.Shelf.Ren := ⟨fun | 189 => 33 | 125 => 44 | 257 => 43 | 128 => 58 | 129 => 59 | 294 => 49 | 295 => 50 | 296 => 51 | 297 => 52 | 298 => 53 | 299 => 54 | 216 => 55 | 300 => 56 | 301 => 57 | 328 => 63 | 329 => 64 | 330 => 65 | 331 => 66 | 332 => 67 | 215 => 68 | 343 => 73 | n => n, fun | 28 => 25 | 3 => 3 | 46 => 60 | 0 => 0 | 51 => 74 | 53 => 76 | 4 => 4 | 183 => 67 | 182 => 66 | 131 => 22 | 5 => 5 | 9 => 9 | 218 => 78 | 222 => 82 | 228 => 92 | 229 => 93 | n => n, fun | n => n⟩
theorem Tryd.sortInt : Go.Proofs.Lays.n189 Tryd.prog Tryd.sortInt_ren := {
  mixed := by kernel_rfl
  f125 := Tryd.func44.trans (congrArg some (by kernel_rfl))
  f128 := Tryd.func58.trans (congrArg some (by kernel_rfl))
  f129 := Tryd.func59.trans (congrArg some (by kernel_rfl))
  f189 := Tryd.func33.trans (congrArg some (by kernel_rfl))
  f215 := Tryd.func68.trans (congrArg some (by kernel_rfl))
  f216 := Tryd.func55.trans (congrArg some (by kernel_rfl))
  f257 := Tryd.func43.trans (congrArg some (by kernel_rfl))
  f294 := Tryd.func49.trans (congrArg some (by kernel_rfl))
  f295 := Tryd.func50.trans (congrArg some (by kernel_rfl))
  f296 := Tryd.func51.trans (congrArg some (by kernel_rfl))
  f297 := Tryd.func52.trans (congrArg some (by kernel_rfl))
  f298 := Tryd.func53.trans (congrArg some (by kernel_rfl))
  f299 := Tryd.func54.trans (congrArg some (by kernel_rfl))
  f300 := Tryd.func56.trans (congrArg some (by kernel_rfl))
  f301 := Tryd.func57.trans (congrArg some (by kernel_rfl))
  f328 := Tryd.func63.trans (congrArg some (by kernel_rfl))
  f329 := Tryd.func64.trans (congrArg some (by kernel_rfl))
  f330 := Tryd.func65.trans (congrArg some (by kernel_rfl))
  f331 := Tryd.func66.trans (congrArg some (by kernel_rfl))
  f332 := Tryd.func67.trans (congrArg some (by kernel_rfl))
  f343 := Tryd.func73.trans (congrArg some (by kernel_rfl))
  t0 := Tryd.underlying0
  a0 := Tryd.isAgg0
  z0 := Tryd.sizeOf0
  v0 := Tryd.zeroValue0
  t3 := Tryd.underlying3
  a3 := Tryd.isAgg3
  z3 := Tryd.sizeOf3
  v3 := Tryd.zeroValue3
  t4 := Tryd.underlying4
  a4 := Tryd.isAgg4
  z4 := Tryd.sizeOf4
  v4 := Tryd.zeroValue4
  t5 := Tryd.underlying5
  a5 := Tryd.isAgg5
  z5 := Tryd.sizeOf5
  v5 := Tryd.zeroValue5
  t9 := Tryd.underlying9
  a9 := Tryd.isAgg9
  z9 := Tryd.sizeOf9
  v9 := Tryd.zeroValue9
  t28 := Tryd.underlying25
  a28 := Tryd.isAgg25
  z28 := Tryd.sizeOf25
  v28 := Tryd.zeroValue25
  t46 := Tryd.underlying60
  a46 := Tryd.isAgg60
  z46 := Tryd.sizeOf60
  v46 := Tryd.zeroValue60
  t51 := Tryd.underlying74
  a51 := Tryd.isAgg74
  z51 := Tryd.sizeOf74
  v51 := Tryd.zeroValue74
  t53 := Tryd.underlying76
  a53 := Tryd.isAgg76
  z53 := Tryd.sizeOf76
  v53 := Tryd.zeroValue76
  t131 := Tryd.underlying22
  a131 := Tryd.isAgg22
  z131 := Tryd.sizeOf22
  v131 := Tryd.zeroValue22
  t182 := Tryd.underlying66
  a182 := Tryd.isAgg66
  z182 := Tryd.sizeOf66
  v182 := Tryd.zeroValue66
  t183 := Tryd.underlying67
  a183 := Tryd.isAgg67
  z183 := Tryd.sizeOf67
  v183 := Tryd.zeroValue67
  t218 := Tryd.underlying78
  a218 := Tryd.isAgg78
  z218 := Tryd.sizeOf78
  v218 := Tryd.zeroValue78
  t222 := Tryd.underlying82
  a222 := Tryd.isAgg82
  z222 := Tryd.sizeOf82
  v222 := Tryd.zeroValue82
  t228 := Tryd.underlying92
  a228 := Tryd.isAgg92
  z228 := Tryd.sizeOf92
  v228 := Tryd.zeroValue92
  t229 := Tryd.underlying93
  a229 := Tryd.isAgg93
  z229 := Tryd.sizeOf93
  v229 := Tryd.zeroValue93 }
end Go.Proofs
set_option linter.unusedVariables false
set_option linter.unusedSimpArgs false
/-! Cycles. -/
namespace Go.Proofs.EV.PL
open Go Go.Proofs Go.Proofs.EV Sp
def sortI.stub : StubB
  | [.rw 0], [.row false 1 es] => .any (intC.decs es) fun l => .gd (decide (0 < l.length)) (.ret ([], [.row false 1 (intC.encs (Sp.sortN l))]))
  | _, _ => .fail
theorem sortI.ok : StubBOk Tryd.prog C0 33 sortI.stub := by
  intro args objs res objs' h
  unfold sortI.stub at h
  split at h
  · obtain ⟨l, h1, h0⟩ := any_out h
    obtain ⟨rfl, hl⟩ := Cod.decs_inv h1
    obtain ⟨h2, h3⟩ := gd_out h0
    have h2 := of_decide_eq_true h2
    cases h3
    exact sortRow_ok intC (Value.int .i64) (fun x => ⟨_, rfl, rfl, rfl⟩) (f := 33) Tryd.func33 (by kernel_rfl) (by kernel_rfl) l (Sp.sortN l) h2 (List.length_mergeSort _) fun blk cap w hH hb =>
      Any.slices_Sort_int Tryd.sortInt blk 0 cap l w hH hb (by unfold LIM at hl; omega)
  · cases h
/-! spec_l1Own -/
noncomputable def spec_l1Own.cfg : Cfg := { C0 with keep := fun _ => none, nb := 0, M := tabM [], MM := tabB [] }
noncomputable def spec_l1Own.res (n : Nat) (a0 : List (List D)) : Option (List Q) :=
  bif List.all a0 fun (r : List D) => List.all r scalar then bif decide ((0 : Nat) + List.length a0 ≤ (17179869184 : Nat)) then some [Q.one (D.sl (1 : Nat) ([] ++ a0))] else none else none
theorem spec_l1Own.run (n : Nat) (a0 : List (List D)) :
    run1 spec_l1Own.cfg [RK.own (1 : Nat)] n Tryd.f27 [Q.one (D.sl (1 : Nat) a0)] = spec_l1Own.res n a0 := by kernel_rfl
theorem spec_l1Own.ev {n : Nat} {a0 : List (List D)} {r : List Q} (h : spec_l1Own.res n a0 = some r) : Snd Tryd.prog C0 27 [.one (.sl 1 a0)] r :=
  snd_ev (C := spec_l1Own.cfg) cfg0 mix rfl rfl rfl rfl rfl .nil .nil rfl Tryd.func27 (by kernel_rfl) (by kernel_rfl) rfl ((spec_l1Own.run n a0).trans h)

def spec_l1Own.stub : Stub
  | [.one (.sl 1 es)] => .any (intC.decs es) fun l => .ret [.one (.sl 1 (intC.encs l))]
  | _ => .fail
theorem spec_l1Own.ok : StubOk Tryd.prog C0 27 spec_l1Own.stub := by
  intro args res h
  unfold spec_l1Own.stub at h
  split at h
  · obtain ⟨l, h1, h0⟩ := any_out h
    obtain ⟨rfl, hl⟩ := Cod.decs_inv h1
    cases h0
    refine spec_l1Own.ev (n := 0) ?_
    have e : spec_l1Own.res 0 (intC.encs l) = (bif (intC.encs l).all (fun r => r.all scalar) then bif decide (0 + (intC.encs l).length ≤ 17179869184) then some [Q.one (D.sl 1 ([] ++ intC.encs l))] else none else none) := by kernel_rfl
    have h2 : (intC.encs l).all (fun r => r.all scalar) = true := by
      rw [List.all_eq_true]
      intro r hr
      obtain ⟨x, _, rfl⟩ := List.mem_map.1 hr
      rfl
    have h3 : 0 + (intC.encs l).length ≤ 17179869184 := by rw [Nat.zero_add, Cod.encs_len]; exact hl
    rw [e, h2]
    simp only [cond_true, h3, decide_true, List.nil_append]
  · cases h
/-! spec_clCycles -/
noncomputable def spec_clCycles.cfg : Cfg := { C0 with keep := fun | 5 => some [3, 4, 5, 15, 16] | 9 => some [3, 4, 5, 7, 8, 15, 16] | 15 => some [3, 4, 5, 7, 9, 15, 16] | _ => none, nb := 0, M := tabM [(26, spec_diFaces.stub), (27, spec_l1Own.stub)], MM := tabB [] }
noncomputable def spec_clCycles.l5 (n : Nat) (m5 : Nat) (i0 : Int) (i1 : Int) (l2 : List (List D)) (l3 : List (List D)) (l4 : List (List D)) : Option (List Q) :=
  loopAt spec_clCycles.cfg [RK.own (1 : Nat)] n Tryd.f15 [1, 1, 1, 1, 0, 1, 0] [] m5 (St.mk [V.undef, V.undef, V.undef, V.rw (0 : Nat), V.rw (1 : Nat), V.rw (2 : Nat), V.undef, V.undef, V.undef, V.undef, V.undef, V.undef, V.undef, V.undef, V.undef, V.one true (D.int IntKind.i64 i0), V.one true (D.int IntKind.i64 i1), V.undef, V.undef, V.undef, V.undef, V.undef, V.undef, V.undef, V.undef, V.undef, V.undef, V.undef, V.undef, V.undef, V.undef, V.undef, V.undef, V.undef, V.undef, V.undef, V.undef, V.undef, V.undef, V.undef, V.undef, V.undef, V.undef, V.undef, V.undef, V.undef, V.undef, V.undef, V.undef, V.undef, V.undef, V.undef, V.undef, V.undef, V.undef, V.undef, V.undef, V.undef, V.undef, V.undef, V.undef, V.undef, V.undef, V.undef] [Ob.row false (1 : Nat) l2, Ob.row false (1 : Nat) l3, Ob.row false (1 : Nat) l4])
noncomputable def spec_clCycles.l9 (n : Nat) (m5 : Nat) (m9 : Nat) (i0 : Int) (i1 : Int) (i2 : Int) (i3 : Int) (l4 : List (List D)) (l5 : List (List D)) (l6 : List (List D)) : Option (List Q) :=
  loopAt spec_clCycles.cfg [RK.own (1 : Nat)] n Tryd.f15 [1, 1, 1, 1, 0, 1, 0, 0, 1, 1, 0, 0, 1, 1, 0, 1, 0] [m5] m9 (St.mk [V.undef, V.undef, V.undef, V.rw (0 : Nat), V.rw (1 : Nat), V.rw (2 : Nat), V.undef, V.one true (D.int IntKind.i64 i0), V.one true (D.int IntKind.i64 i1), V.undef, V.undef, V.undef, V.undef, V.undef, V.undef, V.one true (D.int IntKind.i64 i2), V.one true (D.int IntKind.i64 i3), V.undef, V.undef, V.undef, V.undef, V.undef, V.undef, V.undef, V.undef, V.undef, V.undef, V.undef, V.undef, V.undef, V.undef, V.undef, V.undef, V.undef, V.undef, V.undef, V.undef, V.undef, V.undef, V.undef, V.undef, V.undef, V.undef, V.undef, V.undef, V.undef, V.undef, V.undef, V.undef, V.undef, V.undef, V.undef, V.undef, V.undef, V.undef, V.undef, V.undef, V.undef, V.undef, V.undef, V.undef, V.undef, V.undef, V.undef] [Ob.row false (1 : Nat) l4, Ob.row false (1 : Nat) l5, Ob.row false (1 : Nat) l6])
noncomputable def spec_clCycles.l15 (n : Nat) (m5 : Nat) (m15 : Nat) (i0 : Int) (i1 : Int) (i2 : Int) (i3 : Int) (l4 : List (List D)) (l5 : List (List D)) (l6 : List (List D)) : Option (List Q) :=
  loopAt spec_clCycles.cfg [RK.own (1 : Nat)] n Tryd.f15 [1, 1, 1, 1, 0, 1, 0, 0, 1, 1, 0, 0, 1, 1, 1, 1, 1, 0, 0] [m5] m15 (St.mk [V.undef, V.undef, V.undef, V.rw (0 : Nat), V.rw (1 : Nat), V.rw (2 : Nat), V.undef, V.one true (D.int IntKind.i64 i0), V.undef, V.one true (D.int IntKind.i64 i1), V.undef, V.undef, V.undef, V.undef, V.undef, V.one true (D.int IntKind.i64 i2), V.one true (D.int IntKind.i64 i3), V.undef, V.undef, V.undef, V.undef, V.undef, V.undef, V.undef, V.undef, V.undef, V.undef, V.undef, V.undef, V.undef, V.undef, V.undef, V.undef, V.undef, V.undef, V.undef, V.undef, V.undef, V.undef, V.undef, V.undef, V.undef, V.undef, V.undef, V.undef, V.undef, V.undef, V.undef, V.undef, V.undef, V.undef, V.undef, V.undef, V.undef, V.undef, V.undef, V.undef, V.undef, V.undef, V.undef, V.undef, V.undef, V.undef, V.undef] [Ob.row false (1 : Nat) l4, Ob.row false (1 : Nat) l5, Ob.row false (1 : Nat) l6])
theorem spec_clCycles.l5_eq (n : Nat) (m5 : Nat) (i0 : Int) (i1 : Int) (l2 : List (List D)) (l3 : List (List D)) (l4 : List (List D)) :
    spec_clCycles.l5 n (m5 + 1) i0 i1 l2 l3 l4 = bif decide (i1 < i0) then spec_clCycles.l9 n m5 n (0 : Int) i1 i0 i1 l2 l3 l4 else some [Q.one (D.sl (1 : Nat) l3)] := by kernel_rfl
theorem spec_clCycles.l9_eq (n : Nat) (m5 : Nat) (m9 : Nat) (i0 : Int) (i1 : Int) (i2 : Int) (i3 : Int) (l4 : List (List D)) (l5 : List (List D)) (l6 : List (List D)) :
    spec_clCycles.l9 n m5 (m9 + 1) i0 i1 i2 i3 l4 l5 l6 = bif decide ((0 : Int) ≤ i1) then bif decide (i1 < (↑(List.length l6) : Int)) then Option.bind (Option.bind (some (cellD l6 (Int.toNat i1) (0 : Nat))) D.bool?) fun (b1 : Bool) => bif !b1 then bif decide ((0 : Int) ≤ i1) then bif decide (i1 < (↑(List.length l6) : Int)) then bif decide ((0 : Int) ≤ i1) then bif decide (i1 < (↑(List.length l4) : Int)) then Option.bind (Option.bind (some (cellD l4 (Int.toNat i1) (0 : Nat))) (D.int? IntKind.i64)) fun (i2_1 : Int) => spec_clCycles.l9 n m5 m9 (IntKind.wrap IntKind.i64 (i0 + (1 : Int))) i2_1 i2 i3 l4 l5 (setRow (1 : Nat) l6 (Int.toNat i1) (0 : Nat) [D.bool true]) else none else none else none else none else bif i0 == (0 : Int) then spec_clCycles.l5 n m5 i2 (IntKind.wrap IntKind.i64 (i3 + (1 : Int))) l4 l5 l6 else spec_clCycles.l15 n m5 n i0 (0 : Int) i2 i3 l4 l5 l6 else none else none := by kernel_rfl
theorem spec_clCycles.l15_eq (n : Nat) (m5 : Nat) (m15 : Nat) (i0 : Int) (i1 : Int) (i2 : Int) (i3 : Int) (l4 : List (List D)) (l5 : List (List D)) (l6 : List (List D)) :
    spec_clCycles.l15 n m5 (m15 + 1) i0 i1 i2 i3 l4 l5 l6 = bif decide (i1 < (↑(List.length l5) : Int)) then bif decide ((0 : Int) ≤ i1) then bif decide (i1 < (↑(List.length l5) : Int)) then Option.bind (Option.bind (some (cellD l5 (Int.toNat i1) (0 : Nat))) (D.int? IntKind.i64)) fun (i3_1 : Int) => bif decide (i3_1 ≤ i0) then spec_clCycles.l15 n m5 m15 i0 (IntKind.wrap IntKind.i64 (i1 + (1 : Int))) i2 i3 l4 l5 l6 else bif decide ((0 : Int) ≤ i1) then bif decide (i1 ≤ (↑(List.length l5) : Int)) then Option.bind (Cod.decs intC (List.take (Int.toNat i1 - (0 : Nat)) (List.drop (0 : Nat) l5))) fun (l4_1 : List Int) => bif decide (List.length (Cod.encs intC l4_1) + (1 : Nat) ≤ (17179869184 : Nat)) then bif decide ((0 : Int) ≤ i1) then bif decide (i1 ≤ (↑(List.length l5) : Int)) then bif decide (List.length (Cod.encs intC l4_1 ++ [[D.int IntKind.i64 i0]]) + List.length (List.take (List.length l5 - Int.toNat i1) (List.drop (Int.toNat i1) l5)) ≤ (17179869184 : Nat)) then spec_clCycles.l5 n m5 i2 (IntKind.wrap IntKind.i64 (i3 + (1 : Int))) l4 (Cod.encs intC l4_1 ++ [[D.int IntKind.i64 i0]] ++ List.take (List.length l5 - Int.toNat i1) (List.drop (Int.toNat i1) l5)) l6 else none else none else none else none else none else none else none else none else bif decide ((0 : Int) ≤ i1) then bif decide (i1 ≤ (↑(List.length l5) : Int)) then Option.bind (Cod.decs intC (List.take (Int.toNat i1 - (0 : Nat)) (List.drop (0 : Nat) l5))) fun (l5_1 : List Int) => bif decide (List.length (Cod.encs intC l5_1) + (1 : Nat) ≤ (17179869184 : Nat)) then bif decide ((0 : Int) ≤ i1) then bif decide (i1 ≤ (↑(List.length l5) : Int)) then bif decide (List.length (Cod.encs intC l5_1 ++ [[D.int IntKind.i64 i0]]) + List.length (List.take (List.length l5 - Int.toNat i1) (List.drop (Int.toNat i1) l5)) ≤ (17179869184 : Nat)) then spec_clCycles.l5 n m5 i2 (IntKind.wrap IntKind.i64 (i3 + (1 : Int))) l4 (Cod.encs intC l5_1 ++ [[D.int IntKind.i64 i0]] ++ List.take (List.length l5 - Int.toNat i1) (List.drop (Int.toNat i1) l5)) l6 else none else none else none else none else none else none := by kernel_rfl
noncomputable def spec_clCycles.res (n : Nat) (a0_0 : Int) (a0_1 : Int) (a0_2 : Int) (a0_3 : Int) (a0_4 : Int) (a0_5 : Int) : Option (List Q) :=
  spec_clCycles.l5 n n (6 : Int) (0 : Int) [[D.int IntKind.i64 a0_0], [D.int IntKind.i64 a0_1], [D.int IntKind.i64 a0_2], [D.int IntKind.i64 a0_3], [D.int IntKind.i64 a0_4], [D.int IntKind.i64 a0_5]] [] [[D.bool false], [D.bool false], [D.bool false], [D.bool false], [D.bool false], [D.bool false]]
theorem spec_clCycles.run (n : Nat) (a0_0 : Int) (a0_1 : Int) (a0_2 : Int) (a0_3 : Int) (a0_4 : Int) (a0_5 : Int) :
    run1 spec_clCycles.cfg [RK.own (1 : Nat)] n Tryd.f15 [Q.agg [D.int IntKind.i64 a0_0, D.int IntKind.i64 a0_1, D.int IntKind.i64 a0_2, D.int IntKind.i64 a0_3, D.int IntKind.i64 a0_4, D.int IntKind.i64 a0_5]] = spec_clCycles.res n a0_0 a0_1 a0_2 a0_3 a0_4 a0_5 := by kernel_rfl
theorem spec_clCycles.ev {n : Nat} {a0_0 : Int} {a0_1 : Int} {a0_2 : Int} {a0_3 : Int} {a0_4 : Int} {a0_5 : Int} {r : List Q} (h : spec_clCycles.res n a0_0 a0_1 a0_2 a0_3 a0_4 a0_5 = some r) : Snd Tryd.prog C0 15 [.agg [.int .i64 a0_0, .int .i64 a0_1, .int .i64 a0_2, .int .i64 a0_3, .int .i64 a0_4, .int .i64 a0_5]] r :=
  snd_ev (C := spec_clCycles.cfg) cfg0 mix rfl rfl rfl rfl rfl (.cons spec_diFaces.ok (.cons spec_l1Own.ok .nil)) .nil rfl Tryd.func15 (by kernel_rfl) (by kernel_rfl) rfl ((spec_clCycles.run n a0_0 a0_1 a0_2 a0_3 a0_4 a0_5).trans h)

theorem spec_clCycles.l15_run {n m5 : Nat} {out f : List Int} {x : Int} {i2 i3 : Int} {seen : List (List D)} (hl : out.length ≤ 100) : ∀ (d k m : Nat), k + d = out.length → d < m →
    spec_clCycles.l15 n m5 m x k i2 i3 (intC.encs f) (intC.encs out) seen = spec_clCycles.l5 n m5 i2 (IntKind.wrap .i64 (i3 + 1)) (intC.encs f) (intC.encs (out.take k ++ insI x (out.drop k))) seen := by
  intro d
  have fin : ∀ k, k ≤ out.length → intC.encs (out.take k) ++ [[D.int .i64 x]] ++ List.take (out.length - k) (List.drop k (intC.encs out)) = intC.encs (out.take k ++ [x] ++ out.drop k) := by
    intro k hk
    rw [intC_snoc, Cod.encs_drop, Cod.encs_take, Cod.encs_append, List.take_of_length_le (l := out.drop k) (by simp)]
  have dec : ∀ k, k ≤ out.length → intC.decs (List.take (k - 0) (List.drop 0 (intC.encs out))) = some (out.take k) := by
    intro k hk
    rw [Nat.sub_zero, List.drop_zero, Cod.encs_take, Cod.decs_encs (by rw [List.length_take]; unfold LIM; omega)]
  have g1 : ∀ k, k ≤ out.length → (intC.encs (out.take k)).length + 1 ≤ 17179869184 := by
    intro k hk; rw [Cod.encs_len, List.length_take]; omega
  have g2 : ∀ k, k ≤ out.length → (intC.encs (out.take k) ++ [[D.int .i64 x]]).length + (List.take (out.length - k) (List.drop k (intC.encs out))).length ≤ 17179869184 := by
    intro k hk
    rw [intC_snoc, Cod.encs_len, Cod.encs_drop, Cod.encs_take, Cod.encs_len]
    simp only [List.length_append, List.length_take, List.length_drop, List.length_singleton]
    omega
  induction d with
  | zero =>
    intro k m hk hm
    obtain ⟨m, rfl⟩ : ∃ m', m = m' + 1 := ⟨m - 1, by omega⟩
    obtain rfl : k = out.length := by omega
    have h1 : ¬ (out.length : Int) < out.length := by omega
    have h2 := fin _ (Nat.le_refl _)
    have h3 := dec _ (Nat.le_refl _)
    have h4 := g1 _ (Nat.le_refl _)
    have h5 := g2 _ (Nat.le_refl _)
    rw [spec_clCycles.l15_eq]
    simp only [Cod.encs_len, h1, decide_false, cond_false, Int.natCast_nonneg, Int.le_refl, decide_true, cond_true, Int.toNat_natCast, h3, Option.bind_some]
    rw [Cod.encs_len] at h4
    simp only [h4, h5, decide_true, cond_true, h2, List.drop_length, insI, List.append_nil]
  | succ d ih =>
    intro k m hk hm
    obtain ⟨m, rfl⟩ : ∃ m', m = m' + 1 := ⟨m - 1, by omega⟩
    have hlt : k < out.length := by omega
    have hle : (k : Int) ≤ out.length := by omega
    have h2 := fin k (by omega)
    have h3 := dec k (by omega)
    have h4 := g1 k (by omega)
    have h5 := g2 k (by omega)
    rw [Cod.encs_len] at h4
    rw [spec_clCycles.l15_eq]
    simp only [Cod.encs_len, Int.ofNat_lt, hlt, hle, decide_true, cond_true, Int.natCast_nonneg, Int.toNat_natCast, intC_int' hlt, Option.bind_some, wrap_succ (show k ≤ LIM by unfold LIM; omega), h3, h4, h5, h2]
    rw [List.drop_eq_getElem_cons hlt, insI]
    by_cases hc : out[k] ≤ x
    · simp only [hc, decide_true, cond_true]
      rw [ih (k + 1) m (by omega) (by omega), List.take_succ_eq_append_getElem hlt, List.append_assoc]
      rfl
    · simp only [hc, decide_false, cond_false]
      congr 2
      simp
theorem spec_clCycles.l9_run {n m5 : Nat} {f : List Int} (hf : f.length = 6) (hr : ∀ x ∈ f, 0 ≤ x ∧ x < 6) {out : List (List D)} {i2 i3 : Int} : ∀ (q m : Nat) (seen : List Bool) (j c : Nat), seen.length = 6 → j < 6 → seen.count false ≤ q → q < m → c + q ≤ 100 → q ≤ 100 →
    spec_clCycles.l9 n m5 m c j i2 i3 (intC.encs f) out (boolC.encs seen) =
      bif decide ((cycFrom q f seen j c).1 = 0) then spec_clCycles.l5 n m5 i2 (IntKind.wrap .i64 (i3 + 1)) (intC.encs f) out (boolC.encs (cycFrom q f seen j c).2) else spec_clCycles.l15 n m5 n ((cycFrom q f seen j c).1 : Nat) 0 i2 i3 (intC.encs f) out (boolC.encs (cycFrom q f seen j c).2) := by
  intro q
  have stop : ∀ (m : Nat) (seen : List Bool) (j c : Nat), seen.length = 6 → j < 6 → seen.getD j true = true → spec_clCycles.l9 n m5 (m + 1) c j i2 i3 (intC.encs f) out (boolC.encs seen) =
      bif decide (c = 0) then spec_clCycles.l5 n m5 i2 (IntKind.wrap .i64 (i3 + 1)) (intC.encs f) out (boolC.encs seen) else spec_clCycles.l15 n m5 n c 0 i2 i3 (intC.encs f) out (boolC.encs seen) := by
    intro m seen j c hs hj ht
    have hlt : j < seen.length := by omega
    rw [getD_of_lt hlt] at ht
    have e : ((c : Int) == 0) = decide (c = 0) := by
      rw [ieq]; congr 1; exact propext (by omega)
    rw [spec_clCycles.l9_eq]
    simp only [Cod.encs_len, Int.ofNat_lt, hlt, decide_true, cond_true, Int.natCast_nonneg, Int.toNat_natCast, boolC_cell hlt, Option.bind_some, ht, Bool.not_true, cond_false, e]
  induction q with
  | zero =>
    intro m seen j c hs hj hq hm hc _
    obtain ⟨m, rfl⟩ : ∃ m', m = m' + 1 := ⟨m - 1, by omega⟩
    exact stop m seen j c hs hj (seen_all (by omega))
  | succ q ih =>
    intro m seen j c hs hj hq hm hc hq2
    obtain ⟨m, rfl⟩ : ∃ m', m = m' + 1 := ⟨m - 1, by omega⟩
    rw [cycFrom]
    cases ht : seen.getD j true with
    | true => simp only [cond_true]; exact stop m seen j c hs hj ht
    | false =>
      have hlt : j < seen.length := by omega
      have hlf : j < f.length := by omega
      have hu := unseen_set hlt ht
      have ht' := ht
      rw [getD_of_lt hlt] at ht'
      have hx := hr f[j] (List.getElem_mem hlf)
      obtain ⟨j', hj', ej⟩ : ∃ j' : Nat, j' < 6 ∧ f[j]'hlf = (j' : Int) := ⟨(f[j]'hlf).toNat, by omega, by omega⟩
      have ej2 : (f.getD j 0).toNat = j' := by rw [getD_of_lt hlf, ej]; rfl
      rw [spec_clCycles.l9_eq]
      simp only [Cod.encs_len, Int.ofNat_lt, hlt, hlf, decide_true, cond_true, Int.natCast_nonneg, Int.toNat_natCast, boolC_cell hlt, intC_int' hlf, Option.bind_some, ht', Bool.not_false, cond_false, boolC_set, wrap_succ (show c ≤ LIM by unfold LIM; omega)]
      rw [ej, ej2]
      exact ih m (seen.set j true) j' (c + 1) (by simpa using hs) hj' (by omega) (by omega) (by omega) (by omega)
theorem spec_clCycles.l5_run {n : Nat} {f : List Int} (hf : f.length = 6) (hr : ∀ x ∈ f, 0 ≤ x ∧ x < 6) (hn : 10 < n) : ∀ (d i m : Nat) (seen : List Bool) (out : List Int), i + d = 6 → d < m → seen.length = 6 → out.length ≤ i →
    spec_clCycles.l5 n m 6 i (intC.encs f) (intC.encs out) (boolC.encs seen) = some [Q.one (.sl 1 (intC.encs (srtI out (cycGo f (List.range' i d) seen))))] := by
  intro d
  induction d with
  | zero =>
    intro i m seen out hi hm hs ho
    obtain ⟨m, rfl⟩ : ∃ m', m = m' + 1 := ⟨m - 1, by omega⟩
    obtain rfl : i = 6 := by omega
    rw [spec_clCycles.l5_eq]
    rfl
  | succ d ih =>
    intro i m seen out hi hm hs ho
    obtain ⟨m, rfl⟩ : ∃ m', m = m' + 1 := ⟨m - 1, by omega⟩
    have h1 : (i : Int) < 6 := by omega
    have hcnt : seen.count false ≤ 6 := by rw [← hs]; exact List.count_le_length
    have hw := wrap_succ (show i ≤ LIM by unfold LIM; omega)
    rw [spec_clCycles.l5_eq]
    simp only [h1, decide_true, cond_true]
    rw [show (0 : Int) = ((0 : Nat) : Int) from rfl, spec_clCycles.l9_run hf hr 6 n seen i 0 hs (by omega) hcnt (by omega) (by omega) (by omega), hw, List.range'_succ, cycGo]
    have hs2 : (cycFrom 6 f seen i 0).2.length = 6 := by rw [cycFrom_len]; exact hs
    by_cases h0 : (cycFrom 6 f seen i 0).1 = 0
    · simp only [h0, decide_true, cond_true]
      exact ih (i + 1) m _ out (by omega) (by omega) hs2 (by omega)
    · simp only [h0, decide_false, cond_false]
      rw [show (0 : Int) = ((0 : Nat) : Int) from rfl, spec_clCycles.l15_run (by omega) out.length 0 n (by omega) (by omega), hw, List.take_zero, List.drop_zero, List.nil_append, srtI]
      exact ih (i + 1) m _ _ (by omega) (by omega) hs2 (by rw [(insI_perm _ out).length_eq, List.length_cons]; omega)
def spec_clCycles.stub : Stub
  | [.agg [.int .i64 t, .int .i64 n, .int .i64 e, .int .i64 s, .int .i64 w, .int .i64 b]] => .gd (Sp.six ⟨t, n, e, s, w, b⟩) (.ret [.one (.sl 1 (intC.encs (Sp.cyc ⟨t, n, e, s, w, b⟩)))])
  | _ => .fail
theorem spec_clCycles.ok : StubOk Tryd.prog C0 15 spec_clCycles.stub := by
  intro args res h
  unfold spec_clCycles.stub at h
  split at h
  · rename_i t n e s w b
    obtain ⟨h1, h2⟩ := gd_out h
    cases h2
    refine spec_clCycles.ev (n := 20) ?_
    exact spec_clCycles.l5_run (n := 20) (f := [t, n, e, s, w, b]) rfl (six_all h1) (by omega) 6 0 20 [false, false, false, false, false, false] [] (by omega) (by omega) rfl (by simp)
  · cases h
/-! impl_cycles -/
noncomputable def impl_cycles.cfg : Cfg := { C0 with keep := fun | 3 => some [3, 4, 5, 13] | 7 => some [3, 4, 5, 7, 8, 13] | _ => none, nb := 0, M := tabM [(32, impl_Die_faces.stub)], MM := tabB [(33, sortI.stub)] }
noncomputable def impl_cycles.l3 (n : Nat) (m3 : Nat) (i0 : Int) (l1 : List (List D)) (l2 : List (List D)) (l3 : List (List D)) : Option (List Q) :=
  loopAt impl_cycles.cfg [RK.own (1 : Nat)] n Tryd.f21 [1, 1, 0, 1, 0] [] m3 (St.mk [V.undef, V.undef, V.undef, V.rw (0 : Nat), V.rw (1 : Nat), V.re (2 : Nat) (0 : Nat) (0 : Nat), V.undef, V.undef, V.undef, V.undef, V.undef, V.undef, V.undef, V.one true (D.int IntKind.i64 i0), V.undef, V.undef, V.undef, V.undef, V.undef, V.undef, V.undef, V.undef, V.undef, V.undef, V.undef, V.undef, V.undef, V.undef, V.undef, V.undef, V.undef, V.undef, V.undef, V.undef, V.undef, V.undef, V.undef, V.undef, V.undef] [Ob.row false (1 : Nat) l1, Ob.row false (1 : Nat) l2, Ob.row true (1 : Nat) l3])
noncomputable def impl_cycles.l7 (n : Nat) (m3 : Nat) (m7 : Nat) (i0 : Int) (i1 : Int) (i2 : Int) (l3 : List (List D)) (l4 : List (List D)) (l5 : List (List D)) : Option (List Q) :=
  loopAt impl_cycles.cfg [RK.own (1 : Nat)] n Tryd.f21 [1, 1, 0, 1, 0, 0, 1, 1, 0, 0, 1, 1, 0, 1, 0] [m3] m7 (St.mk [V.undef, V.undef, V.undef, V.rw (0 : Nat), V.rw (1 : Nat), V.re (2 : Nat) (0 : Nat) (0 : Nat), V.undef, V.one true (D.int IntKind.i64 i0), V.one true (D.int IntKind.i64 i1), V.undef, V.undef, V.undef, V.undef, V.one true (D.int IntKind.i64 i2), V.undef, V.undef, V.undef, V.undef, V.undef, V.undef, V.undef, V.undef, V.undef, V.undef, V.undef, V.undef, V.undef, V.undef, V.undef, V.undef, V.undef, V.undef, V.undef, V.undef, V.undef, V.undef, V.undef, V.undef, V.undef] [Ob.row false (1 : Nat) l3, Ob.row false (1 : Nat) l4, Ob.row true (1 : Nat) l5])
theorem impl_cycles.l3_eq (n : Nat) (m3 : Nat) (i0 : Int) (l1 : List (List D)) (l2 : List (List D)) (l3 : List (List D)) :
    impl_cycles.l3 n (m3 + 1) i0 l1 l2 l3 = bif decide (i0 < (6 : Int)) then impl_cycles.l7 n m3 n (0 : Int) i0 i0 l1 l2 l3 else Option.bind (Cod.decs intC l1) fun (l1 : List Int) => bif decide ((0 : Nat) < List.length l1) then some [Q.one (D.sl (1 : Nat) (Cod.encs intC (sortN l1)))] else none := by kernel_rfl
theorem impl_cycles.l7_eq (n : Nat) (m3 : Nat) (m7 : Nat) (i0 : Int) (i1 : Int) (i2 : Int) (l3 : List (List D)) (l4 : List (List D)) (l5 : List (List D)) :
    impl_cycles.l7 n m3 (m7 + 1) i0 i1 i2 l3 l4 l5 = bif decide ((0 : Int) ≤ i1) then bif decide (i1 < (6 : Int)) then bif decide (Int.toNat i1 < List.length l5) then Option.bind (Option.bind (some (cellD l5 (Int.toNat i1) (0 : Nat))) D.bool?) fun (b2 : Bool) => bif !b2 then bif decide ((0 : Int) ≤ i1) then bif decide (i1 < (6 : Int)) then bif decide (Int.toNat i1 < List.length l5) then bif decide ((0 : Int) ≤ i1) then bif decide (i1 < (↑(List.length l4) : Int)) then Option.bind (Option.bind (some (cellD l4 (Int.toNat i1) (0 : Nat))) (D.int? IntKind.i64)) fun (i3 : Int) => impl_cycles.l7 n m3 m7 (IntKind.wrap IntKind.i64 (i0 + (1 : Int))) i3 i2 l3 l4 (setRow (1 : Nat) l5 (Int.toNat i1) (0 : Nat) [D.bool true]) else none else none else none else none else none else bif decide (i0 > (0 : Int)) then bif decide (List.length l3 + (1 : Nat) ≤ (17179869184 : Nat)) then impl_cycles.l3 n m3 (IntKind.wrap IntKind.i64 (i2 + (1 : Int))) (l3 ++ [[D.int IntKind.i64 i0]]) l4 l5 else none else impl_cycles.l3 n m3 (IntKind.wrap IntKind.i64 (i2 + (1 : Int))) l3 l4 l5 else none else none else none := by kernel_rfl
noncomputable def impl_cycles.res (n : Nat) (a0_0 : Int) (a0_1 : Int) (a0_2 : Int) (a0_3 : Int) (a0_4 : Int) (a0_5 : Int) : Option (List Q) :=
  impl_cycles.l3 n n (0 : Int) [] [[D.int IntKind.i64 a0_0], [D.int IntKind.i64 a0_1], [D.int IntKind.i64 a0_2], [D.int IntKind.i64 a0_3], [D.int IntKind.i64 a0_4], [D.int IntKind.i64 a0_5]] [[D.bool false], [D.bool false], [D.bool false], [D.bool false], [D.bool false], [D.bool false]]
theorem impl_cycles.run (n : Nat) (a0_0 : Int) (a0_1 : Int) (a0_2 : Int) (a0_3 : Int) (a0_4 : Int) (a0_5 : Int) :
    run1 impl_cycles.cfg [RK.own (1 : Nat)] n Tryd.f21 [Q.agg [D.int IntKind.i64 a0_0, D.int IntKind.i64 a0_1, D.int IntKind.i64 a0_2, D.int IntKind.i64 a0_3, D.int IntKind.i64 a0_4, D.int IntKind.i64 a0_5]] = impl_cycles.res n a0_0 a0_1 a0_2 a0_3 a0_4 a0_5 := by kernel_rfl
theorem impl_cycles.ev {n : Nat} {a0_0 : Int} {a0_1 : Int} {a0_2 : Int} {a0_3 : Int} {a0_4 : Int} {a0_5 : Int} {r : List Q} (h : impl_cycles.res n a0_0 a0_1 a0_2 a0_3 a0_4 a0_5 = some r) : Snd Tryd.prog C0 21 [.agg [.int .i64 a0_0, .int .i64 a0_1, .int .i64 a0_2, .int .i64 a0_3, .int .i64 a0_4, .int .i64 a0_5]] r :=
  snd_ev (C := impl_cycles.cfg) cfg0 mix rfl rfl rfl rfl rfl (.cons impl_Die_faces.ok .nil) (.cons sortI.ok .nil) rfl Tryd.func21 (by kernel_rfl) (by kernel_rfl) rfl ((impl_cycles.run n a0_0 a0_1 a0_2 a0_3 a0_4 a0_5).trans h)

theorem impl_cycles.l7_run {n m3 : Nat} {f : List Int} (hf : f.length = 6) (hr : ∀ x ∈ f, 0 ≤ x ∧ x < 6) {out : List Int} {i2 : Int} (hout : out.length ≤ 100) : ∀ (q m : Nat) (seen : List Bool) (j c : Nat), seen.length = 6 → j < 6 → seen.count false ≤ q → q < m → c + q ≤ 100 → q ≤ 100 →
    impl_cycles.l7 n m3 m c j i2 (intC.encs out) (intC.encs f) (boolC.encs seen) =
      bif decide ((cycFrom q f seen j c).1 = 0) then impl_cycles.l3 n m3 (IntKind.wrap .i64 (i2 + 1)) (intC.encs out) (intC.encs f) (boolC.encs (cycFrom q f seen j c).2) else impl_cycles.l3 n m3 (IntKind.wrap .i64 (i2 + 1)) (intC.encs (out ++ [((cycFrom q f seen j c).1 : Int)])) (intC.encs f) (boolC.encs (cycFrom q f seen j c).2) := by
  intro q
  have stop : ∀ (m : Nat) (seen : List Bool) (j c : Nat), seen.length = 6 → j < 6 → seen.getD j true = true → impl_cycles.l7 n m3 (m + 1) c j i2 (intC.encs out) (intC.encs f) (boolC.encs seen) =
      bif decide (c = 0) then impl_cycles.l3 n m3 (IntKind.wrap .i64 (i2 + 1)) (intC.encs out) (intC.encs f) (boolC.encs seen) else impl_cycles.l3 n m3 (IntKind.wrap .i64 (i2 + 1)) (intC.encs (out ++ [(c : Int)])) (intC.encs f) (boolC.encs seen) := by
    intro m seen j c hs hj ht
    have hlt : j < seen.length := by omega
    have h6 : (j : Int) < 6 := by omega
    have hl1 : out.length + 1 ≤ 17179869184 := by omega
    rw [getD_of_lt hlt] at ht
    rw [impl_cycles.l7_eq]
    simp only [Cod.encs_len, hlt, h6, decide_true, cond_true, Int.natCast_nonneg, Int.toNat_natCast, boolC_cell hlt, Option.bind_some, ht, Bool.not_true, cond_false, hl1, intC_snoc]
    by_cases h0 : c = 0
    · subst h0; rfl
    · have h1 : (c : Int) > 0 := by omega
      simp only [h0, h1, decide_true, decide_false, cond_true, cond_false]
  induction q with
  | zero =>
    intro m seen j c hs hj hq hm hc _
    obtain ⟨m, rfl⟩ : ∃ m', m = m' + 1 := ⟨m - 1, by omega⟩
    exact stop m seen j c hs hj (seen_all (by omega))
  | succ q ih =>
    intro m seen j c hs hj hq hm hc hq2
    obtain ⟨m, rfl⟩ : ∃ m', m = m' + 1 := ⟨m - 1, by omega⟩
    rw [cycFrom]
    cases ht : seen.getD j true with
    | true => simp only [cond_true]; exact stop m seen j c hs hj ht
    | false =>
      have hlt : j < seen.length := by omega
      have hlf : j < f.length := by omega
      have h6 : (j : Int) < 6 := by omega
      have hu := unseen_set hlt ht
      have ht' := ht
      rw [getD_of_lt hlt] at ht'
      have hx := hr f[j] (List.getElem_mem hlf)
      obtain ⟨j', hj', ej⟩ : ∃ j' : Nat, j' < 6 ∧ f[j]'hlf = (j' : Int) := ⟨(f[j]'hlf).toNat, by omega, by omega⟩
      have ej2 : (f.getD j 0).toNat = j' := by rw [getD_of_lt hlf, ej]; rfl
      rw [impl_cycles.l7_eq]
      simp only [Cod.encs_len, Int.ofNat_lt, hlt, hlf, h6, decide_true, cond_true, Int.natCast_nonneg, Int.toNat_natCast, boolC_cell hlt, intC_int' hlf, Option.bind_some, ht', Bool.not_false, cond_false, boolC_set, wrap_succ (show c ≤ LIM by unfold LIM; omega)]
      rw [ej, ej2]
      exact ih m (seen.set j true) j' (c + 1) (by simpa using hs) hj' (by omega) (by omega) (by omega) (by omega)
theorem impl_cycles.l3_run {n : Nat} {f : List Int} (hf : f.length = 6) (hr : ∀ x ∈ f, 0 ≤ x ∧ x < 6) (hn : 10 < n) : ∀ (d i m : Nat) (seen : List Bool) (out : List Int), i + d = 6 → d < m → seen.length = 6 → out.length ≤ i → 0 < (out ++ cycGo f (List.range' i d) seen).length →
    impl_cycles.l3 n m i (intC.encs out) (intC.encs f) (boolC.encs seen) = some [Q.one (.sl 1 (intC.encs (sortN (out ++ cycGo f (List.range' i d) seen))))] := by
  intro d
  induction d with
  | zero =>
    intro i m seen out hi hm hs ho hp
    obtain ⟨m, rfl⟩ : ∃ m', m = m' + 1 := ⟨m - 1, by omega⟩
    obtain rfl : i = 6 := by omega
    have e : cycGo f (List.range' 6 0) seen = [] := rfl
    rw [e, List.append_nil] at hp ⊢
    have h1 : ¬ ((6 : Nat) : Int) < 6 := by decide
    rw [impl_cycles.l3_eq]
    simp only [h1, decide_false, cond_false, Cod.decs_encs (show out.length ≤ LIM by unfold LIM; omega), Option.bind_some, hp, decide_true, cond_true]
  | succ d ih =>
    intro i m seen out hi hm hs ho hp
    obtain ⟨m, rfl⟩ : ∃ m', m = m' + 1 := ⟨m - 1, by omega⟩
    have h1 : (i : Int) < 6 := by omega
    have hcnt : seen.count false ≤ 6 := by rw [← hs]; exact List.count_le_length
    have hw := wrap_succ (show i ≤ LIM by unfold LIM; omega)
    rw [List.range'_succ, cycGo] at hp ⊢
    rw [impl_cycles.l3_eq]
    simp only [h1, decide_true, cond_true]
    rw [show (0 : Int) = ((0 : Nat) : Int) from rfl, impl_cycles.l7_run hf hr (by omega) 6 n seen i 0 hs (by omega) hcnt (by omega) (by omega) (by omega), hw]
    have hs2 : (cycFrom 6 f seen i 0).2.length = 6 := by rw [cycFrom_len]; exact hs
    by_cases h0 : (cycFrom 6 f seen i 0).1 = 0
    · simp only [h0, decide_true, cond_true] at hp ⊢
      exact ih (i + 1) m _ out (by omega) (by omega) hs2 (by omega) hp
    · simp only [h0, decide_false, cond_false] at hp ⊢
      have := ih (i + 1) m (cycFrom 6 f seen i 0).2 (out ++ [((cycFrom 6 f seen i 0).1 : Int)]) (by omega) (by omega) hs2 (by simp; omega) (by simp; omega)
      rw [List.append_assoc, List.singleton_append] at this
      exact this
def impl_cycles.stub : Stub
  | [.agg [.int .i64 t, .int .i64 n, .int .i64 e, .int .i64 s, .int .i64 w, .int .i64 b]] => .gd (Sp.six ⟨t, n, e, s, w, b⟩) (.ret [.one (.sl 1 (intC.encs (Sp.cyc ⟨t, n, e, s, w, b⟩)))])
  | _ => .fail
theorem impl_cycles.ok : StubOk Tryd.prog C0 21 impl_cycles.stub := by
  intro args res h
  unfold impl_cycles.stub at h
  split at h
  · rename_i t n e s w b
    obtain ⟨h1, h2⟩ := gd_out h
    cases h2
    refine impl_cycles.ev (n := 20) ?_
    have := impl_cycles.l3_run (n := 20) (f := [t, n, e, s, w, b]) rfl (six_all h1) (by omega) 6 0 20 [false, false, false, false, false, false] [] (by omega) (by omega) rfl (by simp) (cycU_pos ⟨t, n, e, s, w, b⟩)
    rw [sortN_srt] at this
    exact this
  · cases h
/-! spec_clColors -/
noncomputable def spec_clColors.cfg : Cfg := { C0 with keep := fun _ => none, nb := 0, M := tabM [(24, spec_l1In.stub)], MM := tabB [] }
noncomputable def spec_clColors.res (n : Nat) (a0 : Int) : Option (List Q) :=
  some [Q.one (D.bool (inR a0 (1 : Int) (9 : Int)))]
theorem spec_clColors.run (n : Nat) (a0 : Int) :
    run1 spec_clColors.cfg [RK.one LK.bool] n Tryd.f12 [Q.one (D.int IntKind.i64 a0)] = spec_clColors.res n a0 := by kernel_rfl
theorem spec_clColors.ev {n : Nat} {a0 : Int} {r : List Q} (h : spec_clColors.res n a0 = some r) : Snd Tryd.prog C0 12 [.one (.int .i64 a0)] r :=
  snd_ev (C := spec_clColors.cfg) cfg0 mix rfl rfl rfl rfl rfl (.cons spec_l1In.ok .nil) .nil rfl Tryd.func12 (by kernel_rfl) (by kernel_rfl) rfl ((spec_clColors.run n a0).trans h)

def spec_clColors.stub : Stub
  | [.one (.int .i64 k)] => .ret [.one (.bool (Sp.inR k 1 9))]
  | _ => .fail
theorem spec_clColors.ok : StubOk Tryd.prog C0 12 spec_clColors.stub := by
  intro args res h
  unfold spec_clColors.stub at h
  split at h
  · cases h; exact spec_clColors.ev (n := 0) rfl
  · cases h
/-! impl_isCount -/
noncomputable def impl_isCount.cfg : Cfg := { C0 with keep := fun _ => none, nb := 0, M := tabM [(30, impl_in.stub)], MM := tabB [] }
noncomputable def impl_isCount.res (n : Nat) (a0 : Int) : Option (List Q) :=
  some [Q.one (D.bool (inR a0 (1 : Int) (9 : Int)))]
theorem impl_isCount.run (n : Nat) (a0 : Int) :
    run1 impl_isCount.cfg [RK.one LK.bool] n Tryd.f18 [Q.one (D.int IntKind.i64 a0)] = impl_isCount.res n a0 := by kernel_rfl
theorem impl_isCount.ev {n : Nat} {a0 : Int} {r : List Q} (h : impl_isCount.res n a0 = some r) : Snd Tryd.prog C0 18 [.one (.int .i64 a0)] r :=
  snd_ev (C := impl_isCount.cfg) cfg0 mix rfl rfl rfl rfl rfl (.cons impl_in.ok .nil) .nil rfl Tryd.func18 (by kernel_rfl) (by kernel_rfl) rfl ((impl_isCount.run n a0).trans h)

def impl_isCount.stub : Stub
  | [.one (.int .i64 k)] => .ret [.one (.bool (Sp.inR k 1 9))]
  | _ => .fail
theorem impl_isCount.ok : StubOk Tryd.prog C0 18 impl_isCount.stub := by
  intro args res h
  unfold impl_isCount.stub at h
  split at h
  · cases h; exact impl_isCount.ev (n := 0) rfl
  · cases h
end Go.Proofs.EV.PL
set_option linter.unusedVariables false
set_option linter.unusedSimpArgs false
/-! Words of rolls. -/
namespace Go.Proofs.EV.PL
open Go Go.Proofs Go.Proofs.EV Sp
/-! strings_asciiSet_contains -/
noncomputable def strings_asciiSet_contains.cfg : Cfg := { C0 with keep := fun _ => none, nb := 0, M := tabM [], MM := tabB [] }
noncomputable def strings_asciiSet_contains.res (n : Nat) (cs : List D) (a1 : Int) : Option (List Q) :=
  bif decide ((0 : Int) ≤ a1) then bif decide (a1 < (256 : Int)) then bif decide (Int.toNat a1 * (1 : Nat) + (1 : Nat) ≤ List.length cs) then Option.bind (Option.bind (some (cellD [cs] (0 : Nat) (Int.toNat a1 * (1 : Nat)))) D.bool?) fun (b1 : Bool) => some [Q.one (D.bool b1)] else none else none else none
theorem strings_asciiSet_contains.run (n : Nat) (cs : List D) (a1 : Int) :
    run1 strings_asciiSet_contains.cfg [RK.one LK.bool] n Tryd.f45 [Q.one (D.pt cs), Q.one (D.int IntKind.u8 a1)] = strings_asciiSet_contains.res n cs a1 := by kernel_rfl
theorem strings_asciiSet_contains.ev {n : Nat} {cs : List D} {a1 : Int} {r : List Q} (h : strings_asciiSet_contains.res n cs a1 = some r) : Snd Tryd.prog C0 45 [.one (.pt cs), .one (.int .u8 a1)] r :=
  snd_ev (C := strings_asciiSet_contains.cfg) cfg0 mix rfl rfl rfl rfl rfl .nil .nil rfl Tryd.func45 (by kernel_rfl) (by kernel_rfl) rfl ((strings_asciiSet_contains.run n cs a1).trans h)

def strings_asciiSet_contains.stub : Stub
  | [.one (.pt cs), .one (.int .u8 c)] => .gd (Sp.isSet cs) (.gd (decide (0 ≤ c ∧ c < 256)) (.ret [.one (.bool (Sp.dirB c))]))
  | _ => .fail
theorem strings_asciiSet_contains.ok : StubOk Tryd.prog C0 45 strings_asciiSet_contains.stub := by
  intro args res h
  unfold strings_asciiSet_contains.stub at h
  split at h
  · obtain ⟨h1, h2⟩ := gd_out h
    obtain ⟨h3, h4⟩ := gd_out h2
    obtain ⟨h5, h6⟩ := of_decide_eq_true h3
    cases h4
    obtain ⟨k1, k2⟩ := isSet_get h1
    rename_i cs c
    obtain ⟨i, rfl⟩ : ∃ i : Nat, c = (i : Int) := ⟨c.toNat, by omega⟩
    have hi : i < 256 := by omega
    have g1 : i * 1 + 1 ≤ cs.length := by omega
    refine strings_asciiSet_contains.ev (n := 0) ?_
    have e : D.bool? (cellD [cs] 0 (i * 1)) = some (dirB (i : Nat)) := by
      unfold cellD
      rw [Nat.mul_one]
      show D.bool? (cs.getD i .nilp) = _
      rw [k2 i hi]; rfl
    unfold strings_asciiSet_contains.res
    simp only [h5, h6, Int.toNat_natCast, g1, decide_true, cond_true, e, Option.bind_some]
  · cases h
/-! strings_trimLeftASCII -/
noncomputable def strings_trimLeftASCII.cfg : Cfg := { C0 with keep := fun | 1 => some [0, 1] | _ => none, nb := 0, M := tabM [(45, strings_asciiSet_contains.stub)], MM := tabB [] }
noncomputable def strings_trimLeftASCII.l1 (n : Nat) (m1 : Nat) (s0 : ByteArray) (l1 : List D) : Option (List Q) :=
  loopAt strings_trimLeftASCII.cfg [RK.one LK.str] n Tryd.f39 [1, 0, 0] [] m1 (St.mk [V.one true (D.str s0), V.one false (D.pt l1), V.undef, V.undef, V.undef, V.undef, V.undef, V.undef, V.undef, V.undef, V.undef, V.undef, V.undef, V.undef, V.undef, V.undef] [])
theorem strings_trimLeftASCII.l1_eq (n : Nat) (m1 : Nat) (s0 : ByteArray) (l1 : List D) :
    strings_trimLeftASCII.l1 n (m1 + 1) s0 l1 = bif decide ((↑(ByteArray.size s0) : Int) > (0 : Int)) then bif decide ((0 : Int) < (↑(ByteArray.size s0) : Int)) then bif isSet l1 then bif decide ((0 : Int) ≤ byteAt s0 (Int.toNat (0 : Int)) ∧ byteAt s0 (Int.toNat (0 : Int)) < (256 : Int)) then bif !dirB (byteAt s0 (Int.toNat (0 : Int))) then some [Q.one (D.str s0)] else bif decide ((1 : Int) ≤ (↑(ByteArray.size s0) : Int)) then strings_trimLeftASCII.l1 n m1 (ByteArray.extract s0 (Int.toNat (1 : Int)) (ByteArray.size s0)) l1 else none else none else none else none else some [Q.one (D.str s0)] := by kernel_rfl
noncomputable def strings_trimLeftASCII.res (n : Nat) (a0 : ByteArray) (cs : List D) : Option (List Q) :=
  strings_trimLeftASCII.l1 n n a0 cs
theorem strings_trimLeftASCII.run (n : Nat) (a0 : ByteArray) (cs : List D) :
    run1 strings_trimLeftASCII.cfg [RK.one LK.str] n Tryd.f39 [Q.one (D.str a0), Q.one (D.pt cs)] = strings_trimLeftASCII.res n a0 cs := by kernel_rfl
theorem strings_trimLeftASCII.ev {n : Nat} {a0 : ByteArray} {cs : List D} {r : List Q} (h : strings_trimLeftASCII.res n a0 cs = some r) : Snd Tryd.prog C0 39 [.one (.str a0), .one (.pt cs)] r :=
  snd_ev (C := strings_trimLeftASCII.cfg) cfg0 mix rfl rfl rfl rfl rfl (.cons strings_asciiSet_contains.ok .nil) .nil rfl Tryd.func39 (by kernel_rfl) (by kernel_rfl) rfl ((strings_trimLeftASCII.run n a0 cs).trans h)

theorem byteAt_in (s : ByteArray) (i : Nat) : 0 ≤ byteAt s i ∧ byteAt s i < 256 := by
  unfold byteAt
  have := (s.data.toList.getD i 0).toNat_lt
  omega
theorem strings_trimLeftASCII.l1_run {n : Nat} {cs : List D} (hc : isSet cs = true) : ∀ (d m : Nat) (s : ByteArray), s.size ≤ d → d < m →
    strings_trimLeftASCII.l1 n m s cs = some [Q.one (.str (trimLn d s))] := by
  intro d
  induction d with
  | zero =>
    intro m s hs hm
    obtain ⟨m, rfl⟩ : ∃ m', m = m' + 1 := ⟨m - 1, by omega⟩
    have h1 : ¬ ((s.size : Nat) : Int) > 0 := by omega
    rw [strings_trimLeftASCII.l1_eq]
    simp only [h1, decide_false, cond_false, trimLn]
  | succ d ih =>
    intro m s hs hm
    obtain ⟨m, rfl⟩ : ∃ m', m = m' + 1 := ⟨m - 1, by omega⟩
    rw [strings_trimLeftASCII.l1_eq, trimLn]
    by_cases h0 : 0 < s.size
    · have h1 : ((s.size : Nat) : Int) > 0 := by omega
      have h2 : (0 : Int) < ((s.size : Nat) : Int) := by omega
      have h3 : (1 : Int) ≤ ((s.size : Nat) : Int) := by omega
      have hb := byteAt_in s 0
      have hsz : (s.extract 1 s.size).size ≤ d := by rw [ByteArray.size_extract]; omega
      simp only [h0, h1, h2, h3, hc, hb, and_self, decide_true, cond_true, Int.toNat_zero, show Int.toNat (1 : Int) = 1 from rfl, ih m _ hsz (by omega)]
      cases dirB (byteAt s 0) <;> rfl
    · have h1 : ¬ ((s.size : Nat) : Int) > 0 := by omega
      simp only [h0, h1, decide_false, cond_false]
def isSetR (cs : List D) : Bool := Sp.isSet cs
def strings_trimLeftASCII.stub : Stub
  | [.one (.str s), .one (.pt cs)] => .gd (isSetR cs) (.ret [.one (.str (Sp.trimL s))])
  | _ => .fail
theorem strings_trimLeftASCII.ok : StubOk Tryd.prog C0 39 strings_trimLeftASCII.stub := by
  intro args res h
  unfold strings_trimLeftASCII.stub at h
  split at h
  · rename_i s cs
    obtain ⟨h1, h2⟩ := gd_out h
    cases h2
    refine strings_trimLeftASCII.ev (n := s.size + 1) ?_
    exact strings_trimLeftASCII.l1_run (n := s.size + 1) h1 s.size (s.size + 1) s (Nat.le_refl _) (by omega)
  · cases h
/-! strings_trimRightASCII -/
noncomputable def strings_trimRightASCII.cfg : Cfg := { C0 with keep := fun | 1 => some [0, 1] | _ => none, nb := 0, M := tabM [(45, strings_asciiSet_contains.stub)], MM := tabB [] }
noncomputable def strings_trimRightASCII.l1 (n : Nat) (m1 : Nat) (s0 : ByteArray) (l1 : List D) : Option (List Q) :=
  loopAt strings_trimRightASCII.cfg [RK.one LK.str] n Tryd.f40 [1, 0, 0] [] m1 (St.mk [V.one true (D.str s0), V.one false (D.pt l1), V.undef, V.undef, V.undef, V.undef, V.undef, V.undef, V.undef, V.undef, V.undef, V.undef, V.undef, V.undef, V.undef, V.undef, V.undef, V.undef, V.undef, V.undef, V.undef, V.undef] [])
theorem strings_trimRightASCII.l1_eq (n : Nat) (m1 : Nat) (s0 : ByteArray) (l1 : List D) :
    strings_trimRightASCII.l1 n (m1 + 1) s0 l1 = bif decide ((↑(ByteArray.size s0) : Int) > (0 : Int)) then bif decide ((0 : Int) ≤ IntKind.wrap IntKind.i64 ((↑(ByteArray.size s0) : Int) - (1 : Int))) then bif decide (IntKind.wrap IntKind.i64 ((↑(ByteArray.size s0) : Int) - (1 : Int)) < (↑(ByteArray.size s0) : Int)) then bif isSet l1 then bif decide ((0 : Int) ≤ byteAt s0 (Int.toNat (IntKind.wrap IntKind.i64 ((↑(ByteArray.size s0) : Int) - (1 : Int)))) ∧ byteAt s0 (Int.toNat (IntKind.wrap IntKind.i64 ((↑(ByteArray.size s0) : Int) - (1 : Int)))) < (256 : Int)) then bif !dirB (byteAt s0 (Int.toNat (IntKind.wrap IntKind.i64 ((↑(ByteArray.size s0) : Int) - (1 : Int))))) then some [Q.one (D.str s0)] else bif decide ((0 : Int) ≤ IntKind.wrap IntKind.i64 ((↑(ByteArray.size s0) : Int) - (1 : Int))) then bif decide (IntKind.wrap IntKind.i64 ((↑(ByteArray.size s0) : Int) - (1 : Int)) ≤ (↑(ByteArray.size s0) : Int)) then strings_trimRightASCII.l1 n m1 (ByteArray.extract s0 (0 : Nat) (Int.toNat (IntKind.wrap IntKind.i64 ((↑(ByteArray.size s0) : Int) - (1 : Int))))) l1 else none else none else none else none else none else none else some [Q.one (D.str s0)] := by kernel_rfl
noncomputable def strings_trimRightASCII.res (n : Nat) (a0 : ByteArray) (cs : List D) : Option (List Q) :=
  strings_trimRightASCII.l1 n n a0 cs
theorem strings_trimRightASCII.run (n : Nat) (a0 : ByteArray) (cs : List D) :
    run1 strings_trimRightASCII.cfg [RK.one LK.str] n Tryd.f40 [Q.one (D.str a0), Q.one (D.pt cs)] = strings_trimRightASCII.res n a0 cs := by kernel_rfl
theorem strings_trimRightASCII.ev {n : Nat} {a0 : ByteArray} {cs : List D} {r : List Q} (h : strings_trimRightASCII.res n a0 cs = some r) : Snd Tryd.prog C0 40 [.one (.str a0), .one (.pt cs)] r :=
  snd_ev (C := strings_trimRightASCII.cfg) cfg0 mix rfl rfl rfl rfl rfl (.cons strings_asciiSet_contains.ok .nil) .nil rfl Tryd.func40 (by kernel_rfl) (by kernel_rfl) rfl ((strings_trimRightASCII.run n a0 cs).trans h)

theorem strings_trimRightASCII.l1_run {n : Nat} {cs : List D} (hc : isSet cs = true) : ∀ (d m : Nat) (s : ByteArray), s.size ≤ d → s.size ≤ LIM → d < m →
    strings_trimRightASCII.l1 n m s cs = some [Q.one (.str (trimRn d s))] := by
  intro d
  induction d with
  | zero =>
    intro m s hs hl hm
    obtain ⟨m, rfl⟩ : ∃ m', m = m' + 1 := ⟨m - 1, by omega⟩
    have h1 : ¬ ((s.size : Nat) : Int) > 0 := by omega
    rw [strings_trimRightASCII.l1_eq]
    simp only [h1, decide_false, cond_false, trimRn]
  | succ d ih =>
    intro m s hs hl hm
    obtain ⟨m, rfl⟩ : ∃ m', m = m' + 1 := ⟨m - 1, by omega⟩
    rw [strings_trimRightASCII.l1_eq, trimRn]
    by_cases h0 : 0 < s.size
    · have h1 : ((s.size : Nat) : Int) > 0 := by omega
      have hw : IntKind.wrap .i64 (((s.size : Nat) : Int) - 1) = ((s.size - 1 : Nat) : Int) := by unfold LIM at hl; rw [wrap_in (by omega) (by omega)]; omega
      have h2 : ((s.size - 1 : Nat) : Int) < ((s.size : Nat) : Int) := by omega
      have h3 : ((s.size - 1 : Nat) : Int) ≤ ((s.size : Nat) : Int) := by omega
      have hb := byteAt_in s (s.size - 1)
      have hsz : (s.extract 0 (s.size - 1)).size ≤ d := by rw [ByteArray.size_extract]; omega
      have hsl : (s.extract 0 (s.size - 1)).size ≤ LIM := by rw [ByteArray.size_extract]; omega
      simp only [h0, h1, hw, h2, h3, hc, hb, and_self, decide_true, cond_true, Int.natCast_nonneg, Int.toNat_natCast, ih m _ hsz hsl (by omega)]
      cases dirB (byteAt s (s.size - 1)) <;> rfl
    · have h1 : ¬ ((s.size : Nat) : Int) > 0 := by omega
      simp only [h0, h1, decide_false, cond_false]
def strings_trimRightASCII.stub : Stub
  | [.one (.str s), .one (.pt cs)] => .gd (isSetR cs) (.gd (decide (s.size ≤ LIM)) (.ret [.one (.str (Sp.trimR s))]))
  | _ => .fail
theorem strings_trimRightASCII.ok : StubOk Tryd.prog C0 40 strings_trimRightASCII.stub := by
  intro args res h
  unfold strings_trimRightASCII.stub at h
  split at h
  · rename_i s cs
    obtain ⟨h1, h2⟩ := gd_out h
    obtain ⟨h3, h4⟩ := gd_out h2
    cases h4
    refine strings_trimRightASCII.ev (n := s.size + 1) ?_
    exact strings_trimRightASCII.l1_run (n := s.size + 1) h1 s.size (s.size + 1) s (Nat.le_refl _) (of_decide_eq_true h3) (by omega)
  · cases h
noncomputable def mkc : Cfg := { C0 with nb := 0, M := tabM [], MM := tabB [] }
theorem mk.run : run1 mkc (C0.sig 38) 10 Tryd.f38 [.one (.str ⟨#[110, 101, 115, 119]⟩)] = some [.agg ((List.range 256).map fun i => D.bool (Sp.dirB (i : Nat))), .one (.bool true)] := by kernel_rfl
def strings_makeASCIISet.stub : Stub
  | [.one (.str s)] => .gd (decide (s = ⟨#[110, 101, 115, 119]⟩)) (.ret [.agg ((List.range 256).map fun i => D.bool (Sp.dirB (i : Nat))), .one (.bool true)])
  | _ => .fail
theorem strings_makeASCIISet.ok : StubOk Tryd.prog C0 38 strings_makeASCIISet.stub := by
  intro args res h
  unfold strings_makeASCIISet.stub at h
  split at h
  · obtain ⟨h1, h2⟩ := gd_out h
    obtain rfl := of_decide_eq_true h1
    cases h2
    exact snd_ev (C := mkc) cfg0 mix rfl rfl rfl rfl rfl .nil .nil rfl Tryd.func38 (by kernel_rfl) (by kernel_rfl) rfl mk.run
  · cases h
/-! strings_Trim -/
noncomputable def strings_Trim.cfg : Cfg := { C0 with keep := fun _ => none, nb := 0, M := tabM [(38, strings_makeASCIISet.stub), (39, strings_trimLeftASCII.stub), (40, strings_trimRightASCII.stub)], MM := tabB [] }
noncomputable def strings_Trim.res (n : Nat) (a0 : ByteArray) : Option (List Q) :=
  bif strEq a0 (ByteArray.mk #[]) then some [Q.one (D.str a0)] else bif decide (ByteArray.size a0 ≤ (17179869184 : Nat)) then some [Q.one (D.str (trimL (trimR a0)))] else none
theorem strings_Trim.run (n : Nat) (a0 : ByteArray) :
    run1 strings_Trim.cfg [RK.one LK.str] n Tryd.f31 [Q.one (D.str a0), Q.one (D.str (ByteArray.mk #[(110 : UInt8), (101 : UInt8), (115 : UInt8), (119 : UInt8)]))] = strings_Trim.res n a0 := by kernel_rfl
theorem strings_Trim.ev {n : Nat} {a0 : ByteArray} {r : List Q} (h : strings_Trim.res n a0 = some r) : Snd Tryd.prog C0 31 [.one (.str a0), .one (.str ⟨#[110, 101, 115, 119]⟩)] r :=
  snd_ev (C := strings_Trim.cfg) cfg0 mix rfl rfl rfl rfl rfl (.cons strings_makeASCIISet.ok (.cons strings_trimLeftASCII.ok (.cons strings_trimRightASCII.ok .nil))) .nil rfl Tryd.func31 (by kernel_rfl) (by kernel_rfl) rfl ((strings_Trim.run n a0).trans h)

def strings_Trim.stub : Stub
  | [.one (.str s), .one (.str t)] => .gd (decide (t = ⟨#[110, 101, 115, 119]⟩)) (.gd (decide (s.size ≤ LIM)) (.ret [.one (.str (Sp.trimD s))]))
  | _ => .fail
theorem strings_Trim.ok : StubOk Tryd.prog C0 31 strings_Trim.stub := by
  intro args res h
  unfold strings_Trim.stub at h
  split at h
  · rename_i s t
    obtain ⟨h1, h2⟩ := gd_out h
    obtain rfl := of_decide_eq_true h1
    obtain ⟨h3, h4⟩ := gd_out h2
    cases h4
    refine strings_Trim.ev (n := 0) ?_
    have h3 : s.size ≤ 17179869184 := of_decide_eq_true h3
    unfold strings_Trim.res Sp.trimD
    simp only [h3, decide_true, cond_true]
    cases strEq s ⟨#[]⟩ <;> rfl
  · cases h
/-! impl_IsRolls -/
noncomputable def impl_IsRolls.cfg : Cfg := { C0 with keep := fun _ => none, nb := 0, M := tabM [(31, strings_Trim.stub)], MM := tabB [] }
noncomputable def impl_IsRolls.res (n : Nat) (a0 : ByteArray) : Option (List Q) :=
  bif decide ((↑(ByteArray.size a0) : Int) ≤ (60 : Int)) then bif decide (ByteArray.size a0 ≤ (17179869184 : Nat)) then some [Q.one (D.bool (strEq (trimD a0) (ByteArray.mk #[])))] else none else some [Q.one (D.bool false)]
theorem impl_IsRolls.run (n : Nat) (a0 : ByteArray) :
    run1 impl_IsRolls.cfg [RK.one LK.bool] n Tryd.f19 [Q.one (D.str a0)] = impl_IsRolls.res n a0 := by kernel_rfl
theorem impl_IsRolls.ev {n : Nat} {a0 : ByteArray} {r : List Q} (h : impl_IsRolls.res n a0 = some r) : Snd Tryd.prog C0 19 [.one (.str a0)] r :=
  snd_ev (C := impl_IsRolls.cfg) cfg0 mix rfl rfl rfl rfl rfl (.cons strings_Trim.ok .nil) .nil rfl Tryd.func19 (by kernel_rfl) (by kernel_rfl) rfl ((impl_IsRolls.run n a0).trans h)

def impl_IsRolls.stub : Stub
  | [.one (.str s)] => .ret [.one (.bool (Sp.isWord s))]
  | _ => .fail
theorem impl_IsRolls.ok : StubOk Tryd.prog C0 19 impl_IsRolls.stub := by
  intro args res h
  unfold impl_IsRolls.stub at h
  split at h
  · rename_i s
    cases h
    refine impl_IsRolls.ev (n := 0) ?_
    unfold impl_IsRolls.res Sp.isWord
    rw [trimD_nil]
    by_cases h6 : s.size ≤ 60
    · have h7 : ((s.size : Nat) : Int) ≤ 60 := by omega
      have h8 : s.size ≤ 17179869184 := by omega
      simp only [h6, h7, h8, decide_true, cond_true, Bool.true_and]
    · have h7 : ¬ ((s.size : Nat) : Int) ≤ 60 := by omega
      simp only [h6, h7, decide_false, cond_false, Bool.false_and]
  · cases h
/-! spec_diDir -/
noncomputable def spec_diDir.cfg : Cfg := { C0 with keep := fun | 2 => some [0, 3] | _ => none, nb := 0, M := tabM [(35, spec_diDirs.stub)], MM := tabB [] }
noncomputable def spec_diDir.l2 (n : Nat) (m2 : Nat) (s0 : ByteArray) (i1 : Int) : Option (List Q) :=
  loopAt spec_diDir.cfg [RK.one (LK.int IntKind.i64)] n Tryd.f25 [1, 0, 1, 0] [] m2 (St.mk [V.one true (D.str s0), V.undef, V.undef, V.one true (D.int IntKind.i64 i1), V.undef, V.undef, V.undef, V.undef, V.undef, V.undef, V.undef, V.undef, V.undef, V.undef, V.undef, V.undef] [])
theorem spec_diDir.l2_eq (n : Nat) (m2 : Nat) (s0 : ByteArray) (i1 : Int) :
    spec_diDir.l2 n (m2 + 1) s0 i1 = bif decide (i1 < (4 : Int)) then bif decide ((0 : Int) ≤ IntKind.wrap IntKind.i64 (i1 + (1 : Int))) then bif decide (IntKind.wrap IntKind.i64 (i1 + (1 : Int)) ≤ (4 : Int)) then bif decide ((0 : Int) ≤ i1) then bif decide (i1 ≤ (↑(Int.toNat (IntKind.wrap IntKind.i64 (i1 + (1 : Int)))) : Int)) then bif strEq s0 (ByteArray.extract (ByteArray.mk #[(110 : UInt8), (101 : UInt8), (115 : UInt8), (119 : UInt8)]) (Int.toNat i1) (Int.toNat (IntKind.wrap IntKind.i64 (i1 + (1 : Int))))) then some [Q.one (D.int IntKind.i64 i1)] else spec_diDir.l2 n m2 s0 (IntKind.wrap IntKind.i64 (i1 + (1 : Int))) else none else none else none else none else some [Q.one (D.int IntKind.i64 (-1 : Int))] := by kernel_rfl
noncomputable def spec_diDir.res (n : Nat) (a0 : ByteArray) : Option (List Q) :=
  spec_diDir.l2 n n a0 (0 : Int)
theorem spec_diDir.run (n : Nat) (a0 : ByteArray) :
    run1 spec_diDir.cfg [RK.one (LK.int IntKind.i64)] n Tryd.f25 [Q.one (D.str a0)] = spec_diDir.res n a0 := by kernel_rfl
theorem spec_diDir.ev {n : Nat} {a0 : ByteArray} {r : List Q} (h : spec_diDir.res n a0 = some r) : Snd Tryd.prog C0 25 [.one (.str a0)] r :=
  snd_ev (C := spec_diDir.cfg) cfg0 mix rfl rfl rfl rfl rfl (.cons spec_diDirs.ok .nil) .nil rfl Tryd.func25 (by kernel_rfl) (by kernel_rfl) rfl ((spec_diDir.run n a0).trans h)

theorem strEq_one (b c : UInt8) : strEq ⟨#[b]⟩ ⟨#[c]⟩ = decide ((b.toNat : Int) = (c.toNat : Int)) := by
  unfold strEq
  rw [ByteArray.toList_eq, ByteArray.toList_eq]
  show ([b] == [c]) = _
  by_cases h : b = c
  · subst h; simp
  · have h2 : ¬ ((b.toNat : Int) = (c.toNat : Int)) := fun e => h (UInt8.toNat_inj.1 (by omega))
    rw [decide_eq_false h2]
    simp [h]
theorem spec_diDir.one (b : UInt8) : spec_diDir.res 5 ⟨#[b]⟩ = some [Q.one (.int .i64 (dirIx (b.toNat : Int)))] := by
  have e0 : (ByteArray.mk #[(110 : UInt8), (101 : UInt8), (115 : UInt8), (119 : UInt8)]).extract 0 1 = ⟨#[110]⟩ := by decide +kernel
  have e1 : (ByteArray.mk #[(110 : UInt8), (101 : UInt8), (115 : UInt8), (119 : UInt8)]).extract 1 2 = ⟨#[101]⟩ := by decide +kernel
  have e2 : (ByteArray.mk #[(110 : UInt8), (101 : UInt8), (115 : UInt8), (119 : UInt8)]).extract 2 3 = ⟨#[115]⟩ := by decide +kernel
  have e3 : (ByteArray.mk #[(110 : UInt8), (101 : UInt8), (115 : UInt8), (119 : UInt8)]).extract 3 4 = ⟨#[119]⟩ := by decide +kernel
  have key : ∀ (k : Nat) (c : UInt8) (m : Nat), k < 4 → (ByteArray.mk #[(110 : UInt8), (101 : UInt8), (115 : UInt8), (119 : UInt8)]).extract k (k + 1) = ⟨#[c]⟩ →
      spec_diDir.l2 5 (m + 1) ⟨#[b]⟩ k = bif decide ((b.toNat : Int) = (c.toNat : Int)) then some [Q.one (.int .i64 k)] else spec_diDir.l2 5 m ⟨#[b]⟩ (k + 1 : Nat) := by
    intro k c m hk he
    have h1 : (k : Int) < 4 := by omega
    have h2 : ((k + 1 : Nat) : Int) ≤ 4 := by omega
    have h3 : (k : Int) ≤ ((k + 1 : Nat) : Int) := by omega
    rw [spec_diDir.l2_eq]
    simp only [h1, h2, h3, wrap_succ (show k ≤ LIM by unfold LIM; omega), Int.natCast_nonneg, Int.toNat_natCast, decide_true, cond_true, he, strEq_one]
  have last : spec_diDir.l2 5 1 ⟨#[b]⟩ (4 : Nat) = some [Q.one (.int .i64 (-1))] := by
    rw [spec_diDir.l2_eq]; rfl
  unfold spec_diDir.res
  rw [show (0 : Int) = ((0 : Nat) : Int) from rfl, key 0 110 4 (by decide) e0, key 1 101 3 (by decide) e1, key 2 115 2 (by decide) e2, key 3 119 1 (by decide) e3, last]
  unfold dirIx
  rw [show ((110 : UInt8).toNat : Int) = 110 from rfl, show ((101 : UInt8).toNat : Int) = 101 from rfl, show ((115 : UInt8).toNat : Int) = 115 from rfl, show ((119 : UInt8).toNat : Int) = 119 from rfl]
  cases decide ((b.toNat : Int) = 110) <;> cases decide ((b.toNat : Int) = 101) <;> cases decide ((b.toNat : Int) = 115) <;> cases decide ((b.toNat : Int) = 119) <;> rfl
def spec_diDir.stub : Stub
  | [.one (.str s)] => .gd (decide (s.size = 1)) (.ret [.one (.int .i64 (Sp.dirIx (byteAt s 0)))])
  | _ => .fail
theorem spec_diDir.ok : StubOk Tryd.prog C0 25 spec_diDir.stub := by
  intro args res h
  unfold spec_diDir.stub at h
  split at h
  · rename_i s
    obtain ⟨h1, h2⟩ := gd_out h
    have h1 := of_decide_eq_true h1
    cases h2
    refine spec_diDir.ev (n := 5) ?_
    obtain ⟨⟨l⟩⟩ := s
    match l, h1 with
    | [b], _ => exact spec_diDir.one b
  · cases h
/-! spec_diWord -/
noncomputable def spec_diWord.cfg : Cfg := { C0 with keep := fun | 4 => some [0, 3] | _ => none, nb := 0, M := tabM [(25, spec_diDir.stub)], MM := tabB [] }
noncomputable def spec_diWord.l4 (n : Nat) (m4 : Nat) (s0 : ByteArray) (i1 : Int) : Option (List Q) :=
  loopAt spec_diWord.cfg [RK.one LK.bool] n Tryd.f13 [1, 1, 0, 1, 0] [] m4 (St.mk [V.one true (D.str s0), V.undef, V.undef, V.one true (D.int IntKind.i64 i1), V.undef, V.undef, V.undef, V.undef, V.undef, V.undef, V.undef, V.undef, V.undef, V.undef, V.undef, V.undef, V.undef, V.undef, V.undef, V.undef] [])
theorem spec_diWord.l4_eq (n : Nat) (m4 : Nat) (s0 : ByteArray) (i1 : Int) :
    spec_diWord.l4 n (m4 + 1) s0 i1 = bif decide (i1 < (↑(ByteArray.size s0) : Int)) then bif decide ((0 : Int) ≤ IntKind.wrap IntKind.i64 (i1 + (1 : Int))) then bif decide (IntKind.wrap IntKind.i64 (i1 + (1 : Int)) ≤ (↑(ByteArray.size s0) : Int)) then bif decide ((0 : Int) ≤ i1) then bif decide (i1 ≤ (↑(Int.toNat (IntKind.wrap IntKind.i64 (i1 + (1 : Int)))) : Int)) then bif decide (ByteArray.size (ByteArray.extract s0 (Int.toNat i1) (Int.toNat (IntKind.wrap IntKind.i64 (i1 + (1 : Int))))) = (1 : Nat)) then bif decide (dirIx (byteAt (ByteArray.extract s0 (Int.toNat i1) (Int.toNat (IntKind.wrap IntKind.i64 (i1 + (1 : Int))))) (0 : Nat)) < (0 : Int)) then some [Q.one (D.bool false)] else spec_diWord.l4 n m4 s0 (IntKind.wrap IntKind.i64 (i1 + (1 : Int))) else none else none else none else none else none else some [Q.one (D.bool true)] := by kernel_rfl
noncomputable def spec_diWord.res (n : Nat) (a0 : ByteArray) : Option (List Q) :=
  bif decide ((↑(ByteArray.size a0) : Int) > (60 : Int)) then some [Q.one (D.bool false)] else spec_diWord.l4 n n a0 (0 : Int)
theorem spec_diWord.run (n : Nat) (a0 : ByteArray) :
    run1 spec_diWord.cfg [RK.one LK.bool] n Tryd.f13 [Q.one (D.str a0)] = spec_diWord.res n a0 := by kernel_rfl
theorem spec_diWord.ev {n : Nat} {a0 : ByteArray} {r : List Q} (h : spec_diWord.res n a0 = some r) : Snd Tryd.prog C0 13 [.one (.str a0)] r :=
  snd_ev (C := spec_diWord.cfg) cfg0 mix rfl rfl rfl rfl rfl (.cons spec_diDir.ok .nil) .nil rfl Tryd.func13 (by kernel_rfl) (by kernel_rfl) rfl ((spec_diWord.run n a0).trans h)

theorem ext_one {s : ByteArray} {i : Nat} (h : i < (bl s).length) : (s.extract i (i + 1)).size = 1 ∧ byteAt (s.extract i (i + 1)) 0 = ((bl s)[i].toNat : Int) := by
  have e : bl (s.extract i (i + 1)) = [(bl s)[i]] := by
    rw [bl_ext, show i + 1 - i = 1 by omega, List.drop_eq_getElem_cons h]; rfl
  refine ⟨by rw [← bl_len, e]; rfl, ?_⟩
  rw [byteAt_bl (by rw [e]; simp)]
  simp only [e]
  rfl
theorem spec_diWord.l4_run {n : Nat} {s : ByteArray} (hs : s.size ≤ 60) : ∀ (d i m : Nat), i + d = s.size → d < m →
    spec_diWord.l4 n m s i = some [Q.one (.bool (((bl s).drop i).all dirU))] := by
  intro d
  induction d with
  | zero =>
    intro i m hi hm
    obtain ⟨m, rfl⟩ : ∃ m', m = m' + 1 := ⟨m - 1, by omega⟩
    have h1 : ¬ (i : Int) < ((s.size : Nat) : Int) := by omega
    rw [spec_diWord.l4_eq, List.drop_of_length_le (by rw [bl_len]; omega)]
    simp only [h1, decide_false, cond_false]
    rfl
  | succ d ih =>
    intro i m hi hm
    obtain ⟨m, rfl⟩ : ∃ m', m = m' + 1 := ⟨m - 1, by omega⟩
    have hlt : i < (bl s).length := by rw [bl_len]; omega
    have h1 : (i : Int) < ((s.size : Nat) : Int) := by omega
    have h2 : ((i + 1 : Nat) : Int) ≤ ((s.size : Nat) : Int) := by omega
    have h3 : (i : Int) ≤ ((i + 1 : Nat) : Int) := by omega
    obtain ⟨h4, h5⟩ := ext_one hlt
    rw [spec_diWord.l4_eq, List.drop_eq_getElem_cons hlt, List.all_cons]
    simp only [h1, h2, h3, wrap_succ (show i ≤ LIM by unfold LIM; omega), Int.natCast_nonneg, Int.toNat_natCast, decide_true, cond_true, h4, h5, dirIx_neg, ih (i + 1) m (by omega) (by omega)]
    rw [show dirU (bl s)[i] = dirB ((bl s)[i].toNat : Int) from rfl]
    cases dirB ((bl s)[i].toNat : Int) <;> rfl
def spec_diWord.stub : Stub
  | [.one (.str s)] => .ret [.one (.bool (Sp.isWord s))]
  | _ => .fail
theorem spec_diWord.ok : StubOk Tryd.prog C0 13 spec_diWord.stub := by
  intro args res h
  unfold spec_diWord.stub at h
  split at h
  · rename_i s
    cases h
    refine spec_diWord.ev (n := 100) ?_
    unfold spec_diWord.res Sp.isWord
    by_cases h6 : s.size ≤ 60
    · have h7 : ¬ ((s.size : Nat) : Int) > 60 := by omega
      simp only [h6, h7, decide_true, decide_false, cond_false, Bool.true_and]
      exact spec_diWord.l4_run (n := 100) h6 s.size 0 100 (by omega) (by omega)
    · have h7 : ((s.size : Nat) : Int) > 60 := by omega
      simp only [h6, h7, decide_true, decide_false, cond_true, Bool.false_and]
  · cases h
/-! spec_diRun -/
noncomputable def spec_diRun.cfg : Cfg := { C0 with keep := fun | 2 => some [1, 2, 4, 5] | _ => none, nb := 0, M := tabM [(25, spec_diDir.stub), (28, spec_diRoll.stub)], MM := tabB [] }
noncomputable def spec_diRun.l2 (n : Nat) (m2 : Nat) (s0 : ByteArray) (i1 : Int) (i2 : Int) (i3 : Int) (i4 : Int) (i5 : Int) (i6 : Int) (i7 : Int) (i8 : Int) (i9 : Int) (i10 : Int) (i11 : Int) (i12 : Int) (i13 : Int) : Option (List Q) :=
  loopAt spec_diRun.cfg [RK.agg [LK.int IntKind.i64, LK.int IntKind.i64, LK.int IntKind.i64, LK.int IntKind.i64, LK.int IntKind.i64, LK.int IntKind.i64]] n Tryd.f16 [1, 0, 1, 0] [] m2 (St.mk [V.undef, V.one true (D.str s0), V.rp (0 : Nat) (0 : Nat), V.undef, V.rp (1 : Nat) (0 : Nat), V.one true (D.int IntKind.i64 i1), V.undef, V.undef, V.undef, V.undef, V.undef, V.undef, V.undef, V.undef, V.undef, V.undef, V.undef, V.undef, V.undef, V.undef, V.undef] [Ob.box [V.one true (D.int IntKind.i64 i2), V.one true (D.int IntKind.i64 i3), V.one true (D.int IntKind.i64 i4), V.one true (D.int IntKind.i64 i5), V.one true (D.int IntKind.i64 i6), V.one true (D.int IntKind.i64 i7)], Ob.box [V.one true (D.int IntKind.i64 i8), V.one true (D.int IntKind.i64 i9), V.one true (D.int IntKind.i64 i10), V.one true (D.int IntKind.i64 i11), V.one true (D.int IntKind.i64 i12), V.one true (D.int IntKind.i64 i13)]])
theorem spec_diRun.l2_eq (n : Nat) (m2 : Nat) (s0 : ByteArray) (i1 : Int) (i2 : Int) (i3 : Int) (i4 : Int) (i5 : Int) (i6 : Int) (i7 : Int) (i8 : Int) (i9 : Int) (i10 : Int) (i11 : Int) (i12 : Int) (i13 : Int) :
    spec_diRun.l2 n (m2 + 1) s0 i1 i2 i3 i4 i5 i6 i7 i8 i9 i10 i11 i12 i13 = bif decide (i1 < (↑(ByteArray.size s0) : Int)) then bif decide ((0 : Int) ≤ IntKind.wrap IntKind.i64 (i1 + (1 : Int))) then bif decide (IntKind.wrap IntKind.i64 (i1 + (1 : Int)) ≤ (↑(ByteArray.size s0) : Int)) then bif decide ((0 : Int) ≤ i1) then bif decide (i1 ≤ (↑(Int.toNat (IntKind.wrap IntKind.i64 (i1 + (1 : Int)))) : Int)) then bif decide (ByteArray.size (ByteArray.extract s0 (Int.toNat i1) (Int.toNat (IntKind.wrap IntKind.i64 (i1 + (1 : Int))))) = (1 : Nat)) then spec_diRun.l2 n m2 s0 (IntKind.wrap IntKind.i64 (i1 + (1 : Int))) (Die.t (roll (Die.mk i2 i3 i4 i5 i6 i7) (dirIx (byteAt (ByteArray.extract s0 (Int.toNat i1) (Int.toNat (IntKind.wrap IntKind.i64 (i1 + (1 : Int))))) (0 : Nat))))) (Die.n (roll (Die.mk i2 i3 i4 i5 i6 i7) (dirIx (byteAt (ByteArray.extract s0 (Int.toNat i1) (Int.toNat (IntKind.wrap IntKind.i64 (i1 + (1 : Int))))) (0 : Nat))))) (Die.e (roll (Die.mk i2 i3 i4 i5 i6 i7) (dirIx (byteAt (ByteArray.extract s0 (Int.toNat i1) (Int.toNat (IntKind.wrap IntKind.i64 (i1 + (1 : Int))))) (0 : Nat))))) (Die.s (roll (Die.mk i2 i3 i4 i5 i6 i7) (dirIx (byteAt (ByteArray.extract s0 (Int.toNat i1) (Int.toNat (IntKind.wrap IntKind.i64 (i1 + (1 : Int))))) (0 : Nat))))) (Die.w (roll (Die.mk i2 i3 i4 i5 i6 i7) (dirIx (byteAt (ByteArray.extract s0 (Int.toNat i1) (Int.toNat (IntKind.wrap IntKind.i64 (i1 + (1 : Int))))) (0 : Nat))))) (Die.b (roll (Die.mk i2 i3 i4 i5 i6 i7) (dirIx (byteAt (ByteArray.extract s0 (Int.toNat i1) (Int.toNat (IntKind.wrap IntKind.i64 (i1 + (1 : Int))))) (0 : Nat))))) i8 i9 i10 i11 i12 i13 else none else none else none else none else none else some [Q.agg [D.int IntKind.i64 i2, D.int IntKind.i64 i3, D.int IntKind.i64 i4, D.int IntKind.i64 i5, D.int IntKind.i64 i6, D.int IntKind.i64 i7]] := by kernel_rfl
noncomputable def spec_diRun.res (n : Nat) (a0_0 : Int) (a0_1 : Int) (a0_2 : Int) (a0_3 : Int) (a0_4 : Int) (a0_5 : Int) (a1 : ByteArray) : Option (List Q) :=
  spec_diRun.l2 n n a1 (0 : Int) a0_0 a0_1 a0_2 a0_3 a0_4 a0_5 (0 : Int) (0 : Int) (0 : Int) (0 : Int) (0 : Int) (0 : Int)
theorem spec_diRun.run (n : Nat) (a0_0 : Int) (a0_1 : Int) (a0_2 : Int) (a0_3 : Int) (a0_4 : Int) (a0_5 : Int) (a1 : ByteArray) :
    run1 spec_diRun.cfg [RK.agg [LK.int IntKind.i64, LK.int IntKind.i64, LK.int IntKind.i64, LK.int IntKind.i64, LK.int IntKind.i64, LK.int IntKind.i64]] n Tryd.f16 [Q.agg [D.int IntKind.i64 a0_0, D.int IntKind.i64 a0_1, D.int IntKind.i64 a0_2, D.int IntKind.i64 a0_3, D.int IntKind.i64 a0_4, D.int IntKind.i64 a0_5], Q.one (D.str a1)] = spec_diRun.res n a0_0 a0_1 a0_2 a0_3 a0_4 a0_5 a1 := by kernel_rfl
theorem spec_diRun.ev {n : Nat} {a0_0 : Int} {a0_1 : Int} {a0_2 : Int} {a0_3 : Int} {a0_4 : Int} {a0_5 : Int} {a1 : ByteArray} {r : List Q} (h : spec_diRun.res n a0_0 a0_1 a0_2 a0_3 a0_4 a0_5 a1 = some r) : Snd Tryd.prog C0 16 [.agg [.int .i64 a0_0, .int .i64 a0_1, .int .i64 a0_2, .int .i64 a0_3, .int .i64 a0_4, .int .i64 a0_5], .one (.str a1)] r :=
  snd_ev (C := spec_diRun.cfg) cfg0 mix rfl rfl rfl rfl rfl (.cons spec_diDir.ok (.cons spec_diRoll.ok .nil)) .nil rfl Tryd.func16 (by kernel_rfl) (by kernel_rfl) rfl ((spec_diRun.run n a0_0 a0_1 a0_2 a0_3 a0_4 a0_5 a1).trans h)

theorem spec_diRun.l2_run {n : Nat} {s : ByteArray} (hs : s.size ≤ LIM) : ∀ (d i m : Nat) (p : Die) (z0 z1 z2 z3 z4 z5 : Int), i + d = s.size → d < m →
    spec_diRun.l2 n m s i p.t p.n p.e p.s p.w p.b z0 z1 z2 z3 z4 z5 = some [Q.agg (dieC.enc (((bl s).drop i).foldl (fun d c => rollB d (c.toNat : Int)) p))] := by
  intro d
  induction d with
  | zero =>
    intro i m p z0 z1 z2 z3 z4 z5 hi hm
    obtain ⟨m, rfl⟩ : ∃ m', m = m' + 1 := ⟨m - 1, by omega⟩
    have h1 : ¬ (i : Int) < ((s.size : Nat) : Int) := by omega
    rw [spec_diRun.l2_eq, List.drop_of_length_le (by rw [bl_len]; omega)]
    simp only [h1, decide_false, cond_false]
    rfl
  | succ d ih =>
    intro i m p z0 z1 z2 z3 z4 z5 hi hm
    obtain ⟨m, rfl⟩ : ∃ m', m = m' + 1 := ⟨m - 1, by omega⟩
    have hlt : i < (bl s).length := by rw [bl_len]; omega
    have h1 : (i : Int) < ((s.size : Nat) : Int) := by omega
    have h2 : ((i + 1 : Nat) : Int) ≤ ((s.size : Nat) : Int) := by omega
    have h3 : (i : Int) ≤ ((i + 1 : Nat) : Int) := by omega
    obtain ⟨h4, h5⟩ := ext_one hlt
    rw [spec_diRun.l2_eq, List.drop_eq_getElem_cons hlt, List.foldl_cons]
    simp only [h1, h2, h3, wrap_succ (show i ≤ LIM by omega), Int.natCast_nonneg, Int.toNat_natCast, decide_true, cond_true, h4, h5, Die.eta, roll_ix]
    exact ih (i + 1) m _ _ _ _ _ _ _ (by omega) (by omega)
def spec_diRun.stub : Stub
  | [.agg [.int .i64 t, .int .i64 n, .int .i64 e, .int .i64 s, .int .i64 w, .int .i64 b], .one (.str x)] => .gd (decide (x.size ≤ LIM)) (.ret [.agg (dieC.enc (Sp.rolledB ⟨t, n, e, s, w, b⟩ x))])
  | _ => .fail
theorem spec_diRun.ok : StubOk Tryd.prog C0 16 spec_diRun.stub := by
  intro args res h
  unfold spec_diRun.stub at h
  split at h
  · rename_i t n e s w b x
    obtain ⟨h1, h2⟩ := gd_out h
    have h1 := of_decide_eq_true h1
    cases h2
    refine spec_diRun.ev (n := x.size + 1) ?_
    exact spec_diRun.l2_run (n := x.size + 1) h1 x.size 0 (x.size + 1) ⟨t, n, e, s, w, b⟩ 0 0 0 0 0 0 (by omega) (by omega)
  · cases h
end Go.Proofs.EV.PL
set_option linter.unusedVariables false
set_option linter.unusedSimpArgs false
/-! Colourings that a word keeps; cycles of a word. -/
namespace Go.Proofs.EV.PL
open Go Go.Proofs Go.Proofs.EV Sp
/-! spec_CountKept -/
noncomputable def spec_CountKept.cfg : Cfg := { C0 with keep := fun _ => none, nb := 0, M := tabM [(12, spec_clColors.stub), (13, spec_diWord.stub), (14, spec_clPower.stub), (15, spec_clCycles.stub), (16, spec_diRun.stub), (17, spec_diUnit.stub)], MM := tabB [] }
noncomputable def spec_CountKept.res (n : Nat) (a0 : Int) (a1 : ByteArray) : Option (List Q) :=
  bif !inR a0 (1 : Int) (9 : Int) then some [Q.one (D.int IntKind.i64 (0 : Int)), Q.one (D.bool false)] else bif !isWord a1 then some [Q.one (D.int IntKind.i64 (0 : Int)), Q.one (D.bool false)] else bif decide (ByteArray.size a1 ≤ (17179869184 : Nat)) then bif six (Die.mk (Die.t (rolledB (Die.mk (Die.t unitD) (Die.n unitD) (Die.e unitD) (Die.s unitD) (Die.w unitD) (Die.b unitD)) a1)) (Die.n (rolledB (Die.mk (Die.t unitD) (Die.n unitD) (Die.e unitD) (Die.s unitD) (Die.w unitD) (Die.b unitD)) a1)) (Die.e (rolledB (Die.mk (Die.t unitD) (Die.n unitD) (Die.e unitD) (Die.s unitD) (Die.w unitD) (Die.b unitD)) a1)) (Die.s (rolledB (Die.mk (Die.t unitD) (Die.n unitD) (Die.e unitD) (Die.s unitD) (Die.w unitD) (Die.b unitD)) a1)) (Die.w (rolledB (Die.mk (Die.t unitD) (Die.n unitD) (Die.e unitD) (Die.s unitD) (Die.w unitD) (Die.b unitD)) a1)) (Die.b (rolledB (Die.mk (Die.t unitD) (Die.n unitD) (Die.e unitD) (Die.s unitD) (Die.w unitD) (Die.b unitD)) a1))) then bif okPow a0 (↑(List.length (Cod.encs intC (cyc (Die.mk (Die.t (rolledB (Die.mk (Die.t unitD) (Die.n unitD) (Die.e unitD) (Die.s unitD) (Die.w unitD) (Die.b unitD)) a1)) (Die.n (rolledB (Die.mk (Die.t unitD) (Die.n unitD) (Die.e unitD) (Die.s unitD) (Die.w unitD) (Die.b unitD)) a1)) (Die.e (rolledB (Die.mk (Die.t unitD) (Die.n unitD) (Die.e unitD) (Die.s unitD) (Die.w unitD) (Die.b unitD)) a1)) (Die.s (rolledB (Die.mk (Die.t unitD) (Die.n unitD) (Die.e unitD) (Die.s unitD) (Die.w unitD) (Die.b unitD)) a1)) (Die.w (rolledB (Die.mk (Die.t unitD) (Die.n unitD) (Die.e unitD) (Die.s unitD) (Die.w unitD) (Die.b unitD)) a1)) (Die.b (rolledB (Die.mk (Die.t unitD) (Die.n unitD) (Die.e unitD) (Die.s unitD) (Die.w unitD) (Die.b unitD)) a1)))))) : Int) then some [Q.one (D.int IntKind.i64 (pow a0 (↑(List.length (Cod.encs intC (cyc (Die.mk (Die.t (rolledB (Die.mk (Die.t unitD) (Die.n unitD) (Die.e unitD) (Die.s unitD) (Die.w unitD) (Die.b unitD)) a1)) (Die.n (rolledB (Die.mk (Die.t unitD) (Die.n unitD) (Die.e unitD) (Die.s unitD) (Die.w unitD) (Die.b unitD)) a1)) (Die.e (rolledB (Die.mk (Die.t unitD) (Die.n unitD) (Die.e unitD) (Die.s unitD) (Die.w unitD) (Die.b unitD)) a1)) (Die.s (rolledB (Die.mk (Die.t unitD) (Die.n unitD) (Die.e unitD) (Die.s unitD) (Die.w unitD) (Die.b unitD)) a1)) (Die.w (rolledB (Die.mk (Die.t unitD) (Die.n unitD) (Die.e unitD) (Die.s unitD) (Die.w unitD) (Die.b unitD)) a1)) (Die.b (rolledB (Die.mk (Die.t unitD) (Die.n unitD) (Die.e unitD) (Die.s unitD) (Die.w unitD) (Die.b unitD)) a1)))))) : Int))), Q.one (D.bool true)] else none else none else none
theorem spec_CountKept.run (n : Nat) (a0 : Int) (a1 : ByteArray) :
    run1 spec_CountKept.cfg [RK.one (LK.int IntKind.i64), RK.one LK.bool] n Tryd.f5 [Q.one (D.int IntKind.i64 a0), Q.one (D.str a1)] = spec_CountKept.res n a0 a1 := by kernel_rfl
theorem spec_CountKept.ev {n : Nat} {a0 : Int} {a1 : ByteArray} {r : List Q} (h : spec_CountKept.res n a0 a1 = some r) : Snd Tryd.prog C0 5 [.one (.int .i64 a0), .one (.str a1)] r :=
  snd_ev (C := spec_CountKept.cfg) cfg0 mix rfl rfl rfl rfl rfl (.cons spec_clColors.ok (.cons spec_diWord.ok (.cons spec_clPower.ok (.cons spec_clCycles.ok (.cons spec_diRun.ok (.cons spec_diUnit.ok .nil)))))) .nil rfl Tryd.func5 (by kernel_rfl) (by kernel_rfl) rfl ((spec_CountKept.run n a0 a1).trans h)

def spec_CountKept.stub : Stub
  | [.one (.int .i64 k), .one (.str x)] => .ret [.one (.int .i64 (Sp.keptN k x)), .one (.bool (Sp.inR k 1 9 && Sp.isWord x))]
  | _ => .fail
theorem spec_CountKept.ok : StubOk Tryd.prog C0 5 spec_CountKept.stub := by
  intro args res h
  unfold spec_CountKept.stub at h
  split at h
  · rename_i k x
    cases h
    refine spec_CountKept.ev (n := 0) ?_
    unfold spec_CountKept.res keptN
    cases hk : inR k 1 9 with
    | false => rfl
    | true =>
      cases hw : isWord x with
      | false => rfl
      | true =>
        have hs := isWord_size hw
        have h6 := six_word x
        have hp := okPow_cyc hk (wordDie x)
        unfold wordDie at h6 hp ⊢
        simp only [Bool.not_true, cond_false, cond_true, hs, decide_true, Die.eta, h6, Cod.encs_len, hp, Bool.and_self]
  · cases h
/-! impl_CountKept -/
noncomputable def impl_CountKept.cfg : Cfg := { C0 with keep := fun _ => none, nb := 0, M := tabM [(18, impl_isCount.stub), (19, impl_IsRolls.stub), (20, impl_power.stub), (21, impl_cycles.stub), (22, impl_plain.stub), (23, impl_Die_rolled.stub)], MM := tabB [] }
noncomputable def impl_CountKept.res (n : Nat) (a0 : Int) (a1 : ByteArray) : Option (List Q) :=
  bif !inR a0 (1 : Int) (9 : Int) then some [Q.one (D.int IntKind.i64 (0 : Int)), Q.one (D.bool false)] else bif !isWord a1 then some [Q.one (D.int IntKind.i64 (0 : Int)), Q.one (D.bool false)] else bif decide (ByteArray.size a1 ≤ (17179869184 : Nat)) then bif six (Die.mk (Die.t (rolledB (Die.mk (Die.t unitD) (Die.n unitD) (Die.e unitD) (Die.s unitD) (Die.w unitD) (Die.b unitD)) a1)) (Die.n (rolledB (Die.mk (Die.t unitD) (Die.n unitD) (Die.e unitD) (Die.s unitD) (Die.w unitD) (Die.b unitD)) a1)) (Die.e (rolledB (Die.mk (Die.t unitD) (Die.n unitD) (Die.e unitD) (Die.s unitD) (Die.w unitD) (Die.b unitD)) a1)) (Die.s (rolledB (Die.mk (Die.t unitD) (Die.n unitD) (Die.e unitD) (Die.s unitD) (Die.w unitD) (Die.b unitD)) a1)) (Die.w (rolledB (Die.mk (Die.t unitD) (Die.n unitD) (Die.e unitD) (Die.s unitD) (Die.w unitD) (Die.b unitD)) a1)) (Die.b (rolledB (Die.mk (Die.t unitD) (Die.n unitD) (Die.e unitD) (Die.s unitD) (Die.w unitD) (Die.b unitD)) a1))) then bif okPow a0 (↑(List.length (Cod.encs intC (cyc (Die.mk (Die.t (rolledB (Die.mk (Die.t unitD) (Die.n unitD) (Die.e unitD) (Die.s unitD) (Die.w unitD) (Die.b unitD)) a1)) (Die.n (rolledB (Die.mk (Die.t unitD) (Die.n unitD) (Die.e unitD) (Die.s unitD) (Die.w unitD) (Die.b unitD)) a1)) (Die.e (rolledB (Die.mk (Die.t unitD) (Die.n unitD) (Die.e unitD) (Die.s unitD) (Die.w unitD) (Die.b unitD)) a1)) (Die.s (rolledB (Die.mk (Die.t unitD) (Die.n unitD) (Die.e unitD) (Die.s unitD) (Die.w unitD) (Die.b unitD)) a1)) (Die.w (rolledB (Die.mk (Die.t unitD) (Die.n unitD) (Die.e unitD) (Die.s unitD) (Die.w unitD) (Die.b unitD)) a1)) (Die.b (rolledB (Die.mk (Die.t unitD) (Die.n unitD) (Die.e unitD) (Die.s unitD) (Die.w unitD) (Die.b unitD)) a1)))))) : Int) then some [Q.one (D.int IntKind.i64 (pow a0 (↑(List.length (Cod.encs intC (cyc (Die.mk (Die.t (rolledB (Die.mk (Die.t unitD) (Die.n unitD) (Die.e unitD) (Die.s unitD) (Die.w unitD) (Die.b unitD)) a1)) (Die.n (rolledB (Die.mk (Die.t unitD) (Die.n unitD) (Die.e unitD) (Die.s unitD) (Die.w unitD) (Die.b unitD)) a1)) (Die.e (rolledB (Die.mk (Die.t unitD) (Die.n unitD) (Die.e unitD) (Die.s unitD) (Die.w unitD) (Die.b unitD)) a1)) (Die.s (rolledB (Die.mk (Die.t unitD) (Die.n unitD) (Die.e unitD) (Die.s unitD) (Die.w unitD) (Die.b unitD)) a1)) (Die.w (rolledB (Die.mk (Die.t unitD) (Die.n unitD) (Die.e unitD) (Die.s unitD) (Die.w unitD) (Die.b unitD)) a1)) (Die.b (rolledB (Die.mk (Die.t unitD) (Die.n unitD) (Die.e unitD) (Die.s unitD) (Die.w unitD) (Die.b unitD)) a1)))))) : Int))), Q.one (D.bool true)] else none else none else none
theorem impl_CountKept.run (n : Nat) (a0 : Int) (a1 : ByteArray) :
    run1 impl_CountKept.cfg [RK.one (LK.int IntKind.i64), RK.one LK.bool] n Tryd.f6 [Q.one (D.int IntKind.i64 a0), Q.one (D.str a1)] = impl_CountKept.res n a0 a1 := by kernel_rfl
theorem impl_CountKept.ev {n : Nat} {a0 : Int} {a1 : ByteArray} {r : List Q} (h : impl_CountKept.res n a0 a1 = some r) : Snd Tryd.prog C0 6 [.one (.int .i64 a0), .one (.str a1)] r :=
  snd_ev (C := impl_CountKept.cfg) cfg0 mix rfl rfl rfl rfl rfl (.cons impl_isCount.ok (.cons impl_IsRolls.ok (.cons impl_power.ok (.cons impl_cycles.ok (.cons impl_plain.ok (.cons impl_Die_rolled.ok .nil)))))) .nil rfl Tryd.func6 (by kernel_rfl) (by kernel_rfl) rfl ((impl_CountKept.run n a0 a1).trans h)

def impl_CountKept.stub : Stub
  | [.one (.int .i64 k), .one (.str x)] => .ret [.one (.int .i64 (Sp.keptN k x)), .one (.bool (Sp.inR k 1 9 && Sp.isWord x))]
  | _ => .fail
theorem impl_CountKept.ok : StubOk Tryd.prog C0 6 impl_CountKept.stub := by
  intro args res h
  unfold impl_CountKept.stub at h
  split at h
  · rename_i k x
    cases h
    refine impl_CountKept.ev (n := 0) ?_
    unfold impl_CountKept.res keptN
    cases hk : inR k 1 9 with
    | false => rfl
    | true =>
      cases hw : isWord x with
      | false => rfl
      | true =>
        have hs := isWord_size hw
        have h6 := six_word x
        have hp := okPow_cyc hk (wordDie x)
        unfold wordDie at h6 hp ⊢
        simp only [Bool.not_true, cond_false, cond_true, hs, decide_true, Die.eta, h6, Cod.encs_len, hp, Bool.and_self]
  · cases h
/-! laws_FnExactCountKept -/
noncomputable def laws_FnExactCountKept.cfg : Cfg := { C0 with keep := fun _ => none, nb := 0, M := tabM [(5, spec_CountKept.stub), (6, impl_CountKept.stub)], MM := tabB [] }
noncomputable def laws_FnExactCountKept.res (n : Nat) (a0 : Int) (a1 : ByteArray) : Option (List Q) :=
  bif decide ((↑(ByteArray.size a1) : Int) > (1048576 : Int)) then some [Q.one (D.bool true)] else bif keptN a0 a1 != keptN a0 a1 then some [Q.one (D.bool false)] else bif !(inR a0 (1 : Int) (9 : Int) && isWord a1) == (inR a0 (1 : Int) (9 : Int) && isWord a1) then some [Q.one (D.bool false)] else some [Q.one (D.bool true)]
theorem laws_FnExactCountKept.run (n : Nat) (a0 : Int) (a1 : ByteArray) :
    run1 laws_FnExactCountKept.cfg [RK.one LK.bool] n Tryd.f3 [Q.one (D.int IntKind.i64 a0), Q.one (D.str a1)] = laws_FnExactCountKept.res n a0 a1 := by kernel_rfl
theorem laws_FnExactCountKept.ev {n : Nat} {a0 : Int} {a1 : ByteArray} {r : List Q} (h : laws_FnExactCountKept.res n a0 a1 = some r) : Snd Tryd.prog C0 3 [.one (.int .i64 a0), .one (.str a1)] r :=
  snd_ev (C := laws_FnExactCountKept.cfg) cfg0 mix rfl rfl rfl rfl rfl (.cons spec_CountKept.ok (.cons impl_CountKept.ok .nil)) .nil rfl Tryd.func3 (by kernel_rfl) (by kernel_rfl) rfl ((laws_FnExactCountKept.run n a0 a1).trans h)

theorem laws_FnExactCountKept.law (k : Int) (x : ByteArray) : Snd Tryd.prog C0 3 [.one (.int .i64 k), .one (.str x)] [.one (.bool true)] := by
  refine laws_FnExactCountKept.ev (n := 0) ?_
  unfold laws_FnExactCountKept.res
  rw [bne_self_eq_false]
  cases decide (((x.size : Nat) : Int) > 1048576)
  · cases (inR k 1 9 && isWord x) <;> rfl
  · rfl
/-! spec_FaceCycles -/
noncomputable def spec_FaceCycles.cfg : Cfg := { C0 with keep := fun _ => none, nb := 0, M := tabM [(13, spec_diWord.stub), (15, spec_clCycles.stub), (16, spec_diRun.stub), (17, spec_diUnit.stub)], MM := tabB [] }
noncomputable def spec_FaceCycles.res (n : Nat) (a0 : ByteArray) : Option (List Q) :=
  bif !isWord a0 then some [Q.one (D.sl (1 : Nat) []), Q.one (D.bool false)] else bif decide (ByteArray.size a0 ≤ (17179869184 : Nat)) then bif six (Die.mk (Die.t (rolledB (Die.mk (Die.t unitD) (Die.n unitD) (Die.e unitD) (Die.s unitD) (Die.w unitD) (Die.b unitD)) a0)) (Die.n (rolledB (Die.mk (Die.t unitD) (Die.n unitD) (Die.e unitD) (Die.s unitD) (Die.w unitD) (Die.b unitD)) a0)) (Die.e (rolledB (Die.mk (Die.t unitD) (Die.n unitD) (Die.e unitD) (Die.s unitD) (Die.w unitD) (Die.b unitD)) a0)) (Die.s (rolledB (Die.mk (Die.t unitD) (Die.n unitD) (Die.e unitD) (Die.s unitD) (Die.w unitD) (Die.b unitD)) a0)) (Die.w (rolledB (Die.mk (Die.t unitD) (Die.n unitD) (Die.e unitD) (Die.s unitD) (Die.w unitD) (Die.b unitD)) a0)) (Die.b (rolledB (Die.mk (Die.t unitD) (Die.n unitD) (Die.e unitD) (Die.s unitD) (Die.w unitD) (Die.b unitD)) a0))) then some [Q.one (D.sl (1 : Nat) (Cod.encs intC (cyc (Die.mk (Die.t (rolledB (Die.mk (Die.t unitD) (Die.n unitD) (Die.e unitD) (Die.s unitD) (Die.w unitD) (Die.b unitD)) a0)) (Die.n (rolledB (Die.mk (Die.t unitD) (Die.n unitD) (Die.e unitD) (Die.s unitD) (Die.w unitD) (Die.b unitD)) a0)) (Die.e (rolledB (Die.mk (Die.t unitD) (Die.n unitD) (Die.e unitD) (Die.s unitD) (Die.w unitD) (Die.b unitD)) a0)) (Die.s (rolledB (Die.mk (Die.t unitD) (Die.n unitD) (Die.e unitD) (Die.s unitD) (Die.w unitD) (Die.b unitD)) a0)) (Die.w (rolledB (Die.mk (Die.t unitD) (Die.n unitD) (Die.e unitD) (Die.s unitD) (Die.w unitD) (Die.b unitD)) a0)) (Die.b (rolledB (Die.mk (Die.t unitD) (Die.n unitD) (Die.e unitD) (Die.s unitD) (Die.w unitD) (Die.b unitD)) a0)))))), Q.one (D.bool true)] else none else none
theorem spec_FaceCycles.run (n : Nat) (a0 : ByteArray) :
    run1 spec_FaceCycles.cfg [RK.own (1 : Nat), RK.one LK.bool] n Tryd.f7 [Q.one (D.str a0)] = spec_FaceCycles.res n a0 := by kernel_rfl
theorem spec_FaceCycles.ev {n : Nat} {a0 : ByteArray} {r : List Q} (h : spec_FaceCycles.res n a0 = some r) : Snd Tryd.prog C0 7 [.one (.str a0)] r :=
  snd_ev (C := spec_FaceCycles.cfg) cfg0 mix rfl rfl rfl rfl rfl (.cons spec_diWord.ok (.cons spec_clCycles.ok (.cons spec_diRun.ok (.cons spec_diUnit.ok .nil)))) .nil rfl Tryd.func7 (by kernel_rfl) (by kernel_rfl) rfl ((spec_FaceCycles.run n a0).trans h)

def spec_FaceCycles.stub : Stub
  | [.one (.str x)] => .ret [.one (.sl 1 (intC.encs (Sp.faceC x))), .one (.bool (Sp.isWord x))]
  | _ => .fail
theorem spec_FaceCycles.ok : StubOk Tryd.prog C0 7 spec_FaceCycles.stub := by
  intro args res h
  unfold spec_FaceCycles.stub at h
  split at h
  · rename_i x
    cases h
    refine spec_FaceCycles.ev (n := 0) ?_
    unfold spec_FaceCycles.res faceC
    cases hw : isWord x with
    | false => rfl
    | true =>
      have hs := isWord_size hw
      have h6 := six_word x
      unfold wordDie at h6 ⊢
      simp only [Bool.not_true, cond_false, cond_true, hs, decide_true, Die.eta, h6]
  · cases h
/-! impl_FaceCycles -/
noncomputable def impl_FaceCycles.cfg : Cfg := { C0 with keep := fun _ => none, nb := 0, M := tabM [(19, impl_IsRolls.stub), (21, impl_cycles.stub), (22, impl_plain.stub), (23, impl_Die_rolled.stub)], MM := tabB [] }
noncomputable def impl_FaceCycles.res (n : Nat) (a0 : ByteArray) : Option (List Q) :=
  bif !isWord a0 then some [Q.one (D.sl (1 : Nat) []), Q.one (D.bool false)] else bif decide (ByteArray.size a0 ≤ (17179869184 : Nat)) then bif six (Die.mk (Die.t (rolledB (Die.mk (Die.t unitD) (Die.n unitD) (Die.e unitD) (Die.s unitD) (Die.w unitD) (Die.b unitD)) a0)) (Die.n (rolledB (Die.mk (Die.t unitD) (Die.n unitD) (Die.e unitD) (Die.s unitD) (Die.w unitD) (Die.b unitD)) a0)) (Die.e (rolledB (Die.mk (Die.t unitD) (Die.n unitD) (Die.e unitD) (Die.s unitD) (Die.w unitD) (Die.b unitD)) a0)) (Die.s (rolledB (Die.mk (Die.t unitD) (Die.n unitD) (Die.e unitD) (Die.s unitD) (Die.w unitD) (Die.b unitD)) a0)) (Die.w (rolledB (Die.mk (Die.t unitD) (Die.n unitD) (Die.e unitD) (Die.s unitD) (Die.w unitD) (Die.b unitD)) a0)) (Die.b (rolledB (Die.mk (Die.t unitD) (Die.n unitD) (Die.e unitD) (Die.s unitD) (Die.w unitD) (Die.b unitD)) a0))) then some [Q.one (D.sl (1 : Nat) (Cod.encs intC (cyc (Die.mk (Die.t (rolledB (Die.mk (Die.t unitD) (Die.n unitD) (Die.e unitD) (Die.s unitD) (Die.w unitD) (Die.b unitD)) a0)) (Die.n (rolledB (Die.mk (Die.t unitD) (Die.n unitD) (Die.e unitD) (Die.s unitD) (Die.w unitD) (Die.b unitD)) a0)) (Die.e (rolledB (Die.mk (Die.t unitD) (Die.n unitD) (Die.e unitD) (Die.s unitD) (Die.w unitD) (Die.b unitD)) a0)) (Die.s (rolledB (Die.mk (Die.t unitD) (Die.n unitD) (Die.e unitD) (Die.s unitD) (Die.w unitD) (Die.b unitD)) a0)) (Die.w (rolledB (Die.mk (Die.t unitD) (Die.n unitD) (Die.e unitD) (Die.s unitD) (Die.w unitD) (Die.b unitD)) a0)) (Die.b (rolledB (Die.mk (Die.t unitD) (Die.n unitD) (Die.e unitD) (Die.s unitD) (Die.w unitD) (Die.b unitD)) a0)))))), Q.one (D.bool true)] else none else none
theorem impl_FaceCycles.run (n : Nat) (a0 : ByteArray) :
    run1 impl_FaceCycles.cfg [RK.own (1 : Nat), RK.one LK.bool] n Tryd.f8 [Q.one (D.str a0)] = impl_FaceCycles.res n a0 := by kernel_rfl
theorem impl_FaceCycles.ev {n : Nat} {a0 : ByteArray} {r : List Q} (h : impl_FaceCycles.res n a0 = some r) : Snd Tryd.prog C0 8 [.one (.str a0)] r :=
  snd_ev (C := impl_FaceCycles.cfg) cfg0 mix rfl rfl rfl rfl rfl (.cons impl_IsRolls.ok (.cons impl_cycles.ok (.cons impl_plain.ok (.cons impl_Die_rolled.ok .nil)))) .nil rfl Tryd.func8 (by kernel_rfl) (by kernel_rfl) rfl ((impl_FaceCycles.run n a0).trans h)

def impl_FaceCycles.stub : Stub
  | [.one (.str x)] => .ret [.one (.sl 1 (intC.encs (Sp.faceC x))), .one (.bool (Sp.isWord x))]
  | _ => .fail
theorem impl_FaceCycles.ok : StubOk Tryd.prog C0 8 impl_FaceCycles.stub := by
  intro args res h
  unfold impl_FaceCycles.stub at h
  split at h
  · rename_i x
    cases h
    refine impl_FaceCycles.ev (n := 0) ?_
    unfold impl_FaceCycles.res faceC
    cases hw : isWord x with
    | false => rfl
    | true =>
      have hs := isWord_size hw
      have h6 := six_word x
      unfold wordDie at h6 ⊢
      simp only [Bool.not_true, cond_false, cond_true, hs, decide_true, Die.eta, h6]
  · cases h
/-! laws_eqIntS -/
noncomputable def laws_eqIntS.cfg : Cfg := { C0 with keep := fun | 4 => some [0, 1, 5] | _ => none, nb := 0, M := tabM [], MM := tabB [] }
noncomputable def laws_eqIntS.l4 (n : Nat) (m4 : Nat) (l0 : List (List D)) (l1 : List (List D)) (i2 : Int) : Option (List Q) :=
  loopAt laws_eqIntS.cfg [RK.one LK.bool] n Tryd.f9 [1, 1, 0, 1, 0] [] m4 (St.mk [V.one false (D.sl (1 : Nat) l0), V.one false (D.sl (1 : Nat) l1), V.undef, V.undef, V.undef, V.one true (D.int IntKind.i64 i2), V.undef, V.undef, V.undef, V.undef, V.undef, V.undef, V.undef, V.undef, V.undef, V.undef, V.undef, V.undef, V.undef, V.undef, V.undef, V.undef, V.undef, V.undef, V.undef, V.undef] [])
theorem laws_eqIntS.l4_eq (n : Nat) (m4 : Nat) (l0 : List (List D)) (l1 : List (List D)) (i2 : Int) :
    laws_eqIntS.l4 n (m4 + 1) l0 l1 i2 = bif decide (i2 < (↑(List.length l0) : Int)) then bif decide ((0 : Int) ≤ i2) then bif decide (i2 < (↑(List.length l0) : Int)) then Option.bind (Option.bind (some (cellD l0 (Int.toNat i2) (0 : Nat))) (D.int? IntKind.i64)) fun (i1 : Int) => bif decide ((0 : Int) ≤ i2) then bif decide (i2 < (↑(List.length l1) : Int)) then Option.bind (Option.bind (some (cellD l1 (Int.toNat i2) (0 : Nat))) (D.int? IntKind.i64)) fun (i2_1 : Int) => bif i1 != i2_1 then some [Q.one (D.bool false)] else laws_eqIntS.l4 n m4 l0 l1 (IntKind.wrap IntKind.i64 (i2 + (1 : Int))) else none else none else none else none else some [Q.one (D.bool true)] := by kernel_rfl
noncomputable def laws_eqIntS.res (n : Nat) (a0 : List (List D)) (a1 : List (List D)) : Option (List Q) :=
  bif (↑(List.length a0) : Int) != (↑(List.length a1) : Int) then some [Q.one (D.bool false)] else laws_eqIntS.l4 n n a0 a1 (0 : Int)
theorem laws_eqIntS.run (n : Nat) (a0 : List (List D)) (a1 : List (List D)) :
    run1 laws_eqIntS.cfg [RK.one LK.bool] n Tryd.f9 [Q.one (D.sl (1 : Nat) a0), Q.one (D.sl (1 : Nat) a1)] = laws_eqIntS.res n a0 a1 := by kernel_rfl
theorem laws_eqIntS.ev {n : Nat} {a0 : List (List D)} {a1 : List (List D)} {r : List Q} (h : laws_eqIntS.res n a0 a1 = some r) : Snd Tryd.prog C0 9 [.one (.sl 1 a0), .one (.sl 1 a1)] r :=
  snd_ev (C := laws_eqIntS.cfg) cfg0 mix rfl rfl rfl rfl rfl .nil .nil rfl Tryd.func9 (by kernel_rfl) (by kernel_rfl) rfl ((laws_eqIntS.run n a0 a1).trans h)

theorem laws_eqIntS.l4_run {n : Nat} {a b : List Int} (hl : a.length ≤ LIM) (he : a.length = b.length) : ∀ (d i m : Nat), i + d = a.length → d < m →
    laws_eqIntS.l4 n m (intC.encs a) (intC.encs b) i = some [Q.one (.bool (decide (a.drop i = b.drop i)))] := by
  intro d
  induction d with
  | zero =>
    intro i m hi hm
    obtain ⟨m, rfl⟩ : ∃ m', m = m' + 1 := ⟨m - 1, by omega⟩
    have h1 : ¬ (i : Int) < a.length := by omega
    rw [laws_eqIntS.l4_eq, List.drop_of_length_le (by omega), List.drop_of_length_le (l := b) (by omega)]
    simp only [Cod.encs_len, h1, decide_false, cond_false]
    rfl
  | succ d ih =>
    intro i m hi hm
    obtain ⟨m, rfl⟩ : ∃ m', m = m' + 1 := ⟨m - 1, by omega⟩
    have hlt : i < a.length := by omega
    have hlt' : i < b.length := by omega
    rw [laws_eqIntS.l4_eq, List.drop_eq_getElem_cons hlt, List.drop_eq_getElem_cons hlt']
    simp only [Cod.encs_len, Int.ofNat_lt, hlt, hlt', decide_true, cond_true, Int.natCast_nonneg, Int.toNat_natCast, intC_int' hlt, intC_int' hlt', Option.bind_some, wrap_succ (show i ≤ LIM by omega), ih (i + 1) m (by omega) (by omega), ine, List.cons.injEq, Bool.decide_and]
    cases decide (a[i] = b[i]) <;> rfl
def laws_eqIntS.stub : Stub
  | [.one (.sl 1 es), .one (.sl 1 es')] => .any (intC.decs es) fun l => .any (intC.decs es') fun l' => .ret [.one (.bool (decide (l = l')))]
  | _ => .fail
theorem laws_eqIntS.ok : StubOk Tryd.prog C0 9 laws_eqIntS.stub := by
  intro args res h
  unfold laws_eqIntS.stub at h
  split at h
  · obtain ⟨a, h1, h0⟩ := any_out h
    obtain ⟨rfl, hl⟩ := Cod.decs_inv h1
    obtain ⟨b, h1', h2⟩ := any_out h0
    obtain ⟨rfl, hl'⟩ := Cod.decs_inv h1'
    cases h2
    refine laws_eqIntS.ev (n := a.length + 1) ?_
    unfold laws_eqIntS.res
    simp only [Cod.encs_len]
    by_cases he : a.length = b.length
    · rw [he, bne_self_eq_false, cond_false, ← he]
      have := laws_eqIntS.l4_run (n := a.length + 1) hl he a.length 0 (a.length + 1) (by omega) (by omega)
      exact this
    · have h3 : (((a.length : Nat) : Int) != ((b.length : Nat) : Int)) = true := by rw [ine]; simp; omega
      have h4 : ¬ a = b := fun e => he (by rw [e])
      rw [h3, decide_eq_false h4]
      rfl
  · cases h
/-! laws_markIntS -/
noncomputable def laws_markIntS.cfg : Cfg := { C0 with keep := fun | 2 => some [0, 1, 5] | _ => none, nb := 1, M := tabM [], MM := tabB [] }
noncomputable def laws_markIntS.l2 (n : Nat) (m2 : Nat) (i0 : Int) (i1 : Int) (l2 : List (List D)) : Option (List V × List Ob) :=
  loopAtB laws_markIntS.cfg n Tryd.f10 [1, 0, 1, 0] [] m2 (St.mk [V.rw (0 : Nat), V.one true (D.int IntKind.i64 i0), V.undef, V.undef, V.undef, V.one true (D.int IntKind.i64 i1), V.undef, V.undef, V.undef, V.undef, V.undef, V.undef, V.undef, V.undef, V.undef, V.undef, V.undef, V.undef, V.undef] [Ob.row false (1 : Nat) l2])
theorem laws_markIntS.l2_eq (n : Nat) (m2 : Nat) (i0 : Int) (i1 : Int) (l2 : List (List D)) :
    laws_markIntS.l2 n (m2 + 1) i0 i1 l2 = bif decide (i1 < (↑(List.length l2) : Int)) then bif decide ((0 : Int) ≤ i1) then bif decide (i1 < (↑(List.length l2) : Int)) then laws_markIntS.l2 n m2 (IntKind.wrap IntKind.i64 (i0 + (1 : Int))) (IntKind.wrap IntKind.i64 (i1 + (1 : Int))) (setRow (1 : Nat) l2 (Int.toNat i1) (0 : Nat) [D.int IntKind.i64 i0]) else none else none else some ([V.one true (D.int IntKind.i64 i0)], [Ob.row false (1 : Nat) l2]) := by kernel_rfl
noncomputable def laws_markIntS.res (n : Nat) (es : List (List D)) (k : Int) : Option (List V × List Ob) :=
  laws_markIntS.l2 n n k (0 : Int) es
theorem laws_markIntS.run (n : Nat) (es : List (List D)) (k : Int) :
    (fun p : List V × List Ob => runB laws_markIntS.cfg n Tryd.f10 p.1 p.2) ([V.rw (0 : Nat), V.one true (D.int IntKind.i64 k)], [Ob.row false (1 : Nat) es]) = laws_markIntS.res n es k := by kernel_rfl
theorem laws_markIntS.ev {n : Nat} {es : List (List D)} {k : Int} {r : List V} {o : List Ob} (h : laws_markIntS.res n es k = some (r, o)) : SndB Tryd.prog C0 10 [.rw 0, .one true (.int .i64 k)] [.row false 1 es] r o :=
  sndB_ev (C := laws_markIntS.cfg) cfg0 mix rfl rfl rfl rfl rfl .nil .nil Tryd.func10 (by kernel_rfl) (by kernel_rfl) rfl ((laws_markIntS.run n es k).trans h)

theorem wrap_mk {j : Nat} (h : j ≤ LIM + 10) : IntKind.i64.wrap ((j : Int) + 1) = ((j + 1 : Nat) : Int) := by
  unfold LIM at h
  rw [wrap_in (by omega) (by omega)]; omega
theorem laws_markIntS.l2_run {n : Nat} {l : List Int} (hl : l.length ≤ LIM) : ∀ (d i m : Nat), i + d = l.length → d < m →
    laws_markIntS.l2 n m ((1 + i : Nat) : Int) i (intC.encs (marksI i 1 ++ l.drop i)) = some ([V.one true (.int .i64 (mkEndI l.length))], [Ob.row false 1 (intC.encs (marksI l.length 1))]) := by
  intro d
  induction d with
  | zero =>
    intro i m hi hm
    obtain ⟨m, rfl⟩ : ∃ m', m = m' + 1 := ⟨m - 1, by omega⟩
    obtain rfl : i = l.length := by omega
    have h1 : ¬ (l.length : Int) < l.length := by omega
    rw [laws_markIntS.l2_eq, List.drop_length, List.append_nil]
    simp only [Cod.encs_len, marksI_len, h1, decide_false, cond_false]
    rfl
  | succ d ih =>
    intro i m hi hm
    obtain ⟨m, rfl⟩ : ∃ m', m = m' + 1 := ⟨m - 1, by omega⟩
    have hlen : (marksI i 1 ++ l.drop i).length = l.length := by simp; omega
    have h1 : (i : Int) < l.length := by omega
    have e2 : (marksI i 1 ++ l.drop i).set i ((1 + i : Nat) : Int) = marksI (i + 1) 1 ++ l.drop (i + 1) := by
      rw [List.set_append_right _ _ (by simp), marksI_len, Nat.sub_self, List.drop_eq_getElem_cons (by omega), List.set_cons_zero, marksI_snoc, List.append_assoc]
      rfl
    rw [laws_markIntS.l2_eq]
    simp only [Cod.encs_len, hlen, h1, decide_true, cond_true, Int.natCast_nonneg, Int.toNat_natCast, wrap_mk (show 1 + i ≤ LIM + 10 by omega), wrap_succ (show i ≤ LIM by omega), intC_set, e2]
    rw [show 1 + i + 1 = 1 + (i + 1) by omega]
    exact ih (i + 1) m (by omega) (by omega)
def laws_markIntS.stub : StubB
  | [.rw 0, .one true (.int .i64 k)], [.row false 1 es] => .any (intC.decs es) fun l => .gd (decide (k = 1)) (.ret ([.one true (.int .i64 (Sp.mkEndI l.length))], [.row false 1 (intC.encs (Sp.marksI l.length 1))]))
  | _, _ => .fail
theorem laws_markIntS.ok : StubBOk Tryd.prog C0 10 laws_markIntS.stub := by
  intro args objs res objs' h
  unfold laws_markIntS.stub at h
  split at h
  · obtain ⟨l, h1, h0⟩ := any_out h
    obtain ⟨rfl, hl⟩ := Cod.decs_inv h1
    obtain ⟨h2, h3⟩ := gd_out h0
    obtain rfl := of_decide_eq_true h2
    cases h3
    refine laws_markIntS.ev (n := l.length + 1) ?_
    exact laws_markIntS.l2_run (n := l.length + 1) hl l.length 0 (l.length + 1) (by omega) (by omega)
  · cases h
/-! laws_heldIntS -/
noncomputable def laws_heldIntS.cfg : Cfg := { C0 with keep := fun | 2 => some [0, 1, 5] | _ => none, nb := 0, M := tabM [], MM := tabB [] }
noncomputable def laws_heldIntS.l2 (n : Nat) (m2 : Nat) (l0 : List (List D)) (i1 : Int) (i2 : Int) : Option (List Q) :=
  loopAt laws_heldIntS.cfg [RK.one (LK.int IntKind.i64)] n Tryd.f11 [1, 0, 1, 0] [] m2 (St.mk [V.one false (D.sl (1 : Nat) l0), V.one true (D.int IntKind.i64 i1), V.undef, V.undef, V.undef, V.one true (D.int IntKind.i64 i2), V.undef, V.undef, V.undef, V.undef, V.undef, V.undef, V.undef, V.undef, V.undef, V.undef, V.undef, V.undef, V.undef, V.undef, V.undef] [])
theorem laws_heldIntS.l2_eq (n : Nat) (m2 : Nat) (l0 : List (List D)) (i1 : Int) (i2 : Int) :
    laws_heldIntS.l2 n (m2 + 1) l0 i1 i2 = bif decide (i2 < (↑(List.length l0) : Int)) then bif decide ((0 : Int) ≤ i2) then bif decide (i2 < (↑(List.length l0) : Int)) then Option.bind (Option.bind (some (cellD l0 (Int.toNat i2) (0 : Nat))) (D.int? IntKind.i64)) fun (i1_1 : Int) => bif i1_1 != i1 then some [Q.one (D.int IntKind.i64 (-1 : Int))] else laws_heldIntS.l2 n m2 l0 (IntKind.wrap IntKind.i64 (i1 + (1 : Int))) (IntKind.wrap IntKind.i64 (i2 + (1 : Int))) else none else none else some [Q.one (D.int IntKind.i64 i1)] := by kernel_rfl
noncomputable def laws_heldIntS.res (n : Nat) (a0 : List (List D)) (a1 : Int) : Option (List Q) :=
  laws_heldIntS.l2 n n a0 a1 (0 : Int)
theorem laws_heldIntS.run (n : Nat) (a0 : List (List D)) (a1 : Int) :
    run1 laws_heldIntS.cfg [RK.one (LK.int IntKind.i64)] n Tryd.f11 [Q.one (D.sl (1 : Nat) a0), Q.one (D.int IntKind.i64 a1)] = laws_heldIntS.res n a0 a1 := by kernel_rfl
theorem laws_heldIntS.ev {n : Nat} {a0 : List (List D)} {a1 : Int} {r : List Q} (h : laws_heldIntS.res n a0 a1 = some r) : Snd Tryd.prog C0 11 [.one (.sl 1 a0), .one (.int .i64 a1)] r :=
  snd_ev (C := laws_heldIntS.cfg) cfg0 mix rfl rfl rfl rfl rfl .nil .nil rfl Tryd.func11 (by kernel_rfl) (by kernel_rfl) rfl ((laws_heldIntS.run n a0 a1).trans h)

theorem laws_heldIntS.l2_run {n : Nat} {N : Nat} (hl : N ≤ LIM) : ∀ (d i m : Nat), i + d = N → d < m →
    laws_heldIntS.l2 n m (intC.encs (marksI N 1)) ((1 + i : Nat) : Int) i = some [Q.one (.int .i64 (mkEndI N))] := by
  intro d
  induction d with
  | zero =>
    intro i m hi hm
    obtain ⟨m, rfl⟩ : ∃ m', m = m' + 1 := ⟨m - 1, by omega⟩
    obtain rfl : i = N := by omega
    have h1 : ¬ (i : Int) < i := by omega
    rw [laws_heldIntS.l2_eq]
    simp only [Cod.encs_len, marksI_len, h1, decide_false, cond_false]
    rfl
  | succ d ih =>
    intro i m hi hm
    obtain ⟨m, rfl⟩ : ∃ m', m = m' + 1 := ⟨m - 1, by omega⟩
    have hlt : i < (marksI N 1).length := by rw [marksI_len]; omega
    have h1 : (i : Int) < N := by omega
    have hg := marksI_get hlt
    rw [laws_heldIntS.l2_eq]
    simp only [Cod.encs_len, marksI_len, h1, decide_true, cond_true, Int.natCast_nonneg, Int.toNat_natCast, intC_int' hlt, Option.bind_some, hg, bne_self_eq_false, cond_false, wrap_mk (show 1 + i ≤ LIM + 10 by omega), wrap_succ (show i ≤ LIM by omega)]
    rw [show 1 + i + 1 = 1 + (i + 1) by omega]
    exact ih (i + 1) m (by omega) (by omega)
def laws_heldIntS.stub : Stub
  | [.one (.sl 1 es), .one (.int .i64 k)] => .any (intC.decs es) fun l => .gd (Sp.isMarksI l) (.gd (decide (k = 1)) (.ret [.one (.int .i64 (Sp.mkEndI l.length))]))
  | _ => .fail
theorem laws_heldIntS.ok : StubOk Tryd.prog C0 11 laws_heldIntS.stub := by
  intro args res h
  unfold laws_heldIntS.stub at h
  split at h
  · obtain ⟨l, h1, h0⟩ := any_out h
    obtain ⟨rfl, hl⟩ := Cod.decs_inv h1
    obtain ⟨h2, h3⟩ := gd_out h0
    obtain ⟨h4, h5⟩ := gd_out h3
    obtain rfl := of_decide_eq_true h4
    cases h5
    refine laws_heldIntS.ev (n := l.length + 1) ?_
    have := laws_heldIntS.l2_run (n := l.length + 1) hl l.length 0 (l.length + 1) (by omega) (by omega)
    rw [← of_decide_eq_true h2] at this
    exact this
  · cases h
/-! laws_FnExactFaceCycles -/
noncomputable def laws_FnExactFaceCycles.cfg : Cfg := { C0 with keep := fun _ => none, nb := 0, M := tabM [(7, spec_FaceCycles.stub), (8, impl_FaceCycles.stub), (9, laws_eqIntS.stub), (11, laws_heldIntS.stub)], MM := tabB [(10, laws_markIntS.stub)] }
noncomputable def laws_FnExactFaceCycles.res (n : Nat) (a0 : ByteArray) : Option (List Q) :=
  bif decide ((↑(ByteArray.size a0) : Int) > (1048576 : Int)) then some [Q.one (D.bool true)] else Option.bind (Cod.decs intC (Cod.encs intC (faceC a0))) fun (l1 : List Int) => Option.bind (Cod.decs intC (Cod.encs intC (faceC a0))) fun (l2 : List Int) => bif !decide (l1 = l2) then some [Q.one (D.bool false)] else bif !isWord a0 == isWord a0 then some [Q.one (D.bool false)] else Option.bind (Cod.decs intC (Cod.encs intC (faceC a0))) fun (l3 : List Int) => Option.bind (Cod.decs intC (Cod.encs intC (marksI (List.length l3) (1 : Nat)))) fun (l4 : List Int) => bif isMarksI l4 then bif mkEndI (List.length l4) != mkEndI (List.length l3) then some [Q.one (D.bool false)] else Option.bind (Cod.decs intC (Cod.encs intC (faceC a0))) fun (l5 : List Int) => Option.bind (Cod.decs intC (Cod.encs intC (faceC a0))) fun (l6 : List Int) => bif !decide (l5 = l6) then some [Q.one (D.bool false)] else bif !isWord a0 == isWord a0 then some [Q.one (D.bool false)] else Option.bind (Cod.decs intC (Cod.encs intC (marksI (List.length l3) (1 : Nat)))) fun (l7 : List Int) => bif isMarksI l7 then bif mkEndI (List.length l7) != mkEndI (List.length l3) then some [Q.one (D.bool false)] else some [Q.one (D.bool true)] else none else none
theorem laws_FnExactFaceCycles.run (n : Nat) (a0 : ByteArray) :
    run1 laws_FnExactFaceCycles.cfg [RK.one LK.bool] n Tryd.f4 [Q.one (D.str a0)] = laws_FnExactFaceCycles.res n a0 := by kernel_rfl
theorem laws_FnExactFaceCycles.ev {n : Nat} {a0 : ByteArray} {r : List Q} (h : laws_FnExactFaceCycles.res n a0 = some r) : Snd Tryd.prog C0 4 [.one (.str a0)] r :=
  snd_ev (C := laws_FnExactFaceCycles.cfg) cfg0 mix rfl rfl rfl rfl rfl (.cons spec_FaceCycles.ok (.cons impl_FaceCycles.ok (.cons laws_eqIntS.ok (.cons laws_heldIntS.ok .nil)))) (.cons laws_markIntS.ok .nil) rfl Tryd.func4 (by kernel_rfl) (by kernel_rfl) rfl ((laws_FnExactFaceCycles.run n a0).trans h)

theorem laws_FnExactFaceCycles.law (x : ByteArray) : Snd Tryd.prog C0 4 [.one (.str x)] [.one (.bool true)] := by
  refine laws_FnExactFaceCycles.ev (n := 0) ?_
  have hf := faceC_len x
  have hm : (marksI (faceC x).length 1).length ≤ LIM := by rw [marksI_len]; exact hf
  unfold laws_FnExactFaceCycles.res
  simp only [Cod.decs_encs hf, Cod.decs_encs hm, Option.bind_some, decide_true, Bool.not_true, cond_false, cond_true, isMarksI_marks, marksI_len, bne_self_eq_false]
  cases decide (((x.size : Nat) : Int) > 1048576)
  · cases isWord x <;> rfl
  · rfl
end Go.Proofs.EV.PL
