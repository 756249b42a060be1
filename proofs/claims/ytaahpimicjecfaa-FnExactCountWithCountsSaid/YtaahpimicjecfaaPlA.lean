import Derived.Test.YtaahpimicjecfaaProg
import Derived.Test.YtaahpimicjecfaaEvC
set_option linter.unusedVariables false
/-! The seat's types. -/
namespace Go.Proofs.EV.PL
open Go Go.Proofs Go.Proofs.EV
def tyl : List (TypeId × TI) := [
  (1, ⟨.func, 1, [.nl .nilf], false⟩),
  (2, ⟨.int .i64, 1, [.int .i64], false⟩),
  (3, ⟨.int .i64, 1, [.int .i64], false⟩),
  (4, ⟨.bool, 1, [.bool], false⟩),
  (5, ⟨.int .u8, 1, [.int .u8], false⟩),
  (6, ⟨.int .u8, 1, [.int .u8], false⟩),
  (7, ⟨.struct [(0, 2), (1, 3), (2, 4), (3, 6)], 4, [.int .i64, .int .i64, .bool, .int .u8], true⟩),
  (8, ⟨.struct [(0, 2), (1, 3), (2, 4), (3, 6)], 4, [.int .i64, .int .i64, .bool, .int .u8], true⟩),
  (9, ⟨.string, 1, [.str], false⟩),
  (10, ⟨.string, 1, [.str], false⟩),
  (11, ⟨.string, 1, [.str], false⟩),
  (12, ⟨.int .u64, 1, [.int .u64], false⟩),
  (13, ⟨.struct [(0, 9), (1, 12)], 2, [.str, .int .u64], false⟩),
  (14, ⟨.struct [(0, 9), (1, 12)], 2, [.str, .int .u64], false⟩),
  (15, ⟨.pointer 92, 1, [.nl .nilp], false⟩),
  (16, ⟨.pointer 95, 1, [.nl .nilp], false⟩),
  (17, ⟨.pointer 104, 1, [.nl .nilp], false⟩),
  (18, ⟨.struct [(0, 17)], 1, [.nl .nilp], false⟩),
  (19, ⟨.struct [(0, 17)], 1, [.nl .nilp], false⟩),
  (20, ⟨.iface, 1, [.nl .nili], false⟩),
  (21, ⟨.int .i32, 1, [.int .i32], false⟩),
  (22, ⟨.slice 3, 1, [.sl 1], false⟩),
  (24, ⟨.func, 1, [.nl .nilf], false⟩),
  (25, ⟨.func, 1, [.nl .nilf], false⟩),
  (26, ⟨.func, 1, [.nl .nilf], false⟩),
  (27, ⟨.func, 1, [.nl .nilf], false⟩),
  (28, ⟨.func, 1, [.nl .nilf], false⟩),
  (29, ⟨.slice 32, 1, [.sl 6], false⟩),
  (30, ⟨.func, 1, [.nl .nilf], false⟩),
  (31, ⟨.struct [(0, 3), (1, 3), (2, 3), (3, 3), (4, 3), (5, 3)], 6, [.int .i64, .int .i64, .int .i64, .int .i64, .int .i64, .int .i64], true⟩),
  (32, ⟨.struct [(0, 3), (1, 3), (2, 3), (3, 3), (4, 3), (5, 3)], 6, [.int .i64, .int .i64, .int .i64, .int .i64, .int .i64, .int .i64], true⟩),
  (33, ⟨.func, 1, [.nl .nilf], false⟩),
  (34, ⟨.func, 1, [.nl .nilf], false⟩),
  (35, ⟨.func, 1, [.nl .nilf], false⟩),
  (36, ⟨.func, 1, [.nl .nilf], false⟩),
  (37, ⟨.func, 1, [.nl .nilf], false⟩),
  (38, ⟨.slice 9, 1, [.sl 1], false⟩),
  (40, ⟨.func, 1, [.nl .nilf], false⟩),
  (41, ⟨.func, 1, [.nl .nilf], false⟩),
  (42, ⟨.func, 1, [.nl .nilf], false⟩),
  (43, ⟨.slice 4, 1, [.sl 1], false⟩),
  (44, ⟨.func, 1, [.nl .nilf], false⟩),
  (45, ⟨.func, 1, [.nl .nilf], false⟩),
  (46, ⟨.func, 1, [.nl .nilf], false⟩),
  (47, ⟨.func, 1, [.nl .nilf], false⟩),
  (48, ⟨.array 6 4, 6, [.bool, .bool, .bool, .bool, .bool, .bool], false⟩),
  (49, ⟨.func, 1, [.nl .nilf], false⟩),
  (50, ⟨.func, 1, [.nl .nilf], false⟩),
  (51, ⟨.func, 1, [.nl .nilf], false⟩),
  (52, ⟨.map 32 4, 1, [.nl .nilm], false⟩),
  (53, ⟨.func, 1, [.nl .nilf], false⟩),
  (54, ⟨.func, 1, [.nl .nilf], false⟩),
  (55, ⟨.func, 1, [.nl .nilf], false⟩),
  (56, ⟨.func, 1, [.nl .nilf], false⟩),
  (57, ⟨.func, 1, [.nl .nilf], false⟩),
  (58, ⟨.func, 1, [.nl .nilf], false⟩),
  (59, ⟨.int .u64, 1, [.int .u64], false⟩),
  (60, ⟨.func, 1, [.nl .nilf], false⟩),
  (61, ⟨.func, 1, [.nl .nilf], false⟩),
  (62, ⟨.int .i64, 1, [.int .i64], false⟩),
  (64, ⟨.func, 1, [.nl .nilf], false⟩),
  (65, ⟨.func, 1, [.nl .nilf], false⟩),
  (66, ⟨.func, 1, [.nl .nilf], false⟩),
  (67, ⟨.func, 1, [.nl .nilf], false⟩),
  (68, ⟨.func, 1, [.nl .nilf], false⟩),
  (69, ⟨.int .u32, 1, [.int .u32], false⟩),
  (70, ⟨.func, 1, [.nl .nilf], false⟩),
  (71, ⟨.int .u64, 1, [.int .u64], false⟩),
  (72, ⟨.func, 1, [.nl .nilf], false⟩),
  (73, ⟨.func, 1, [.nl .nilf], false⟩),
  (74, ⟨.func, 1, [.nl .nilf], false⟩),
  (75, ⟨.func, 1, [.nl .nilf], false⟩),
  (76, ⟨.func, 1, [.nl .nilf], false⟩),
  (77, ⟨.func, 1, [.nl .nilf], false⟩),
  (78, ⟨.int .u64, 1, [.int .u64], false⟩),
  (79, ⟨.func, 1, [.nl .nilf], false⟩),
  (80, ⟨.func, 1, [.nl .nilf], false⟩),
  (81, ⟨.func, 1, [.nl .nilf], false⟩),
  (82, ⟨.pointer 3, 1, [.nl .nilp], false⟩),
  (83, ⟨.func, 1, [.nl .nilf], false⟩),
  (84, ⟨.func, 1, [.nl .nilf], false⟩),
  (85, ⟨.func, 1, [.nl .nilf], false⟩),
  (86, ⟨.func, 1, [.nl .nilf], false⟩),
  (87, ⟨.pointer 78, 1, [.nl .nilp], false⟩),
  (89, ⟨.func, 1, [.nl .nilf], false⟩),
  (90, ⟨.func, 1, [.nl .nilf], false⟩),
  (91, ⟨.struct [(0, 17), (1, 17), (2, 17), (3, 9)], 4, [.nl .nilp, .nl .nilp, .nl .nilp, .str], false⟩),
  (92, ⟨.struct [(0, 17), (1, 17), (2, 17), (3, 9)], 4, [.nl .nilp, .nl .nilp, .nl .nilp, .str], false⟩),
  (96, ⟨.func, 1, [.nl .nilf], false⟩),
  (97, ⟨.int .u8, 1, [.int .u8], false⟩),
  (98, ⟨.int .u8, 1, [.int .u8], false⟩),
  (99, ⟨.func, 1, [.nl .nilf], false⟩),
  (100, ⟨.pointer 5, 1, [.nl .nilp], false⟩),
  (101, ⟨.int .i32, 1, [.int .i32], false⟩),
  (102, ⟨.int .i32, 1, [.int .i32], false⟩),
  (103, ⟨.struct [(0, 12), (1, 12), (2, 69), (3, 97), (4, 5), (5, 5), (6, 98), (7, 99), (8, 100), (9, 101), (10, 102)], 11, [.int .u64, .int .u64, .int .u32, .int .u8, .int .u8, .int .u8, .int .u8, .nl .nilf, .nl .nilp, .int .i32, .int .i32], false⟩),
  (104, ⟨.struct [(0, 12), (1, 12), (2, 69), (3, 97), (4, 5), (5, 5), (6, 98), (7, 99), (8, 100), (9, 101), (10, 102)], 11, [.int .u64, .int .u64, .int .u32, .int .u8, .int .u8, .int .u8, .int .u8, .nl .nilf, .nl .nilp, .int .i32, .int .i32], false⟩),
  (105, ⟨.func, 1, [.nl .nilf], false⟩)]
def sigF : Nat → List RK
  | 0 => []
  | 1 => []
  | 2 => []
  | 3 => [.one (.bool)]
  | 4 => [.one (.int .i64), .one (.bool)]
  | 5 => [.own 1]
  | 6 => [.one (.int .i64), .one (.bool)]
  | 7 => [.one (.bool)]
  | 8 => [.one (.bool)]
  | 9 => [.own 6]
  | 10 => [.agg [.int .i64, .int .i64, .int .i64, .int .i64, .int .i64, .int .i64]]
  | 11 => [.one (.int .i64)]
  | 12 => [.own 1]
  | 13 => [.one (.bool)]
  | 14 => [.agg [.int .i64, .int .i64, .int .i64, .int .i64, .int .i64, .int .i64]]
  | 15 => [.own 6]
  | 16 => [.one (.int .i64)]
  | 17 => [.own 1]
  | 18 => [.own 1]
  | 19 => [.one (.bool)]
  | 20 => [.own 6, .own 1]
  | 21 => [.one (.bool)]
  | 22 => [.agg [.int .i64, .int .i64, .int .i64, .int .i64, .int .i64, .int .i64]]
  | 23 => [.own 1]
  | 24 => [.own 1]
  | 25 => [.own 1]
  | 26 => [.agg [.int .i64, .int .i64, .int .i64, .int .i64, .int .i64, .int .i64]]
  | 27 => [.own 6]
  | 28 => [.own 1]
  | 29 => []
  | 30 => [.agg [.int .i64, .int .i64, .int .i64, .int .i64, .int .i64, .int .i64]]
  | 31 => [.one (.str)]
  | 32 => [.agg [.int .i64, .int .i64, .int .i64, .int .i64, .int .i64, .int .i64]]
  | 33 => []
  | 34 => [.one (.int .i64)]
  | 35 => [.own 6]
  | 36 => []
  | 37 => [.one (.int .i64)]
  | 38 => []
  | 39 => [.one (.int .i64)]
  | 40 => []
  | 41 => []
  | 42 => []
  | 43 => [.one (.int .i64), .one (.int .i64)]
  | 44 => []
  | 45 => [.one (.bool)]
  | 46 => [.one (.bool)]
  | 47 => [.one (.int .i64)]
  | 48 => [.one (.int .i64), .one (.bool)]
  | 49 => [.one (.int .i64)]
  | 50 => [.one (.int .i64)]
  | 51 => []
  | 52 => []
  | 53 => []
  | 54 => [.one (.int .i64), .one (.int .i64)]
  | 55 => []
  | 56 => [.one (.bool)]
  | 57 => [.one (.int .i64)]
  | 58 => [.one (.int .i64), .one (.bool)]
  | 59 => [.one (.int .i64)]
  | 60 => []
  | 61 => [.one (.int .u64)]
  | 62 => [.one (.int .u64)]
  | 63 => [.one (.int .i64)]
  | 64 => [.one (.int .i64)]
  | 65 => [.one (.bool)]
  | 66 => []
  | 67 => [.one (.int .i64)]
  | 68 => [.one (.int .i64)]
  | 69 => [.one (.int .i64), .one (.int .i64)]
  | 70 => [.one (.int .i64), .one (.int .i64)]
  | 71 => [.one (.str)]
  | 72 => []
  | 73 => [.one (.str)]
  | 74 => []
  | 75 => [.one (.str)]
  | 76 => []
  | 77 => [.one (.str)]
  | 78 => []
  | 79 => [.one (.str)]
  | 80 => []
  | 81 => [.one (.str)]
  | 82 => []
  | 83 => [.one (.int .i64)]
  | 84 => [.one (.str)]
  | 85 => []
  | 86 => [.one (.bool)]
  | 87 => [.one (.str)]
  | _ => []
def borF : Nat → Bool
  | 16 => true
  | 27 => true
  | 29 => true
  | 33 => true
  | 35 => true
  | 36 => true
  | 38 => true
  | 40 => true
  | 41 => true
  | 42 => true
  | 43 => true
  | 44 => true
  | 45 => true
  | 47 => true
  | 48 => true
  | 51 => true
  | 52 => true
  | 53 => true
  | 54 => true
  | 55 => true
  | 56 => true
  | 57 => true
  | 58 => true
  | 60 => true
  | 62 => true
  | 63 => true
  | 64 => true
  | 66 => true
  | 67 => true
  | 68 => true
  | 69 => true
  | 70 => true
  | _ => false
def newsF : Nat → Nat
  | _ => 0
def C0 : Cfg := { ty := tysOf tyl, M := fun _ _ => .fail, sig := sigF, glob := fun _ => .undef, keep := fun _ => none, nb := 0, bor := borF, news := newsF, MM := fun _ _ _ => .fail }
theorem cfg0 : CfgOk Try.prog C0 := cfgOk_tys rfl (by kernel_rfl)
theorem mix : Try.prog.follows .mixedOrders = true := by kernel_rfl
end Go.Proofs.EV.PL
set_option linter.unusedVariables false
set_option linter.unusedSimpArgs false
/-! Dice: what they are, in both packages. -/
namespace Go.Proofs.EV.PL
open Go Go.Proofs Go.Proofs.EV Sp
/-! spec_l1In -/
noncomputable def spec_l1In.cfg : Cfg := { C0 with keep := fun _ => none, nb := 0, M := tabM [], MM := tabB [] }
noncomputable def spec_l1In.res (n : Nat) (a0 : Int) (a1 : Int) (a2 : Int) : Option (List Q) :=
  bif decide (a0 ≥ a1) then some [Q.one (D.bool (decide (a0 ≤ a2)))] else some [Q.one (D.bool false)]
theorem spec_l1In.run (n : Nat) (a0 : Int) (a1 : Int) (a2 : Int) :
    run1 spec_l1In.cfg [RK.one LK.bool] n Try.f19 [Q.one (D.int IntKind.i64 a0), Q.one (D.int IntKind.i64 a1), Q.one (D.int IntKind.i64 a2)] = spec_l1In.res n a0 a1 a2 := by kernel_rfl
theorem spec_l1In.ev {n : Nat} {a0 : Int} {a1 : Int} {a2 : Int} {r : List Q} (h : spec_l1In.res n a0 a1 a2 = some r) : Snd Try.prog C0 19 [.one (.int .i64 a0), .one (.int .i64 a1), .one (.int .i64 a2)] r :=
  snd_ev (C := spec_l1In.cfg) cfg0 mix rfl rfl rfl rfl rfl .nil .nil rfl Try.func19 (by kernel_rfl) (by kernel_rfl) rfl ((spec_l1In.run n a0 a1 a2).trans h)

def spec_l1In.stub : Stub
  | [.one (.int .i64 a), .one (.int .i64 b), .one (.int .i64 c)] => .ret [.one (.bool (Sp.inR a b c))]
  | _ => .fail
theorem spec_l1In.ok : StubOk Try.prog C0 19 spec_l1In.stub := by
  intro args res h
  unfold spec_l1In.stub at h
  split at h
  · rename_i a b c
    cases h
    refine spec_l1In.ev (n := 0) ?_
    unfold spec_l1In.res Sp.inR
    by_cases h1 : b ≤ a <;> simp [h1]
  · cases h
/-! impl_in -/
noncomputable def impl_in.cfg : Cfg := { C0 with keep := fun _ => none, nb := 0, M := tabM [], MM := tabB [] }
noncomputable def impl_in.res (n : Nat) (a0 : Int) (a1 : Int) (a2 : Int) : Option (List Q) :=
  bif decide (a1 ≤ a0) then some [Q.one (D.bool (decide (a0 ≤ a2)))] else some [Q.one (D.bool false)]
theorem impl_in.run (n : Nat) (a0 : Int) (a1 : Int) (a2 : Int) :
    run1 impl_in.cfg [RK.one LK.bool] n Try.f13 [Q.one (D.int IntKind.i64 a0), Q.one (D.int IntKind.i64 a1), Q.one (D.int IntKind.i64 a2)] = impl_in.res n a0 a1 a2 := by kernel_rfl
theorem impl_in.ev {n : Nat} {a0 : Int} {a1 : Int} {a2 : Int} {r : List Q} (h : impl_in.res n a0 a1 a2 = some r) : Snd Try.prog C0 13 [.one (.int .i64 a0), .one (.int .i64 a1), .one (.int .i64 a2)] r :=
  snd_ev (C := impl_in.cfg) cfg0 mix rfl rfl rfl rfl rfl .nil .nil rfl Try.func13 (by kernel_rfl) (by kernel_rfl) rfl ((impl_in.run n a0 a1 a2).trans h)

def impl_in.stub : Stub
  | [.one (.int .i64 a), .one (.int .i64 b), .one (.int .i64 c)] => .ret [.one (.bool (Sp.inR a b c))]
  | _ => .fail
theorem impl_in.ok : StubOk Try.prog C0 13 impl_in.stub := by
  intro args res h
  unfold impl_in.stub at h
  split at h
  · rename_i a b c
    cases h
    refine impl_in.ev (n := 0) ?_
    unfold impl_in.res Sp.inR
    by_cases h1 : b ≤ a <;> simp [h1]
  · cases h
/-! spec_diFaces -/
noncomputable def spec_diFaces.cfg : Cfg := { C0 with keep := fun _ => none, nb := 0, M := tabM [], MM := tabB [] }
noncomputable def spec_diFaces.res (n : Nat) (a0_0 : Int) (a0_1 : Int) (a0_2 : Int) (a0_3 : Int) (a0_4 : Int) (a0_5 : Int) : Option (List Q) :=
  some [Q.one (D.sl (1 : Nat) [[D.int IntKind.i64 a0_0], [D.int IntKind.i64 a0_1], [D.int IntKind.i64 a0_2], [D.int IntKind.i64 a0_3], [D.int IntKind.i64 a0_4], [D.int IntKind.i64 a0_5]])]
theorem spec_diFaces.run (n : Nat) (a0_0 : Int) (a0_1 : Int) (a0_2 : Int) (a0_3 : Int) (a0_4 : Int) (a0_5 : Int) :
    run1 spec_diFaces.cfg [RK.own (1 : Nat)] n Try.f24 [Q.agg [D.int IntKind.i64 a0_0, D.int IntKind.i64 a0_1, D.int IntKind.i64 a0_2, D.int IntKind.i64 a0_3, D.int IntKind.i64 a0_4, D.int IntKind.i64 a0_5]] = spec_diFaces.res n a0_0 a0_1 a0_2 a0_3 a0_4 a0_5 := by kernel_rfl
theorem spec_diFaces.ev {n : Nat} {a0_0 : Int} {a0_1 : Int} {a0_2 : Int} {a0_3 : Int} {a0_4 : Int} {a0_5 : Int} {r : List Q} (h : spec_diFaces.res n a0_0 a0_1 a0_2 a0_3 a0_4 a0_5 = some r) : Snd Try.prog C0 24 [.agg [.int .i64 a0_0, .int .i64 a0_1, .int .i64 a0_2, .int .i64 a0_3, .int .i64 a0_4, .int .i64 a0_5]] r :=
  snd_ev (C := spec_diFaces.cfg) cfg0 mix rfl rfl rfl rfl rfl .nil .nil rfl Try.func24 (by kernel_rfl) (by kernel_rfl) rfl ((spec_diFaces.run n a0_0 a0_1 a0_2 a0_3 a0_4 a0_5).trans h)

def spec_diFaces.stub : Stub
  | [.agg [.int .i64 t, .int .i64 n, .int .i64 e, .int .i64 s, .int .i64 w, .int .i64 b]] => .ret [.one (.sl 1 [[.int .i64 t], [.int .i64 n], [.int .i64 e], [.int .i64 s], [.int .i64 w], [.int .i64 b]])]
  | _ => .fail
theorem spec_diFaces.ok : StubOk Try.prog C0 24 spec_diFaces.stub := by
  intro args res h
  unfold spec_diFaces.stub at h
  split at h
  · cases h; exact spec_diFaces.ev (n := 0) rfl
  · cases h
/-! impl_Die_faces -/
noncomputable def impl_Die_faces.cfg : Cfg := { C0 with keep := fun _ => none, nb := 0, M := tabM [], MM := tabB [] }
noncomputable def impl_Die_faces.res (n : Nat) (a0_0 : Int) (a0_1 : Int) (a0_2 : Int) (a0_3 : Int) (a0_4 : Int) (a0_5 : Int) : Option (List Q) :=
  some [Q.one (D.sl (1 : Nat) [[D.int IntKind.i64 a0_0], [D.int IntKind.i64 a0_1], [D.int IntKind.i64 a0_2], [D.int IntKind.i64 a0_3], [D.int IntKind.i64 a0_4], [D.int IntKind.i64 a0_5]])]
theorem impl_Die_faces.run (n : Nat) (a0_0 : Int) (a0_1 : Int) (a0_2 : Int) (a0_3 : Int) (a0_4 : Int) (a0_5 : Int) :
    run1 impl_Die_faces.cfg [RK.own (1 : Nat)] n Try.f28 [Q.agg [D.int IntKind.i64 a0_0, D.int IntKind.i64 a0_1, D.int IntKind.i64 a0_2, D.int IntKind.i64 a0_3, D.int IntKind.i64 a0_4, D.int IntKind.i64 a0_5]] = impl_Die_faces.res n a0_0 a0_1 a0_2 a0_3 a0_4 a0_5 := by kernel_rfl
theorem impl_Die_faces.ev {n : Nat} {a0_0 : Int} {a0_1 : Int} {a0_2 : Int} {a0_3 : Int} {a0_4 : Int} {a0_5 : Int} {r : List Q} (h : impl_Die_faces.res n a0_0 a0_1 a0_2 a0_3 a0_4 a0_5 = some r) : Snd Try.prog C0 28 [.agg [.int .i64 a0_0, .int .i64 a0_1, .int .i64 a0_2, .int .i64 a0_3, .int .i64 a0_4, .int .i64 a0_5]] r :=
  snd_ev (C := impl_Die_faces.cfg) cfg0 mix rfl rfl rfl rfl rfl .nil .nil rfl Try.func28 (by kernel_rfl) (by kernel_rfl) rfl ((impl_Die_faces.run n a0_0 a0_1 a0_2 a0_3 a0_4 a0_5).trans h)

def impl_Die_faces.stub : Stub
  | [.agg [.int .i64 t, .int .i64 n, .int .i64 e, .int .i64 s, .int .i64 w, .int .i64 b]] => .ret [.one (.sl 1 [[.int .i64 t], [.int .i64 n], [.int .i64 e], [.int .i64 s], [.int .i64 w], [.int .i64 b]])]
  | _ => .fail
theorem impl_Die_faces.ok : StubOk Try.prog C0 28 impl_Die_faces.stub := by
  intro args res h
  unfold impl_Die_faces.stub at h
  split at h
  · cases h; exact impl_Die_faces.ev (n := 0) rfl
  · cases h
/-! spec_l1All -/
noncomputable def spec_l1All.cfg : Cfg := { C0 with keep := fun | 2 => some [1, 2, 9, 10, 11] | _ => none, nb := 0, M := tabM [(19, spec_l1In.stub)], MM := tabB [] }
noncomputable def spec_l1All.l2 (n : Nat) (m2 : Nat) (i0 : Int) (i1 : Int) (l2 : List (List D)) (i3 : Int) (i4 : Int) : Option (List Q) :=
  loopAt spec_l1All.cfg [RK.one LK.bool] n Try.f8 [1, 0, 1, 0] [] m2 (St.mk [V.undef, V.one true (D.int IntKind.i64 i0), V.one true (D.int IntKind.i64 i1), V.undef, V.undef, V.undef, V.undef, V.undef, V.undef, V.one false (D.sl (1 : Nat) l2), V.one true (D.int IntKind.i64 i3), V.one true (D.int IntKind.i64 i4), V.undef, V.undef, V.undef, V.undef, V.undef, V.undef, V.undef, V.undef, V.undef] [])
theorem spec_l1All.l2_eq (n : Nat) (m2 : Nat) (i0 : Int) (i1 : Int) (l2 : List (List D)) (i3 : Int) (i4 : Int) :
    spec_l1All.l2 n (m2 + 1) i0 i1 l2 i3 i4 = bif decide (i4 < i3) then bif decide ((0 : Int) ≤ i4) then bif decide (i4 < (↑(List.length l2) : Int)) then Option.bind (Option.bind (some (cellD l2 (Int.toNat i4) (0 : Nat))) (D.int? IntKind.i64)) fun (i1_1 : Int) => bif !inR i1_1 i0 i1 then some [Q.one (D.bool false)] else spec_l1All.l2 n m2 i0 i1 l2 i3 (IntKind.wrap IntKind.i64 (i4 + (1 : Int))) else none else none else some [Q.one (D.bool true)] := by kernel_rfl
noncomputable def spec_l1All.res (n : Nat) (a0 : List (List D)) (a1 : Int) (a2 : Int) : Option (List Q) :=
  spec_l1All.l2 n n a1 a2 a0 (↑(List.length a0) : Int) (0 : Int)
theorem spec_l1All.run (n : Nat) (a0 : List (List D)) (a1 : Int) (a2 : Int) :
    run1 spec_l1All.cfg [RK.one LK.bool] n Try.f8 [Q.one (D.sl (1 : Nat) a0), Q.one (D.int IntKind.i64 a1), Q.one (D.int IntKind.i64 a2)] = spec_l1All.res n a0 a1 a2 := by kernel_rfl
theorem spec_l1All.ev {n : Nat} {a0 : List (List D)} {a1 : Int} {a2 : Int} {r : List Q} (h : spec_l1All.res n a0 a1 a2 = some r) : Snd Try.prog C0 8 [.one (.sl 1 a0), .one (.int .i64 a1), .one (.int .i64 a2)] r :=
  snd_ev (C := spec_l1All.cfg) cfg0 mix rfl rfl rfl rfl rfl (.cons spec_l1In.ok .nil) .nil rfl Try.func8 (by kernel_rfl) (by kernel_rfl) rfl ((spec_l1All.run n a0 a1 a2).trans h)

theorem spec_l1All.loop {n : Nat} {lo hi : Int} {l : List Int} (hl : l.length ≤ LIM) : ∀ (d k m : Nat), k + d = l.length → d < m → spec_l1All.l2 n m lo hi (intC.encs l) l.length k = some [Q.one (.bool (Sp.allR (l.drop k) lo hi))] := by
  intro d
  induction d with
  | zero =>
    intro k m hk hm
    obtain ⟨m, rfl⟩ : ∃ m', m = m' + 1 := ⟨m - 1, by omega⟩
    obtain rfl : k = l.length := by omega
    simp [spec_l1All.l2_eq, Sp.allR]
  | succ d ih =>
    intro k m hk hm
    obtain ⟨m, rfl⟩ : ∃ m', m = m' + 1 := ⟨m - 1, by omega⟩
    have hlt : k < l.length := by omega
    rw [spec_l1All.l2_eq, List.drop_eq_getElem_cons hlt]
    simp only [Cod.encs_len, Int.ofNat_lt, hlt, decide_true, cond_true, Int.natCast_nonneg, Int.toNat_natCast, intC_int hlt, Option.bind_some, wrap_succ (show k ≤ LIM by omega), ih (k + 1) m (by omega) (by omega)]
    cases h : Sp.inR l[k] lo hi <;> simp only [Sp.allR, List.all_cons, h, Bool.not_true, Bool.not_false, cond_true, cond_false, Bool.true_and, Bool.false_and]
def spec_l1All.stub : Stub
  | [.one (.sl 1 es), .one (.int .i64 lo), .one (.int .i64 hi)] => .any (intC.decs es) fun l => .ret [.one (.bool (Sp.allR l lo hi))]
  | _ => .fail
theorem spec_l1All.ok : StubOk Try.prog C0 8 spec_l1All.stub := by
  intro args res h
  unfold spec_l1All.stub at h
  split at h
  · obtain ⟨l, h1, h2⟩ := any_out h
    obtain ⟨rfl, hl⟩ := Cod.decs_inv h1
    cases h2
    refine spec_l1All.ev (n := l.length + 1) ?_
    unfold spec_l1All.res
    simpa using spec_l1All.loop (n := l.length + 1) hl l.length 0 (l.length + 1) (by omega) (by omega)
  · cases h
end Go.Proofs.EV.PL
set_option linter.unusedVariables false
set_option linter.unusedSimpArgs false
/-! All ways to lie, the reference's. -/
namespace Go.Proofs.EV.PL
open Go Go.Proofs Go.Proofs.EV Sp
/-! spec_diOf -/
noncomputable def spec_diOf.cfg : Cfg := { C0 with keep := fun _ => none, nb := 0, M := tabM [], MM := tabB [] }
noncomputable def spec_diOf.res (n : Nat) (a0 : List (List D)) : Option (List Q) :=
  bif decide ((0 : Int) < (↑(List.length a0) : Int)) then Option.bind (Option.bind (some (cellD a0 (Int.toNat (0 : Int)) (0 : Nat))) (D.int? IntKind.i64)) fun (i1 : Int) => bif decide ((1 : Int) < (↑(List.length a0) : Int)) then Option.bind (Option.bind (some (cellD a0 (Int.toNat (1 : Int)) (0 : Nat))) (D.int? IntKind.i64)) fun (i2 : Int) => bif decide ((2 : Int) < (↑(List.length a0) : Int)) then Option.bind (Option.bind (some (cellD a0 (Int.toNat (2 : Int)) (0 : Nat))) (D.int? IntKind.i64)) fun (i3 : Int) => bif decide ((3 : Int) < (↑(List.length a0) : Int)) then Option.bind (Option.bind (some (cellD a0 (Int.toNat (3 : Int)) (0 : Nat))) (D.int? IntKind.i64)) fun (i4 : Int) => bif decide ((4 : Int) < (↑(List.length a0) : Int)) then Option.bind (Option.bind (some (cellD a0 (Int.toNat (4 : Int)) (0 : Nat))) (D.int? IntKind.i64)) fun (i5 : Int) => bif decide ((5 : Int) < (↑(List.length a0) : Int)) then Option.bind (Option.bind (some (cellD a0 (Int.toNat (5 : Int)) (0 : Nat))) (D.int? IntKind.i64)) fun (i6 : Int) => some [Q.agg [D.int IntKind.i64 i1, D.int IntKind.i64 i2, D.int IntKind.i64 i3, D.int IntKind.i64 i4, D.int IntKind.i64 i5, D.int IntKind.i64 i6]] else none else none else none else none else none else none
theorem spec_diOf.run (n : Nat) (a0 : List (List D)) :
    run1 spec_diOf.cfg [RK.agg [LK.int IntKind.i64, LK.int IntKind.i64, LK.int IntKind.i64, LK.int IntKind.i64, LK.int IntKind.i64, LK.int IntKind.i64]] n Try.f22 [Q.one (D.sl (1 : Nat) a0)] = spec_diOf.res n a0 := by kernel_rfl
theorem spec_diOf.ev {n : Nat} {a0 : List (List D)} {r : List Q} (h : spec_diOf.res n a0 = some r) : Snd Try.prog C0 22 [.one (.sl 1 a0)] r :=
  snd_ev (C := spec_diOf.cfg) cfg0 mix rfl rfl rfl rfl rfl .nil .nil rfl Try.func22 (by kernel_rfl) (by kernel_rfl) rfl ((spec_diOf.run n a0).trans h)

def spec_diOf.stub : Stub
  | [.one (.sl 1 es)] => .any (intC.decs es) fun l => .gd (decide (l.length = 6)) (.ret [.agg (dieC.enc (Sp.ofL l))])
  | _ => .fail
theorem spec_diOf.ok : StubOk Try.prog C0 22 spec_diOf.stub := by
  intro args res h
  unfold spec_diOf.stub at h
  split at h
  · obtain ⟨l, h1, h0⟩ := any_out h
    obtain ⟨rfl, hl⟩ := Cod.decs_inv h1
    obtain ⟨h2, h3⟩ := gd_out h0
    have h2 := of_decide_eq_true h2
    cases h3
    refine spec_diOf.ev (n := 0) ?_
    unfold spec_diOf.res
    match l, h2 with
    | [a, b, c, d, e, f], _ => rfl
  · cases h
/-! spec_diUnit -/
noncomputable def spec_diUnit.cfg : Cfg := { C0 with keep := fun _ => none, nb := 0, M := tabM [(22, spec_diOf.stub)], MM := tabB [] }
noncomputable def spec_diUnit.res (n : Nat) : Option (List Q) :=
  some [Q.agg [D.int IntKind.i64 (Die.t (ofL [(0 : Int), (1 : Int), (2 : Int), (3 : Int), (4 : Int), (5 : Int)])), D.int IntKind.i64 (Die.n (ofL [(0 : Int), (1 : Int), (2 : Int), (3 : Int), (4 : Int), (5 : Int)])), D.int IntKind.i64 (Die.e (ofL [(0 : Int), (1 : Int), (2 : Int), (3 : Int), (4 : Int), (5 : Int)])), D.int IntKind.i64 (Die.s (ofL [(0 : Int), (1 : Int), (2 : Int), (3 : Int), (4 : Int), (5 : Int)])), D.int IntKind.i64 (Die.w (ofL [(0 : Int), (1 : Int), (2 : Int), (3 : Int), (4 : Int), (5 : Int)])), D.int IntKind.i64 (Die.b (ofL [(0 : Int), (1 : Int), (2 : Int), (3 : Int), (4 : Int), (5 : Int)]))]]
theorem spec_diUnit.run (n : Nat) :
    run1 spec_diUnit.cfg [RK.agg [LK.int IntKind.i64, LK.int IntKind.i64, LK.int IntKind.i64, LK.int IntKind.i64, LK.int IntKind.i64, LK.int IntKind.i64]] n Try.f10 [] = spec_diUnit.res n := by kernel_rfl
theorem spec_diUnit.ev {n : Nat}  {r : List Q} (h : spec_diUnit.res n  = some r) : Snd Try.prog C0 10 [] r :=
  snd_ev (C := spec_diUnit.cfg) cfg0 mix rfl rfl rfl rfl rfl (.cons spec_diOf.ok .nil) .nil rfl Try.func10 (by kernel_rfl) (by kernel_rfl) rfl ((spec_diUnit.run n ).trans h)

def spec_diUnit.stub : Stub
  | [] => .ret [.agg (dieC.enc Sp.unitD)]
  | _ => .fail
theorem spec_diUnit.ok : StubOk Try.prog C0 10 spec_diUnit.stub := by
  intro args res h
  unfold spec_diUnit.stub at h
  split at h
  · cases h; exact spec_diUnit.ev (n := 0) rfl
  · cases h
/-! spec_diDirs -/
noncomputable def spec_diDirs.cfg : Cfg := { C0 with keep := fun _ => none, nb := 0, M := tabM [], MM := tabB [] }
noncomputable def spec_diDirs.res (n : Nat) : Option (List Q) :=
  some [Q.one (D.str (ByteArray.mk #[(110 : UInt8), (101 : UInt8), (115 : UInt8), (119 : UInt8)]))]
theorem spec_diDirs.run (n : Nat) :
    run1 spec_diDirs.cfg [RK.one LK.str] n Try.f31 [] = spec_diDirs.res n := by kernel_rfl
theorem spec_diDirs.ev {n : Nat}  {r : List Q} (h : spec_diDirs.res n  = some r) : Snd Try.prog C0 31 [] r :=
  snd_ev (C := spec_diDirs.cfg) cfg0 mix rfl rfl rfl rfl rfl .nil .nil rfl Try.func31 (by kernel_rfl) (by kernel_rfl) rfl ((spec_diDirs.run n ).trans h)

def spec_diDirs.stub : Stub
  | [] => .ret [.one (.str ⟨#[110, 101, 115, 119]⟩)]
  | _ => .fail
theorem spec_diDirs.ok : StubOk Try.prog C0 31 spec_diDirs.stub := by
  intro args res h
  unfold spec_diDirs.stub at h
  split at h
  · cases h; exact spec_diDirs.ev (n := 0) rfl
  · cases h
/-! spec_diRoll -/
noncomputable def spec_diRoll.cfg : Cfg := { C0 with keep := fun _ => none, nb := 0, M := tabM [], MM := tabB [] }
noncomputable def spec_diRoll.res (n : Nat) (a0_0 : Int) (a0_1 : Int) (a0_2 : Int) (a0_3 : Int) (a0_4 : Int) (a0_5 : Int) (a1 : Int) : Option (List Q) :=
  bif a1 == (0 : Int) then some [Q.agg [D.int IntKind.i64 a0_3, D.int IntKind.i64 a0_0, D.int IntKind.i64 a0_2, D.int IntKind.i64 a0_5, D.int IntKind.i64 a0_4, D.int IntKind.i64 a0_1]] else bif a1 == (1 : Int) then some [Q.agg [D.int IntKind.i64 a0_4, D.int IntKind.i64 a0_1, D.int IntKind.i64 a0_0, D.int IntKind.i64 a0_3, D.int IntKind.i64 a0_5, D.int IntKind.i64 a0_2]] else bif a1 == (2 : Int) then some [Q.agg [D.int IntKind.i64 a0_1, D.int IntKind.i64 a0_5, D.int IntKind.i64 a0_2, D.int IntKind.i64 a0_0, D.int IntKind.i64 a0_4, D.int IntKind.i64 a0_3]] else some [Q.agg [D.int IntKind.i64 a0_2, D.int IntKind.i64 a0_1, D.int IntKind.i64 a0_5, D.int IntKind.i64 a0_3, D.int IntKind.i64 a0_0, D.int IntKind.i64 a0_4]]
theorem spec_diRoll.run (n : Nat) (a0_0 : Int) (a0_1 : Int) (a0_2 : Int) (a0_3 : Int) (a0_4 : Int) (a0_5 : Int) (a1 : Int) :
    run1 spec_diRoll.cfg [RK.agg [LK.int IntKind.i64, LK.int IntKind.i64, LK.int IntKind.i64, LK.int IntKind.i64, LK.int IntKind.i64, LK.int IntKind.i64]] n Try.f30 [Q.agg [D.int IntKind.i64 a0_0, D.int IntKind.i64 a0_1, D.int IntKind.i64 a0_2, D.int IntKind.i64 a0_3, D.int IntKind.i64 a0_4, D.int IntKind.i64 a0_5], Q.one (D.int IntKind.i64 a1)] = spec_diRoll.res n a0_0 a0_1 a0_2 a0_3 a0_4 a0_5 a1 := by kernel_rfl
theorem spec_diRoll.ev {n : Nat} {a0_0 : Int} {a0_1 : Int} {a0_2 : Int} {a0_3 : Int} {a0_4 : Int} {a0_5 : Int} {a1 : Int} {r : List Q} (h : spec_diRoll.res n a0_0 a0_1 a0_2 a0_3 a0_4 a0_5 a1 = some r) : Snd Try.prog C0 30 [.agg [.int .i64 a0_0, .int .i64 a0_1, .int .i64 a0_2, .int .i64 a0_3, .int .i64 a0_4, .int .i64 a0_5], .one (.int .i64 a1)] r :=
  snd_ev (C := spec_diRoll.cfg) cfg0 mix rfl rfl rfl rfl rfl .nil .nil rfl Try.func30 (by kernel_rfl) (by kernel_rfl) rfl ((spec_diRoll.run n a0_0 a0_1 a0_2 a0_3 a0_4 a0_5 a1).trans h)

def spec_diRoll.stub : Stub
  | [.agg [.int .i64 t, .int .i64 n, .int .i64 e, .int .i64 s, .int .i64 w, .int .i64 b], .one (.int .i64 k)] => .ret [.agg (dieC.enc (Sp.roll ⟨t, n, e, s, w, b⟩ k))]
  | _ => .fail
theorem spec_diRoll.ok : StubOk Try.prog C0 30 spec_diRoll.stub := by
  intro args res h
  unfold spec_diRoll.stub at h
  split at h
  · rename_i k
    cases h
    refine spec_diRoll.ev (n := 0) ?_
    unfold spec_diRoll.res Sp.roll
    simp only [ieq]
    cases decide (k = 0) <;> cases decide (k = 1) <;> cases decide (k = 2) <;> rfl
  · cases h
/-! spec_diSearch -/
noncomputable def spec_diSearch.cfg : Cfg := { C0 with keep := fun | 3 => some [4, 5, 6] | 6 => some [4, 5, 6, 7] | 11 => some [4, 5, 6, 7, 8, 9, 31, 32, 33] | _ => none, nb := 0, M := tabM [(30, spec_diRoll.stub), (31, spec_diDirs.stub)], MM := tabB [] }
noncomputable def spec_diSearch.l3 (n : Nat) (m3 : Nat) (i0 : Int) (l1 : List (List D)) (l2 : List (List D)) : Option (List Q) :=
  loopAt spec_diSearch.cfg [RK.own (6 : Nat), RK.own (1 : Nat)] n Try.f20 [1, 1, 0, 1, 0] [] m3 (St.mk [V.undef, V.undef, V.undef, V.undef, V.rw (0 : Nat), V.rw (1 : Nat), V.one true (D.int IntKind.i64 i0), V.undef, V.undef, V.undef, V.undef, V.undef, V.undef, V.undef, V.undef, V.undef, V.undef, V.undef, V.undef, V.undef, V.undef, V.undef, V.undef, V.undef, V.undef, V.undef, V.undef, V.undef, V.undef, V.undef, V.undef, V.undef, V.undef, V.undef, V.undef, V.undef, V.undef, V.undef, V.undef, V.undef, V.undef, V.undef, V.undef, V.undef, V.undef, V.undef, V.undef, V.undef, V.undef, V.undef, V.undef, V.undef, V.undef, V.undef, V.undef, V.undef, V.undef, V.undef, V.undef, V.undef, V.undef, V.undef, V.undef, V.undef, V.undef] [Ob.row false (6 : Nat) l1, Ob.row false (1 : Nat) l2])
noncomputable def spec_diSearch.l6 (n : Nat) (m3 : Nat) (m6 : Nat) (i0 : Int) (i1 : Int) (l2 : List (List D)) (l3 : List (List D)) : Option (List Q) :=
  loopAt spec_diSearch.cfg [RK.own (6 : Nat), RK.own (1 : Nat)] n Try.f20 [1, 1, 0, 1, 0, 0, 1, 0, 0, 1, 0] [m3] m6 (St.mk [V.undef, V.undef, V.undef, V.undef, V.rw (0 : Nat), V.rw (1 : Nat), V.one true (D.int IntKind.i64 i0), V.one true (D.int IntKind.i64 i1), V.undef, V.undef, V.undef, V.undef, V.undef, V.undef, V.undef, V.undef, V.undef, V.undef, V.undef, V.undef, V.undef, V.undef, V.undef, V.undef, V.undef, V.undef, V.undef, V.undef, V.undef, V.undef, V.undef, V.undef, V.undef, V.undef, V.undef, V.undef, V.undef, V.undef, V.undef, V.undef, V.undef, V.undef, V.undef, V.undef, V.undef, V.undef, V.undef, V.undef, V.undef, V.undef, V.undef, V.undef, V.undef, V.undef, V.undef, V.undef, V.undef, V.undef, V.undef, V.undef, V.undef, V.undef, V.undef, V.undef, V.undef] [Ob.row false (6 : Nat) l2, Ob.row false (1 : Nat) l3])
noncomputable def spec_diSearch.l11 (n : Nat) (m3 : Nat) (m6 : Nat) (m11 : Nat) (i0 : Int) (i1 : Int) (b2 : Bool) (i3 : Int) (i4 : Int) (l5 : List (List D)) (l6 : List (List D)) (i7 : Int) (i8 : Int) (i9 : Int) (i10 : Int) (i11 : Int) (i12 : Int) : Option (List Q) :=
  loopAt spec_diSearch.cfg [RK.own (6 : Nat), RK.own (1 : Nat)] n Try.f20 [1, 1, 0, 1, 0, 0, 1, 0, 0, 1, 0, 0, 1, 0, 0, 1, 1, 0, 1, 0] [m3, m6] m11 (St.mk [V.undef, V.undef, V.undef, V.undef, V.rw (0 : Nat), V.rw (1 : Nat), V.one true (D.int IntKind.i64 i0), V.one true (D.int IntKind.i64 i1), V.rp (2 : Nat) (0 : Nat), V.one true (D.bool b2), V.undef, V.undef, V.undef, V.undef, V.undef, V.undef, V.undef, V.undef, V.undef, V.undef, V.undef, V.undef, V.undef, V.undef, V.undef, V.undef, V.undef, V.undef, V.undef, V.undef, V.undef, V.rw (0 : Nat), V.one true (D.int IntKind.i64 i3), V.one true (D.int IntKind.i64 i4), V.undef, V.undef, V.undef, V.undef, V.undef, V.undef, V.undef, V.undef, V.undef, V.undef, V.undef, V.undef, V.undef, V.undef, V.undef, V.undef, V.undef, V.undef, V.undef, V.undef, V.undef, V.undef, V.undef, V.undef, V.undef, V.undef, V.undef, V.undef, V.undef, V.undef, V.undef] [Ob.row false (6 : Nat) l5, Ob.row false (1 : Nat) l6, Ob.box [V.one true (D.int IntKind.i64 i7), V.one true (D.int IntKind.i64 i8), V.one true (D.int IntKind.i64 i9), V.one true (D.int IntKind.i64 i10), V.one true (D.int IntKind.i64 i11), V.one true (D.int IntKind.i64 i12)]])
theorem spec_diSearch.l3_eq (n : Nat) (m3 : Nat) (i0 : Int) (l1 : List (List D)) (l2 : List (List D)) :
    spec_diSearch.l3 n (m3 + 1) i0 l1 l2 = bif decide (i0 < (↑(List.length l1) : Int)) then spec_diSearch.l6 n m3 n i0 (0 : Int) l1 l2 else some [Q.one (D.sl (6 : Nat) l1), Q.one (D.sl (1 : Nat) l2)] := by kernel_rfl
theorem spec_diSearch.l6_eq (n : Nat) (m3 : Nat) (m6 : Nat) (i0 : Int) (i1 : Int) (l2 : List (List D)) (l3 : List (List D)) :
    spec_diSearch.l6 n m3 (m6 + 1) i0 i1 l2 l3 = bif decide (i1 < (4 : Int)) then bif decide ((0 : Int) ≤ i0) then bif decide (i0 < (↑(List.length l2) : Int)) then Option.bind (Option.bind (some (cellD l2 (Int.toNat i0) (0 : Nat))) (D.int? IntKind.i64)) fun (i1_1 : Int) => Option.bind (Option.bind (some (cellD l2 (Int.toNat i0) (1 : Nat))) (D.int? IntKind.i64)) fun (i2 : Int) => Option.bind (Option.bind (some (cellD l2 (Int.toNat i0) (2 : Nat))) (D.int? IntKind.i64)) fun (i3 : Int) => Option.bind (Option.bind (some (cellD l2 (Int.toNat i0) (3 : Nat))) (D.int? IntKind.i64)) fun (i4 : Int) => Option.bind (Option.bind (some (cellD l2 (Int.toNat i0) (4 : Nat))) (D.int? IntKind.i64)) fun (i5 : Int) => Option.bind (Option.bind (some (cellD l2 (Int.toNat i0) (5 : Nat))) (D.int? IntKind.i64)) fun (i6 : Int) => spec_diSearch.l11 n m3 m6 n i0 i1 false (↑(List.length l2) : Int) (0 : Int) l2 l3 (Die.t (roll (Die.mk i1_1 i2 i3 i4 i5 i6) i1)) (Die.n (roll (Die.mk i1_1 i2 i3 i4 i5 i6) i1)) (Die.e (roll (Die.mk i1_1 i2 i3 i4 i5 i6) i1)) (Die.s (roll (Die.mk i1_1 i2 i3 i4 i5 i6) i1)) (Die.w (roll (Die.mk i1_1 i2 i3 i4 i5 i6) i1)) (Die.b (roll (Die.mk i1_1 i2 i3 i4 i5 i6) i1)) else none else none else spec_diSearch.l3 n m3 (IntKind.wrap IntKind.i64 (i0 + (1 : Int))) l2 l3 := by kernel_rfl
theorem spec_diSearch.l11_eq (n : Nat) (m3 : Nat) (m6 : Nat) (m11 : Nat) (i0 : Int) (i1 : Int) (b2 : Bool) (i3 : Int) (i4 : Int) (l5 : List (List D)) (l6 : List (List D)) (i7 : Int) (i8 : Int) (i9 : Int) (i10 : Int) (i11 : Int) (i12 : Int) :
    spec_diSearch.l11 n m3 m6 (m11 + 1) i0 i1 b2 i3 i4 l5 l6 i7 i8 i9 i10 i11 i12 = bif decide (i4 < i3) then bif decide ((0 : Int) ≤ i4) then bif decide (i4 < (↑(List.length l5) : Int)) then Option.bind (Option.bind (some (cellD l5 (Int.toNat i4) (0 : Nat))) (D.int? IntKind.i64)) fun (i7_1 : Int) => Option.bind (Option.bind (some (cellD l5 (Int.toNat i4) (1 : Nat))) (D.int? IntKind.i64)) fun (i8_1 : Int) => Option.bind (Option.bind (some (cellD l5 (Int.toNat i4) (2 : Nat))) (D.int? IntKind.i64)) fun (i9_1 : Int) => Option.bind (Option.bind (some (cellD l5 (Int.toNat i4) (3 : Nat))) (D.int? IntKind.i64)) fun (i10_1 : Int) => Option.bind (Option.bind (some (cellD l5 (Int.toNat i4) (4 : Nat))) (D.int? IntKind.i64)) fun (i11_1 : Int) => Option.bind (Option.bind (some (cellD l5 (Int.toNat i4) (5 : Nat))) (D.int? IntKind.i64)) fun (i12_1 : Int) => bif b2 then spec_diSearch.l11 n m3 m6 m11 i0 i1 true i3 (IntKind.wrap IntKind.i64 (i4 + (1 : Int))) l5 l6 i7 i8 i9 i10 i11 i12 else spec_diSearch.l11 n m3 m6 m11 i0 i1 (i7_1 == i7 && (i8_1 == i8 && (i9_1 == i9 && (i10_1 == i10 && (i11_1 == i11 && i12_1 == i12))))) i3 (IntKind.wrap IntKind.i64 (i4 + (1 : Int))) l5 l6 i7 i8 i9 i10 i11 i12 else none else none else bif !b2 then bif decide (List.length l5 + (1 : Nat) ≤ (17179869184 : Nat)) then bif decide ((0 : Int) ≤ i0) then bif decide (i0 < (↑(List.length l6) : Int)) then Option.bind (Option.bind (some (cellD l6 (Int.toNat i0) (0 : Nat))) D.str?) fun (s13 : ByteArray) => bif decide ((0 : Int) ≤ IntKind.wrap IntKind.i64 (i1 + (1 : Int))) then bif decide (IntKind.wrap IntKind.i64 (i1 + (1 : Int)) ≤ (4 : Int)) then bif decide ((0 : Int) ≤ i1) then bif decide (i1 ≤ (↑(Int.toNat (IntKind.wrap IntKind.i64 (i1 + (1 : Int)))) : Int)) then bif decide (ByteArray.size s13 + ByteArray.size (ByteArray.extract (ByteArray.mk #[(110 : UInt8), (101 : UInt8), (115 : UInt8), (119 : UInt8)]) (Int.toNat i1) (Int.toNat (IntKind.wrap IntKind.i64 (i1 + (1 : Int))))) ≤ (17179869184 : Nat)) then bif decide (List.length l6 + (1 : Nat) ≤ (17179869184 : Nat)) then spec_diSearch.l6 n m3 m6 i0 (IntKind.wrap IntKind.i64 (i1 + (1 : Int))) (l5 ++ [[D.int IntKind.i64 i7, D.int IntKind.i64 i8, D.int IntKind.i64 i9, D.int IntKind.i64 i10, D.int IntKind.i64 i11, D.int IntKind.i64 i12]]) (l6 ++ [[D.str (s13 ++ ByteArray.extract (ByteArray.mk #[(110 : UInt8), (101 : UInt8), (115 : UInt8), (119 : UInt8)]) (Int.toNat i1) (Int.toNat (IntKind.wrap IntKind.i64 (i1 + (1 : Int)))))]]) else none else none else none else none else none else none else none else none else none else spec_diSearch.l6 n m3 m6 i0 (IntKind.wrap IntKind.i64 (i1 + (1 : Int))) l5 l6 := by kernel_rfl
noncomputable def spec_diSearch.res (n : Nat) (a0_0 : Int) (a0_1 : Int) (a0_2 : Int) (a0_3 : Int) (a0_4 : Int) (a0_5 : Int) : Option (List Q) :=
  spec_diSearch.l3 n n (0 : Int) [[D.int IntKind.i64 a0_0, D.int IntKind.i64 a0_1, D.int IntKind.i64 a0_2, D.int IntKind.i64 a0_3, D.int IntKind.i64 a0_4, D.int IntKind.i64 a0_5]] [[D.str (ByteArray.mk #[])]]
theorem spec_diSearch.run (n : Nat) (a0_0 : Int) (a0_1 : Int) (a0_2 : Int) (a0_3 : Int) (a0_4 : Int) (a0_5 : Int) :
    run1 spec_diSearch.cfg [RK.own (6 : Nat), RK.own (1 : Nat)] n Try.f20 [Q.agg [D.int IntKind.i64 a0_0, D.int IntKind.i64 a0_1, D.int IntKind.i64 a0_2, D.int IntKind.i64 a0_3, D.int IntKind.i64 a0_4, D.int IntKind.i64 a0_5]] = spec_diSearch.res n a0_0 a0_1 a0_2 a0_3 a0_4 a0_5 := by kernel_rfl
theorem spec_diSearch.ev {n : Nat} {a0_0 : Int} {a0_1 : Int} {a0_2 : Int} {a0_3 : Int} {a0_4 : Int} {a0_5 : Int} {r : List Q} (h : spec_diSearch.res n a0_0 a0_1 a0_2 a0_3 a0_4 a0_5 = some r) : Snd Try.prog C0 20 [.agg [.int .i64 a0_0, .int .i64 a0_1, .int .i64 a0_2, .int .i64 a0_3, .int .i64 a0_4, .int .i64 a0_5]] r :=
  snd_ev (C := spec_diSearch.cfg) cfg0 mix rfl rfl rfl rfl rfl (.cons spec_diRoll.ok (.cons spec_diDirs.ok .nil)) .nil rfl Try.func20 (by kernel_rfl) (by kernel_rfl) rfl ((spec_diSearch.run n a0_0 a0_1 a0_2 a0_3 a0_4 a0_5).trans h)

theorem ext_dir {k : Nat} (h : k < 4) : (ByteArray.mk #[(110 : UInt8), (101 : UInt8), (115 : UInt8), (119 : UInt8)]).extract k (k + 1) = dirStr k := by
  rcases (show k = 0 ∨ k = 1 ∨ k = 2 ∨ k = 3 by omega) with rfl | rfl | rfl | rfl <;> decide
theorem dir_size (k : Nat) : (dirStr k).size = 1 := rfl
/-- The words are short. -/
def Shortw (st : List Die × List ByteArray) : Prop := ∀ s ∈ st.2, s.size < st.2.length
theorem look_short {k dir : Nat} {st : List Die × List ByteArray} (h : Shortw st) (hk : k < st.2.length) : Shortw (Sp.look k dir st) := by
  unfold Sp.look
  cases st.1.contains (roll (st.1.getD k default) dir) with
  | true => exact h
  | false =>
    intro s hs
    simp only [cond_false, List.mem_append, List.mem_singleton, List.length_append, List.length_singleton] at hs ⊢
    rcases hs with hs | rfl
    · have := h s hs; omega
    · rw [getD_of_lt hk, ByteArray.size_append, dir_size]
      have := h _ (List.getElem_mem hk)
      omega
theorem beq_dec (a b : Die) : (a == b) = decide (b = a) := by
  by_cases h : b = a
  · simp [h]
  · have h' : ¬ a = b := fun e => h e.symm
    simp [h, h']
theorem spec_diSearch.l11_run {n m3 m6 : Nat} {st : List Die × List ByteArray} {k dir : Nat} {x : Die} (hl : st.1.length ≤ 24) (hw : st.2.length = st.1.length) (hk : k < st.1.length) (hd : dir < 4) (hs : Shortw st) : ∀ (d j m : Nat) (g : Bool), j + d = st.1.length → d < m →
    spec_diSearch.l11 n m3 m6 m k dir g st.1.length j (dieC.encs st.1) (strC.encs st.2) x.t x.n x.e x.s x.w x.b =
      spec_diSearch.l6 n m3 m6 k (dir + 1 : Nat) (dieC.encs (bif g || (st.1.drop j).contains x then st.1 else st.1 ++ [x])) (strC.encs (bif g || (st.1.drop j).contains x then st.2 else st.2 ++ [st.2.getD k ⟨#[]⟩ ++ dirStr dir])) := by
  intro d
  induction d with
  | zero =>
    intro j m g hj hm
    obtain ⟨m, rfl⟩ : ∃ m', m = m' + 1 := ⟨m - 1, by omega⟩
    obtain rfl : j = st.1.length := by omega
    have h1 : ¬ (st.1.length : Int) < st.1.length := by omega
    have hk2 : k < st.2.length := by omega
    rw [spec_diSearch.l11_eq, List.drop_length, wrap_succ (show dir ≤ LIM by unfold LIM; omega)]
    simp only [h1, decide_false, cond_false, List.contains_nil, Bool.or_false]
    cases g with
    | true => rfl
    | false =>
      have g1 : (dir : Int) ≤ ((dir + 1 : Nat) : Int) := by omega
      have g2 : ((dir + 1 : Nat) : Int) ≤ 4 := by omega
      have g3 : st.1.length + 1 ≤ 17179869184 := by omega
      have g4 : st.2.length + 1 ≤ 17179869184 := by omega
      have g5 := hs _ (List.getElem_mem hk2)
      have g6 : st.2[k].size + (dirStr dir).size ≤ 17179869184 := by rw [dir_size]; omega
      simp only [Bool.not_false, cond_true, cond_false, Cod.encs_len, g3, g4, decide_true, Int.natCast_nonneg, Int.ofNat_lt, hk2, Int.toNat_natCast, strC_cell hk2, Option.bind_some, g1, g2, ext_dir hd, g6, strC_snoc, dieC_snoc, getD_of_lt hk2]
  | succ d ih =>
    intro j m g hj hm
    obtain ⟨m, rfl⟩ : ∃ m', m = m' + 1 := ⟨m - 1, by omega⟩
    have hlt : j < st.1.length := by omega
    rw [spec_diSearch.l11_eq, List.drop_eq_getElem_cons hlt]
    simp only [Cod.encs_len, Int.ofNat_lt, hlt, decide_true, cond_true, Int.natCast_nonneg, Int.toNat_natCast, dieC_t' hlt, dieC_n' hlt, dieC_e' hlt, dieC_s' hlt, dieC_w' hlt, dieC_b' hlt, Option.bind_some, wrap_succ (show j ≤ LIM by unfold LIM; omega), die_beq]
    rw [ih (j + 1) m _ (by omega) (by omega), ih (j + 1) m _ (by omega) (by omega), List.contains_cons, beq_dec x st.1[j]]
    cases g
    · simp only [Bool.false_or, cond_false]
    · simp only [Bool.true_or, cond_true]
theorem spec_diSearch.l6_step {n m3 : Nat} {st : List Die × List ByteArray} {k dir m : Nat} (hl : st.1.length ≤ 24) (hw : st.2.length = st.1.length) (hk : k < st.1.length) (hd : dir < 4) (hs : Shortw st) (hn : 24 < n) :
    spec_diSearch.l6 n m3 (m + 1) k dir (dieC.encs st.1) (strC.encs st.2) = spec_diSearch.l6 n m3 m k (dir + 1 : Nat) (dieC.encs (Sp.look k dir st).1) (strC.encs (Sp.look k dir st).2) := by
  have h4 : (dir : Int) < 4 := by omega
  rw [spec_diSearch.l6_eq]
  simp only [h4, Cod.encs_len, Int.ofNat_lt, hk, decide_true, cond_true, Int.natCast_nonneg, Int.toNat_natCast, dieC_t' hk, dieC_n' hk, dieC_e' hk, dieC_s' hk, dieC_w' hk, dieC_b' hk, Option.bind_some, Die.eta]
  have e := spec_diSearch.l11_run (n := n) (m3 := m3) (m6 := m) (st := st) (k := k) (dir := dir) (x := roll st.1[k] dir) hl hw hk hd hs st.1.length 0 n false (by omega) (by omega)
  rw [show ((0 : Nat) : Int) = 0 from rfl, List.drop_zero, Bool.false_or] at e
  rw [e]
  unfold Sp.look
  rw [getD_of_lt hk]
  cases st.1.contains (roll st.1[k] dir) <;> rfl
theorem spec_diSearch.l6_run {n m3 : Nat} {d : Die} {st : List Die × List ByteArray} {k m : Nat} (hf : Sp.Found d st) (hk : k < st.1.length) (hs : Shortw st) (hn : 24 < n) (hm : 4 < m) :
    spec_diSearch.l6 n m3 m k 0 (dieC.encs st.1) (strC.encs st.2) = spec_diSearch.l3 n m3 (k + 1 : Nat) (dieC.encs (look4 k st).1) (strC.encs (look4 k st).2) := by
  obtain ⟨m, rfl⟩ : ∃ m', m = m' + 5 := ⟨m - 5, by omega⟩
  have hl : ∀ (st : List Die × List ByteArray) dir, k < st.1.length → k < (Sp.look k dir st).1.length := by
    intro st dir h
    obtain ⟨a, b, e⟩ := look_grow k dir st
    rw [e]; simp; omega
  have f0 := look_found hf hk (show 0 < 4 by decide)
  have k0 := hl st 0 hk
  have s0 := look_short (dir := 0) hs (by rw [hf.len]; exact hk)
  have f1 := look_found f0 k0 (show 1 < 4 by decide)
  have k1 := hl _ 1 k0
  have s1 := look_short (dir := 1) s0 (by rw [f0.len]; exact k0)
  have f2 := look_found f1 k1 (show 2 < 4 by decide)
  have k2 := hl _ 2 k1
  have s2 := look_short (dir := 2) s1 (by rw [f1.len]; exact k1)
  have f3 := look_found f2 k2 (show 3 < 4 by decide)
  rw [show (0 : Int) = ((0 : Nat) : Int) from rfl, spec_diSearch.l6_step hf.le hf.len hk (by decide) hs hn, spec_diSearch.l6_step f0.le f0.len k0 (by decide) s0 hn, spec_diSearch.l6_step f1.le f1.len k1 (by decide) s1 hn, spec_diSearch.l6_step f2.le f2.len k2 (by decide) s2 hn]
  have h4 := f3.le
  have hk3 : k ≤ LIM := by unfold LIM; have := hf.le; omega
  rw [spec_diSearch.l6_eq]
  have g : ¬ ((3 + 1 : Nat) : Int) < 4 := by decide
  simp only [g, decide_false, cond_false, wrap_succ hk3]
  rfl
theorem look4_short {d : Die} {st : List Die × List ByteArray} {k : Nat} (hf : Sp.Found d st) (hk : k < st.1.length) (hs : Shortw st) : Shortw (look4 k st) := by
  have hl : ∀ (st : List Die × List ByteArray) dir, k < st.2.length → k < (Sp.look k dir st).2.length := by
    intro st dir h
    obtain ⟨a, b, e⟩ := look_grow k dir st
    rw [e]; simp; omega
  have h : k < st.2.length := by rw [hf.len]; exact hk
  exact look_short (look_short (look_short (look_short hs h) (hl _ _ h)) (hl _ _ (hl _ _ h))) (hl _ _ (hl _ _ (hl _ _ h)))
theorem spec_diSearch.l3_run {n : Nat} {d : Die} (hn : 24 < n) : ∀ (q k m : Nat) (st : List Die × List ByteArray), Sp.Found d st → Shortw st → k ≤ st.1.length → 25 ≤ q + k → q < m →
    spec_diSearch.l3 n m k (dieC.encs st.1) (strC.encs st.2) = some [Q.one (.sl 6 (dieC.encs (searchFrom q k st).1)), Q.one (.sl 1 (strC.encs (searchFrom q k st).2))] := by
  intro q
  induction q with
  | zero => intro k m st hf hs hk hq hm; have := hf.le; omega
  | succ q ih =>
    intro k m st hf hs hk hq hm
    obtain ⟨m, rfl⟩ : ∃ m', m = m' + 1 := ⟨m - 1, by omega⟩
    rw [spec_diSearch.l3_eq, searchFrom]
    simp only [Cod.encs_len, Int.ofNat_lt]
    by_cases h : k < st.1.length
    · simp only [h, decide_true, cond_true]
      rw [spec_diSearch.l6_run hf h hs hn (by omega)]
      refine ih (k + 1) m _ (look4_found hf h) (look4_short hf h hs) ?_ (by omega) (by omega)
      obtain ⟨a, b, e⟩ := look4_grow k st
      rw [e]; simp; omega
    · simp only [h, decide_false, cond_false]
def spec_diSearch.stub : Stub
  | [.agg [.int .i64 t, .int .i64 n, .int .i64 e, .int .i64 s, .int .i64 w, .int .i64 b]] => .ret [.one (.sl 6 (dieC.encs (Sp.search ⟨t, n, e, s, w, b⟩).1)), .one (.sl 1 (strC.encs (Sp.search ⟨t, n, e, s, w, b⟩).2))]
  | _ => .fail
theorem spec_diSearch.ok : StubOk Try.prog C0 20 spec_diSearch.stub := by
  intro args res h
  unfold spec_diSearch.stub at h
  split at h
  · rename_i t n e s w b
    cases h
    refine spec_diSearch.ev (n := 100) ?_
    exact spec_diSearch.l3_run (n := 100) (d := ⟨t, n, e, s, w, b⟩) (by omega) 30 0 100 ([⟨t, n, e, s, w, b⟩], [⟨#[]⟩]) (found0 _) (by intro s hs; simp at hs; subst hs; show 0 < 1; omega) (by simp) (by omega) (by omega)
  · cases h
/-! spec_diLess -/
noncomputable def spec_diLess.cfg : Cfg := { C0 with keep := fun | 3 => some [5, 6, 13, 14] | _ => none, nb := 0, M := tabM [(24, spec_diFaces.stub)], MM := tabB [] }
noncomputable def spec_diLess.l3 (n : Nat) (m3 : Nat) (i0 : Int) (i1 : Int) (l2 : List (List D)) (l3 : List (List D)) : Option (List Q) :=
  loopAt spec_diLess.cfg [RK.one LK.bool] n Try.f21 [1, 1, 0, 1, 0] [] m3 (St.mk [V.undef, V.undef, V.undef, V.undef, V.undef, V.rw (0 : Nat), V.rw (1 : Nat), V.undef, V.undef, V.undef, V.undef, V.undef, V.undef, V.one true (D.int IntKind.i64 i0), V.one true (D.int IntKind.i64 i1), V.undef, V.undef, V.undef, V.undef, V.undef, V.undef, V.undef, V.undef, V.undef, V.undef, V.undef, V.undef, V.undef, V.undef, V.undef, V.undef, V.undef, V.undef, V.undef, V.undef, V.undef] [Ob.row false (1 : Nat) l2, Ob.row false (1 : Nat) l3])
theorem spec_diLess.l3_eq (n : Nat) (m3 : Nat) (i0 : Int) (i1 : Int) (l2 : List (List D)) (l3 : List (List D)) :
    spec_diLess.l3 n (m3 + 1) i0 i1 l2 l3 = bif decide (i1 < i0) then bif decide ((0 : Int) ≤ i1) then bif decide (i1 < (↑(List.length l2) : Int)) then Option.bind (Option.bind (some (cellD l2 (Int.toNat i1) (0 : Nat))) (D.int? IntKind.i64)) fun (i1_1 : Int) => bif decide ((0 : Int) ≤ i1) then bif decide (i1 < (↑(List.length l3) : Int)) then Option.bind (Option.bind (some (cellD l3 (Int.toNat i1) (0 : Nat))) (D.int? IntKind.i64)) fun (i2 : Int) => bif i1_1 != i2 then bif decide ((0 : Int) ≤ i1) then bif decide (i1 < (↑(List.length l2) : Int)) then Option.bind (Option.bind (some (cellD l2 (Int.toNat i1) (0 : Nat))) (D.int? IntKind.i64)) fun (i3 : Int) => bif decide ((0 : Int) ≤ i1) then bif decide (i1 < (↑(List.length l3) : Int)) then Option.bind (Option.bind (some (cellD l3 (Int.toNat i1) (0 : Nat))) (D.int? IntKind.i64)) fun (i4 : Int) => some [Q.one (D.bool (decide (i3 < i4)))] else none else none else none else none else spec_diLess.l3 n m3 i0 (IntKind.wrap IntKind.i64 (i1 + (1 : Int))) l2 l3 else none else none else none else none else some [Q.one (D.bool false)] := by kernel_rfl
noncomputable def spec_diLess.res (n : Nat) (a0_0 : Int) (a0_1 : Int) (a0_2 : Int) (a0_3 : Int) (a0_4 : Int) (a0_5 : Int) (a1_0 : Int) (a1_1 : Int) (a1_2 : Int) (a1_3 : Int) (a1_4 : Int) (a1_5 : Int) : Option (List Q) :=
  spec_diLess.l3 n n (6 : Int) (0 : Int) [[D.int IntKind.i64 a0_0], [D.int IntKind.i64 a0_1], [D.int IntKind.i64 a0_2], [D.int IntKind.i64 a0_3], [D.int IntKind.i64 a0_4], [D.int IntKind.i64 a0_5]] [[D.int IntKind.i64 a1_0], [D.int IntKind.i64 a1_1], [D.int IntKind.i64 a1_2], [D.int IntKind.i64 a1_3], [D.int IntKind.i64 a1_4], [D.int IntKind.i64 a1_5]]
theorem spec_diLess.run (n : Nat) (a0_0 : Int) (a0_1 : Int) (a0_2 : Int) (a0_3 : Int) (a0_4 : Int) (a0_5 : Int) (a1_0 : Int) (a1_1 : Int) (a1_2 : Int) (a1_3 : Int) (a1_4 : Int) (a1_5 : Int) :
    run1 spec_diLess.cfg [RK.one LK.bool] n Try.f21 [Q.agg [D.int IntKind.i64 a0_0, D.int IntKind.i64 a0_1, D.int IntKind.i64 a0_2, D.int IntKind.i64 a0_3, D.int IntKind.i64 a0_4, D.int IntKind.i64 a0_5], Q.agg [D.int IntKind.i64 a1_0, D.int IntKind.i64 a1_1, D.int IntKind.i64 a1_2, D.int IntKind.i64 a1_3, D.int IntKind.i64 a1_4, D.int IntKind.i64 a1_5]] = spec_diLess.res n a0_0 a0_1 a0_2 a0_3 a0_4 a0_5 a1_0 a1_1 a1_2 a1_3 a1_4 a1_5 := by kernel_rfl
theorem spec_diLess.ev {n : Nat} {a0_0 : Int} {a0_1 : Int} {a0_2 : Int} {a0_3 : Int} {a0_4 : Int} {a0_5 : Int} {a1_0 : Int} {a1_1 : Int} {a1_2 : Int} {a1_3 : Int} {a1_4 : Int} {a1_5 : Int} {r : List Q} (h : spec_diLess.res n a0_0 a0_1 a0_2 a0_3 a0_4 a0_5 a1_0 a1_1 a1_2 a1_3 a1_4 a1_5 = some r) : Snd Try.prog C0 21 [.agg [.int .i64 a0_0, .int .i64 a0_1, .int .i64 a0_2, .int .i64 a0_3, .int .i64 a0_4, .int .i64 a0_5], .agg [.int .i64 a1_0, .int .i64 a1_1, .int .i64 a1_2, .int .i64 a1_3, .int .i64 a1_4, .int .i64 a1_5]] r :=
  snd_ev (C := spec_diLess.cfg) cfg0 mix rfl rfl rfl rfl rfl (.cons spec_diFaces.ok .nil) .nil rfl Try.func21 (by kernel_rfl) (by kernel_rfl) rfl ((spec_diLess.run n a0_0 a0_1 a0_2 a0_3 a0_4 a0_5 a1_0 a1_1 a1_2 a1_3 a1_4 a1_5).trans h)

def spec_diLess.stub : Stub
  | [.agg [.int .i64 t, .int .i64 n, .int .i64 e, .int .i64 s, .int .i64 w, .int .i64 b], .agg [.int .i64 t', .int .i64 n', .int .i64 e', .int .i64 s', .int .i64 w', .int .i64 b']] => .ret [.one (.bool (Sp.less ⟨t, n, e, s, w, b⟩ ⟨t', n', e', s', w', b'⟩))]
  | _ => .fail
theorem spec_diLess.loop {n : Nat} {a b : List Int} (hl : a.length ≤ LIM) (he : a.length = b.length) : ∀ (d k m : Nat), k + d = a.length → d < m → spec_diLess.l3 n m a.length k (intC.encs a) (intC.encs b) = some [Q.one (.bool (lessL (a.drop k) (b.drop k)))] := by
  intro d
  induction d with
  | zero =>
    intro k m hk hm
    obtain ⟨m, rfl⟩ : ∃ m', m = m' + 1 := ⟨m - 1, by omega⟩
    obtain rfl : k = a.length := by omega
    simp [spec_diLess.l3_eq, he, lessL]
  | succ d ih =>
    intro k m hk hm
    obtain ⟨m, rfl⟩ : ∃ m', m = m' + 1 := ⟨m - 1, by omega⟩
    have hlt : k < a.length := by omega
    have hlt' : k < b.length := by omega
    rw [spec_diLess.l3_eq, List.drop_eq_getElem_cons hlt, List.drop_eq_getElem_cons hlt', lessL]
    simp only [Cod.encs_len, Int.ofNat_lt, hlt, hlt', decide_true, cond_true, Int.natCast_nonneg, Int.toNat_natCast, intC_int' hlt, intC_int' hlt', Option.bind_some, wrap_succ (show k ≤ LIM by omega), ih (k + 1) m (by omega) (by omega), ine]
    by_cases h : a[k] = b[k] <;> simp only [h, decide_true, decide_false, Bool.not_true, Bool.not_false, cond_true, cond_false]
theorem spec_diLess.ok : StubOk Try.prog C0 21 spec_diLess.stub := by
  intro args res h
  unfold spec_diLess.stub at h
  split at h
  · rename_i t n e s w b t' n' e' s' w' b'
    cases h
    refine spec_diLess.ev (n := 10) ?_
    exact spec_diLess.loop (n := 10) (a := [t, n, e, s, w, b]) (b := [t', n', e', s', w', b']) (by show 6 ≤ LIM; decide) rfl 6 0 10 (by simp) (by omega)
  · cases h
/-! spec_diWays -/
noncomputable def spec_diWays.cfg : Cfg := { C0 with keep := fun | 4 => some [5, 15, 16, 17] | 7 => some [5, 7, 8, 15, 16, 17] | _ => none, nb := 0, M := tabM [(20, spec_diSearch.stub), (21, spec_diLess.stub)], MM := tabB [] }
noncomputable def spec_diWays.l4 (n : Nat) (m4 : Nat) (i0 : Int) (i1 : Int) (l2 : List (List D)) (l3 : List (List D)) : Option (List Q) :=
  loopAt spec_diWays.cfg [RK.own (6 : Nat)] n Try.f9 [1, 1, 1, 0, 1, 0] [] m4 (St.mk [V.undef, V.undef, V.undef, V.undef, V.undef, V.rw (0 : Nat), V.undef, V.undef, V.undef, V.undef, V.undef, V.undef, V.undef, V.undef, V.undef, V.rw (1 : Nat), V.one true (D.int IntKind.i64 i0), V.one true (D.int IntKind.i64 i1), V.undef, V.undef, V.undef, V.undef, V.undef, V.undef, V.undef, V.undef, V.undef, V.undef, V.undef, V.undef, V.undef, V.undef, V.undef, V.undef, V.undef, V.undef, V.undef, V.undef, V.undef, V.undef, V.undef, V.undef, V.undef, V.undef, V.undef, V.undef, V.undef, V.undef, V.undef, V.undef] [Ob.row false (6 : Nat) l2, Ob.row false (6 : Nat) l3])
noncomputable def spec_diWays.l7 (n : Nat) (m4 : Nat) (m7 : Nat) (i0 : Int) (i1 : Int) (i2 : Int) (l3 : List (List D)) (i4 : Int) (i5 : Int) (i6 : Int) (i7 : Int) (i8 : Int) (i9 : Int) (l10 : List (List D)) : Option (List Q) :=
  loopAt spec_diWays.cfg [RK.own (6 : Nat)] n Try.f9 [1, 1, 1, 0, 1, 0, 0, 1, 1, 0, 0, 1, 1, 0, 0] [m4] m7 (St.mk [V.undef, V.undef, V.undef, V.undef, V.undef, V.rw (0 : Nat), V.undef, V.rp (1 : Nat) (0 : Nat), V.one true (D.int IntKind.i64 i0), V.undef, V.undef, V.undef, V.undef, V.undef, V.undef, V.rw (2 : Nat), V.one true (D.int IntKind.i64 i1), V.one true (D.int IntKind.i64 i2), V.undef, V.undef, V.undef, V.undef, V.undef, V.undef, V.undef, V.undef, V.undef, V.undef, V.undef, V.undef, V.undef, V.undef, V.undef, V.undef, V.undef, V.undef, V.undef, V.undef, V.undef, V.undef, V.undef, V.undef, V.undef, V.undef, V.undef, V.undef, V.undef, V.undef, V.undef, V.undef] [Ob.row false (6 : Nat) l3, Ob.box [V.one true (D.int IntKind.i64 i4), V.one true (D.int IntKind.i64 i5), V.one true (D.int IntKind.i64 i6), V.one true (D.int IntKind.i64 i7), V.one true (D.int IntKind.i64 i8), V.one true (D.int IntKind.i64 i9)], Ob.row false (6 : Nat) l10])
theorem spec_diWays.l4_eq (n : Nat) (m4 : Nat) (i0 : Int) (i1 : Int) (l2 : List (List D)) (l3 : List (List D)) :
    spec_diWays.l4 n (m4 + 1) i0 i1 l2 l3 = bif decide (i1 < i0) then bif decide ((0 : Int) ≤ i1) then bif decide (i1 < (↑(List.length l3) : Int)) then Option.bind (Option.bind (some (cellD l3 (Int.toNat i1) (0 : Nat))) (D.int? IntKind.i64)) fun (i1_1 : Int) => Option.bind (Option.bind (some (cellD l3 (Int.toNat i1) (1 : Nat))) (D.int? IntKind.i64)) fun (i2 : Int) => Option.bind (Option.bind (some (cellD l3 (Int.toNat i1) (2 : Nat))) (D.int? IntKind.i64)) fun (i3 : Int) => Option.bind (Option.bind (some (cellD l3 (Int.toNat i1) (3 : Nat))) (D.int? IntKind.i64)) fun (i4 : Int) => Option.bind (Option.bind (some (cellD l3 (Int.toNat i1) (4 : Nat))) (D.int? IntKind.i64)) fun (i5 : Int) => Option.bind (Option.bind (some (cellD l3 (Int.toNat i1) (5 : Nat))) (D.int? IntKind.i64)) fun (i6 : Int) => spec_diWays.l7 n m4 n (0 : Int) i0 i1 l2 i1_1 i2 i3 i4 i5 i6 l3 else none else none else some [Q.one (D.sl (6 : Nat) l2)] := by kernel_rfl
theorem spec_diWays.l7_eq (n : Nat) (m4 : Nat) (m7 : Nat) (i0 : Int) (i1 : Int) (i2 : Int) (l3 : List (List D)) (i4 : Int) (i5 : Int) (i6 : Int) (i7 : Int) (i8 : Int) (i9 : Int) (l10 : List (List D)) :
    spec_diWays.l7 n m4 (m7 + 1) i0 i1 i2 l3 i4 i5 i6 i7 i8 i9 l10 = bif decide (i0 < (↑(List.length l3) : Int)) then bif decide ((0 : Int) ≤ i0) then bif decide (i0 < (↑(List.length l3) : Int)) then Option.bind (Option.bind (some (cellD l3 (Int.toNat i0) (0 : Nat))) (D.int? IntKind.i64)) fun (i7_1 : Int) => Option.bind (Option.bind (some (cellD l3 (Int.toNat i0) (1 : Nat))) (D.int? IntKind.i64)) fun (i8_1 : Int) => Option.bind (Option.bind (some (cellD l3 (Int.toNat i0) (2 : Nat))) (D.int? IntKind.i64)) fun (i9_1 : Int) => Option.bind (Option.bind (some (cellD l3 (Int.toNat i0) (3 : Nat))) (D.int? IntKind.i64)) fun (i10 : Int) => Option.bind (Option.bind (some (cellD l3 (Int.toNat i0) (4 : Nat))) (D.int? IntKind.i64)) fun (i11 : Int) => Option.bind (Option.bind (some (cellD l3 (Int.toNat i0) (5 : Nat))) (D.int? IntKind.i64)) fun (i12 : Int) => bif less (Die.mk i7_1 i8_1 i9_1 i10 i11 i12) (Die.mk i4 i5 i6 i7 i8 i9) then spec_diWays.l7 n m4 m7 (IntKind.wrap IntKind.i64 (i0 + (1 : Int))) i1 i2 l3 i4 i5 i6 i7 i8 i9 l10 else bif decide ((0 : Int) ≤ i0) then bif decide (i0 ≤ (↑(List.length l3) : Int)) then bif decide ((0 : Nat) + List.length (List.take (Int.toNat i0 - (0 : Nat)) (List.drop (0 : Nat) l3)) ≤ (17179869184 : Nat)) then bif decide (List.length ([] ++ List.take (Int.toNat i0 - (0 : Nat)) (List.drop (0 : Nat) l3)) + (1 : Nat) ≤ (17179869184 : Nat)) then bif decide ((0 : Int) ≤ i0) then bif decide (i0 ≤ (↑(List.length l3) : Int)) then bif decide (List.length ([] ++ List.take (Int.toNat i0 - (0 : Nat)) (List.drop (0 : Nat) l3) ++ [[D.int IntKind.i64 i4, D.int IntKind.i64 i5, D.int IntKind.i64 i6, D.int IntKind.i64 i7, D.int IntKind.i64 i8, D.int IntKind.i64 i9]]) + List.length (List.take (List.length l3 - Int.toNat i0) (List.drop (Int.toNat i0) l3)) ≤ (17179869184 : Nat)) then spec_diWays.l4 n m4 i1 (IntKind.wrap IntKind.i64 (i2 + (1 : Int))) ([] ++ List.take (Int.toNat i0 - (0 : Nat)) (List.drop (0 : Nat) l3) ++ [[D.int IntKind.i64 i4, D.int IntKind.i64 i5, D.int IntKind.i64 i6, D.int IntKind.i64 i7, D.int IntKind.i64 i8, D.int IntKind.i64 i9]] ++ List.take (List.length l3 - Int.toNat i0) (List.drop (Int.toNat i0) l3)) l10 else none else none else none else none else none else none else none else none else none else bif decide ((0 : Int) ≤ i0) then bif decide (i0 ≤ (↑(List.length l3) : Int)) then bif decide ((0 : Nat) + List.length (List.take (Int.toNat i0 - (0 : Nat)) (List.drop (0 : Nat) l3)) ≤ (17179869184 : Nat)) then bif decide (List.length ([] ++ List.take (Int.toNat i0 - (0 : Nat)) (List.drop (0 : Nat) l3)) + (1 : Nat) ≤ (17179869184 : Nat)) then bif decide ((0 : Int) ≤ i0) then bif decide (i0 ≤ (↑(List.length l3) : Int)) then bif decide (List.length ([] ++ List.take (Int.toNat i0 - (0 : Nat)) (List.drop (0 : Nat) l3) ++ [[D.int IntKind.i64 i4, D.int IntKind.i64 i5, D.int IntKind.i64 i6, D.int IntKind.i64 i7, D.int IntKind.i64 i8, D.int IntKind.i64 i9]]) + List.length (List.take (List.length l3 - Int.toNat i0) (List.drop (Int.toNat i0) l3)) ≤ (17179869184 : Nat)) then spec_diWays.l4 n m4 i1 (IntKind.wrap IntKind.i64 (i2 + (1 : Int))) ([] ++ List.take (Int.toNat i0 - (0 : Nat)) (List.drop (0 : Nat) l3) ++ [[D.int IntKind.i64 i4, D.int IntKind.i64 i5, D.int IntKind.i64 i6, D.int IntKind.i64 i7, D.int IntKind.i64 i8, D.int IntKind.i64 i9]] ++ List.take (List.length l3 - Int.toNat i0) (List.drop (Int.toNat i0) l3)) l10 else none else none else none else none else none else none else none := by kernel_rfl
noncomputable def spec_diWays.res (n : Nat) (a0_0 : Int) (a0_1 : Int) (a0_2 : Int) (a0_3 : Int) (a0_4 : Int) (a0_5 : Int) : Option (List Q) :=
  spec_diWays.l4 n n (↑(List.length (Cod.encs dieC (search (Die.mk a0_0 a0_1 a0_2 a0_3 a0_4 a0_5)).1)) : Int) (0 : Int) [] (Cod.encs dieC (search (Die.mk a0_0 a0_1 a0_2 a0_3 a0_4 a0_5)).1)
theorem spec_diWays.run (n : Nat) (a0_0 : Int) (a0_1 : Int) (a0_2 : Int) (a0_3 : Int) (a0_4 : Int) (a0_5 : Int) :
    run1 spec_diWays.cfg [RK.own (6 : Nat)] n Try.f9 [Q.agg [D.int IntKind.i64 a0_0, D.int IntKind.i64 a0_1, D.int IntKind.i64 a0_2, D.int IntKind.i64 a0_3, D.int IntKind.i64 a0_4, D.int IntKind.i64 a0_5]] = spec_diWays.res n a0_0 a0_1 a0_2 a0_3 a0_4 a0_5 := by kernel_rfl
theorem spec_diWays.ev {n : Nat} {a0_0 : Int} {a0_1 : Int} {a0_2 : Int} {a0_3 : Int} {a0_4 : Int} {a0_5 : Int} {r : List Q} (h : spec_diWays.res n a0_0 a0_1 a0_2 a0_3 a0_4 a0_5 = some r) : Snd Try.prog C0 9 [.agg [.int .i64 a0_0, .int .i64 a0_1, .int .i64 a0_2, .int .i64 a0_3, .int .i64 a0_4, .int .i64 a0_5]] r :=
  snd_ev (C := spec_diWays.cfg) cfg0 mix rfl rfl rfl rfl rfl (.cons spec_diSearch.ok (.cons spec_diLess.ok .nil)) .nil rfl Try.func9 (by kernel_rfl) (by kernel_rfl) rfl ((spec_diWays.run n a0_0 a0_1 a0_2 a0_3 a0_4 a0_5).trans h)

theorem spec_diWays.l7_run {n m4 : Nat} {out rest : List Die} {x : Die} {i1 i2 : Int} (hl : out.length ≤ 100) : ∀ (d k m : Nat), k + d = out.length → d < m →
    spec_diWays.l7 n m4 m k i1 i2 (dieC.encs out) x.t x.n x.e x.s x.w x.b (dieC.encs rest) = spec_diWays.l4 n m4 i1 (IntKind.wrap .i64 (i2 + 1)) (dieC.encs (out.take k ++ ins x (out.drop k))) (dieC.encs rest) := by
  intro d
  have fin : ∀ k, k ≤ out.length → [] ++ List.take (k - 0) (List.drop 0 (dieC.encs out)) ++ [[D.int .i64 x.t, D.int .i64 x.n, D.int .i64 x.e, D.int .i64 x.s, D.int .i64 x.w, D.int .i64 x.b]] ++ List.take (out.length - k) (List.drop k (dieC.encs out)) = dieC.encs (out.take k ++ [x] ++ out.drop k) := by
    intro k hk
    rw [List.nil_append, Nat.sub_zero, List.drop_zero, Cod.encs_take, dieC_snoc, Cod.encs_drop, Cod.encs_take, Cod.encs_append, List.take_of_length_le (l := out.drop k) (by simp)]
  induction d with
  | zero =>
    intro k m hk hm
    obtain ⟨m, rfl⟩ : ∃ m', m = m' + 1 := ⟨m - 1, by omega⟩
    obtain rfl : k = out.length := by omega
    have h1 : ¬ (out.length : Int) < out.length := by omega
    rw [spec_diWays.l7_eq]
    simp only [Cod.encs_len, h1, decide_false, cond_false, Int.natCast_nonneg, Int.le_refl, decide_true, cond_true, Int.toNat_natCast, fin _ (Nat.le_refl _)]
    have g1 : 0 + (List.take (out.length - 0) (List.drop 0 (dieC.encs out))).length ≤ 17179869184 := by simp; omega
    have g2 : ([] ++ List.take (out.length - 0) (List.drop 0 (dieC.encs out))).length + 1 ≤ 17179869184 := by simp; omega
    have g3 : ([] ++ List.take (out.length - 0) (List.drop 0 (dieC.encs out)) ++ [[D.int .i64 x.t, D.int .i64 x.n, D.int .i64 x.e, D.int .i64 x.s, D.int .i64 x.w, D.int .i64 x.b]]).length + (List.take (out.length - out.length) (List.drop out.length (dieC.encs out))).length ≤ 17179869184 := by simp; omega
    simp only [g1, g2, g3, decide_true, cond_true, List.drop_length, List.take_length, List.append_nil, ins]
  | succ d ih =>
    intro k m hk hm
    obtain ⟨m, rfl⟩ : ∃ m', m = m' + 1 := ⟨m - 1, by omega⟩
    have hlt : k < out.length := by omega
    have hle : (k : Int) ≤ out.length := by omega
    rw [spec_diWays.l7_eq]
    simp only [Cod.encs_len, Int.ofNat_lt, hlt, hle, decide_true, cond_true, Int.natCast_nonneg, Int.toNat_natCast, dieC_t' hlt, dieC_n' hlt, dieC_e' hlt, dieC_s' hlt, dieC_w' hlt, dieC_b' hlt, Option.bind_some, wrap_succ (show k ≤ LIM by unfold LIM; omega), Die.eta, fin k (by omega)]
    have g1 : 0 + (List.take (k - 0) (List.drop 0 (dieC.encs out))).length ≤ 17179869184 := by simp; omega
    have g2 : ([] ++ List.take (k - 0) (List.drop 0 (dieC.encs out))).length + 1 ≤ 17179869184 := by simp; omega
    have g3 : ([] ++ List.take (k - 0) (List.drop 0 (dieC.encs out)) ++ [[D.int .i64 x.t, D.int .i64 x.n, D.int .i64 x.e, D.int .i64 x.s, D.int .i64 x.w, D.int .i64 x.b]]).length + (List.take (out.length - k) (List.drop k (dieC.encs out))).length ≤ 17179869184 := by simp; omega
    simp only [g1, g2, g3, decide_true, cond_true]
    rw [List.drop_eq_getElem_cons hlt, ins]
    cases hc : less out[k] x
    · simp only [cond_false]
      congr 2
      simp
    · simp only [cond_true]
      rw [ih (k + 1) m (by omega) (by omega), List.take_succ_eq_append_getElem hlt, List.append_assoc]
      rfl
theorem spec_diWays.l4_run {n : Nat} {rest : List Die} (hr : rest.length ≤ 24) (hn : 100 < n) : ∀ (d k m : Nat) (out : List Die), k + d = rest.length → d < m → out.length ≤ k →
    spec_diWays.l4 n m rest.length k (dieC.encs out) (dieC.encs rest) = some [Q.one (.sl 6 (dieC.encs (sortIns out (rest.drop k))))] := by
  intro d
  induction d with
  | zero =>
    intro k m out hk hm ho
    obtain ⟨m, rfl⟩ : ∃ m', m = m' + 1 := ⟨m - 1, by omega⟩
    obtain rfl : k = rest.length := by omega
    simp [spec_diWays.l4_eq, sortIns]
  | succ d ih =>
    intro k m out hk hm ho
    obtain ⟨m, rfl⟩ : ∃ m', m = m' + 1 := ⟨m - 1, by omega⟩
    have hlt : k < rest.length := by omega
    rw [spec_diWays.l4_eq, List.drop_eq_getElem_cons hlt, sortIns]
    simp only [Cod.encs_len, Int.ofNat_lt, hlt, decide_true, cond_true, Int.natCast_nonneg, Int.toNat_natCast, dieC_t' hlt, dieC_n' hlt, dieC_e' hlt, dieC_s' hlt, dieC_w' hlt, dieC_b' hlt, Option.bind_some]
    rw [show (0 : Int) = ((0 : Nat) : Int) from rfl, spec_diWays.l7_run (by omega) out.length 0 n (by omega) (by omega), wrap_succ (show k ≤ LIM by unfold LIM; omega), List.take_zero, List.drop_zero, List.nil_append]
    exact ih (k + 1) m _ (by omega) (by omega) (by rw [ins_len]; omega)
def spec_diWays.stub : Stub
  | [.agg [.int .i64 t, .int .i64 n, .int .i64 e, .int .i64 s, .int .i64 w, .int .i64 b]] => .ret [.one (.sl 6 (dieC.encs (Sp.ways ⟨t, n, e, s, w, b⟩)))]
  | _ => .fail
theorem spec_diWays.ok : StubOk Try.prog C0 9 spec_diWays.stub := by
  intro args res h
  unfold spec_diWays.stub at h
  split at h
  · rename_i t n e s w b
    cases h
    refine spec_diWays.ev (n := 200) ?_
    unfold spec_diWays.res
    have := spec_diWays.l4_run (n := 200) (rest := (search ⟨t, n, e, s, w, b⟩).1) (search_ok _).1.le (by omega) _ 0 200 [] (Nat.zero_add _) (by have := (search_ok ⟨t, n, e, s, w, b⟩).1.le; omega) (by simp)
    rw [Cod.encs_len]
    exact this
  · cases h
end Go.Proofs.EV.PL
set_option linter.unusedVariables false
set_option linter.unusedSimpArgs false
/-! All ways to lie, the program's. -/
namespace Go.Proofs.EV.PL
open Go Go.Proofs Go.Proofs.EV Sp
/-! impl_plain -/
noncomputable def impl_plain.cfg : Cfg := { C0 with keep := fun _ => none, nb := 0, M := tabM [], MM := tabB [] }
noncomputable def impl_plain.res (n : Nat) : Option (List Q) :=
  some [Q.agg [D.int IntKind.i64 (0 : Int), D.int IntKind.i64 (1 : Int), D.int IntKind.i64 (2 : Int), D.int IntKind.i64 (3 : Int), D.int IntKind.i64 (4 : Int), D.int IntKind.i64 (5 : Int)]]
theorem impl_plain.run (n : Nat) :
    run1 impl_plain.cfg [RK.agg [LK.int IntKind.i64, LK.int IntKind.i64, LK.int IntKind.i64, LK.int IntKind.i64, LK.int IntKind.i64, LK.int IntKind.i64]] n Try.f14 [] = impl_plain.res n := by kernel_rfl
theorem impl_plain.ev {n : Nat}  {r : List Q} (h : impl_plain.res n  = some r) : Snd Try.prog C0 14 [] r :=
  snd_ev (C := impl_plain.cfg) cfg0 mix rfl rfl rfl rfl rfl .nil .nil rfl Try.func14 (by kernel_rfl) (by kernel_rfl) rfl ((impl_plain.run n ).trans h)

def impl_plain.stub : Stub
  | [] => .ret [.agg (dieC.enc Sp.unitD)]
  | _ => .fail
theorem impl_plain.ok : StubOk Try.prog C0 14 impl_plain.stub := by
  intro args res h
  unfold impl_plain.stub at h
  split at h
  · cases h; exact impl_plain.ev (n := 0) rfl
  · cases h
/-! impl_Die_roll -/
noncomputable def impl_Die_roll.cfg : Cfg := { C0 with keep := fun _ => none, nb := 0, M := tabM [], MM := tabB [] }
noncomputable def impl_Die_roll.res (n : Nat) (a0_0 : Int) (a0_1 : Int) (a0_2 : Int) (a0_3 : Int) (a0_4 : Int) (a0_5 : Int) (a1 : Int) : Option (List Q) :=
  bif a1 == (110 : Int) then some [Q.agg [D.int IntKind.i64 a0_3, D.int IntKind.i64 a0_0, D.int IntKind.i64 a0_2, D.int IntKind.i64 a0_5, D.int IntKind.i64 a0_4, D.int IntKind.i64 a0_1]] else bif a1 == (101 : Int) then some [Q.agg [D.int IntKind.i64 a0_4, D.int IntKind.i64 a0_1, D.int IntKind.i64 a0_0, D.int IntKind.i64 a0_3, D.int IntKind.i64 a0_5, D.int IntKind.i64 a0_2]] else bif a1 == (115 : Int) then some [Q.agg [D.int IntKind.i64 a0_1, D.int IntKind.i64 a0_5, D.int IntKind.i64 a0_2, D.int IntKind.i64 a0_0, D.int IntKind.i64 a0_4, D.int IntKind.i64 a0_3]] else some [Q.agg [D.int IntKind.i64 a0_2, D.int IntKind.i64 a0_1, D.int IntKind.i64 a0_5, D.int IntKind.i64 a0_3, D.int IntKind.i64 a0_0, D.int IntKind.i64 a0_4]]
theorem impl_Die_roll.run (n : Nat) (a0_0 : Int) (a0_1 : Int) (a0_2 : Int) (a0_3 : Int) (a0_4 : Int) (a0_5 : Int) (a1 : Int) :
    run1 impl_Die_roll.cfg [RK.agg [LK.int IntKind.i64, LK.int IntKind.i64, LK.int IntKind.i64, LK.int IntKind.i64, LK.int IntKind.i64, LK.int IntKind.i64]] n Try.f32 [Q.agg [D.int IntKind.i64 a0_0, D.int IntKind.i64 a0_1, D.int IntKind.i64 a0_2, D.int IntKind.i64 a0_3, D.int IntKind.i64 a0_4, D.int IntKind.i64 a0_5], Q.one (D.int IntKind.u8 a1)] = impl_Die_roll.res n a0_0 a0_1 a0_2 a0_3 a0_4 a0_5 a1 := by kernel_rfl
theorem impl_Die_roll.ev {n : Nat} {a0_0 : Int} {a0_1 : Int} {a0_2 : Int} {a0_3 : Int} {a0_4 : Int} {a0_5 : Int} {a1 : Int} {r : List Q} (h : impl_Die_roll.res n a0_0 a0_1 a0_2 a0_3 a0_4 a0_5 a1 = some r) : Snd Try.prog C0 32 [.agg [.int .i64 a0_0, .int .i64 a0_1, .int .i64 a0_2, .int .i64 a0_3, .int .i64 a0_4, .int .i64 a0_5], .one (.int .u8 a1)] r :=
  snd_ev (C := impl_Die_roll.cfg) cfg0 mix rfl rfl rfl rfl rfl .nil .nil rfl Try.func32 (by kernel_rfl) (by kernel_rfl) rfl ((impl_Die_roll.run n a0_0 a0_1 a0_2 a0_3 a0_4 a0_5 a1).trans h)

def impl_Die_roll.stub : Stub
  | [.agg [.int .i64 t, .int .i64 n, .int .i64 e, .int .i64 s, .int .i64 w, .int .i64 b], .one (.int .u8 k)] => .ret [.agg (dieC.enc (Sp.rollB ⟨t, n, e, s, w, b⟩ k))]
  | _ => .fail
theorem impl_Die_roll.ok : StubOk Try.prog C0 32 impl_Die_roll.stub := by
  intro args res h
  unfold impl_Die_roll.stub at h
  split at h
  · rename_i k
    cases h
    refine impl_Die_roll.ev (n := 0) ?_
    unfold impl_Die_roll.res Sp.rollB
    simp only [ieq]
    cases decide (k = 110) <;> cases decide (k = 101) <;> cases decide (k = 115) <;> rfl
  · cases h
/-! impl_Die_rolled -/
noncomputable def impl_Die_rolled.cfg : Cfg := { C0 with keep := fun | 2 => some [1, 2, 4, 7, 8] | _ => none, nb := 0, M := tabM [(32, impl_Die_roll.stub)], MM := tabB [] }
noncomputable def impl_Die_rolled.l2 (n : Nat) (m2 : Nat) (s0 : ByteArray) (i1 : Int) (i2 : Int) (i3 : Int) (i4 : Int) (i5 : Int) (i6 : Int) (i7 : Int) (i8 : Int) (i9 : Int) (i10 : Int) (i11 : Int) (i12 : Int) (i13 : Int) (i14 : Int) : Option (List Q) :=
  loopAt impl_Die_rolled.cfg [RK.agg [LK.int IntKind.i64, LK.int IntKind.i64, LK.int IntKind.i64, LK.int IntKind.i64, LK.int IntKind.i64, LK.int IntKind.i64]] n Try.f26 [1, 0, 1, 0] [] m2 (St.mk [V.undef, V.one true (D.str s0), V.rp (0 : Nat) (0 : Nat), V.undef, V.rp (1 : Nat) (0 : Nat), V.undef, V.undef, V.one true (D.int IntKind.i64 i1), V.one true (D.int IntKind.i64 i2), V.undef, V.undef, V.undef, V.undef, V.undef, V.undef, V.undef, V.undef, V.undef] [Ob.box [V.one true (D.int IntKind.i64 i3), V.one true (D.int IntKind.i64 i4), V.one true (D.int IntKind.i64 i5), V.one true (D.int IntKind.i64 i6), V.one true (D.int IntKind.i64 i7), V.one true (D.int IntKind.i64 i8)], Ob.box [V.one true (D.int IntKind.i64 i9), V.one true (D.int IntKind.i64 i10), V.one true (D.int IntKind.i64 i11), V.one true (D.int IntKind.i64 i12), V.one true (D.int IntKind.i64 i13), V.one true (D.int IntKind.i64 i14)]])
theorem impl_Die_rolled.l2_eq (n : Nat) (m2 : Nat) (s0 : ByteArray) (i1 : Int) (i2 : Int) (i3 : Int) (i4 : Int) (i5 : Int) (i6 : Int) (i7 : Int) (i8 : Int) (i9 : Int) (i10 : Int) (i11 : Int) (i12 : Int) (i13 : Int) (i14 : Int) :
    impl_Die_rolled.l2 n (m2 + 1) s0 i1 i2 i3 i4 i5 i6 i7 i8 i9 i10 i11 i12 i13 i14 = bif decide (i2 < i1) then bif decide ((0 : Int) ≤ i2) then bif decide (i2 < (↑(ByteArray.size s0) : Int)) then impl_Die_rolled.l2 n m2 s0 i1 (IntKind.wrap IntKind.i64 (i2 + (1 : Int))) (Die.t (rollB (Die.mk i3 i4 i5 i6 i7 i8) (byteAt s0 (Int.toNat i2)))) (Die.n (rollB (Die.mk i3 i4 i5 i6 i7 i8) (byteAt s0 (Int.toNat i2)))) (Die.e (rollB (Die.mk i3 i4 i5 i6 i7 i8) (byteAt s0 (Int.toNat i2)))) (Die.s (rollB (Die.mk i3 i4 i5 i6 i7 i8) (byteAt s0 (Int.toNat i2)))) (Die.w (rollB (Die.mk i3 i4 i5 i6 i7 i8) (byteAt s0 (Int.toNat i2)))) (Die.b (rollB (Die.mk i3 i4 i5 i6 i7 i8) (byteAt s0 (Int.toNat i2)))) i9 i10 i11 i12 i13 i14 else none else none else some [Q.agg [D.int IntKind.i64 i3, D.int IntKind.i64 i4, D.int IntKind.i64 i5, D.int IntKind.i64 i6, D.int IntKind.i64 i7, D.int IntKind.i64 i8]] := by kernel_rfl
noncomputable def impl_Die_rolled.res (n : Nat) (a0_0 : Int) (a0_1 : Int) (a0_2 : Int) (a0_3 : Int) (a0_4 : Int) (a0_5 : Int) (a1 : ByteArray) : Option (List Q) :=
  impl_Die_rolled.l2 n n a1 (↑(ByteArray.size a1) : Int) (0 : Int) a0_0 a0_1 a0_2 a0_3 a0_4 a0_5 (0 : Int) (0 : Int) (0 : Int) (0 : Int) (0 : Int) (0 : Int)
theorem impl_Die_rolled.run (n : Nat) (a0_0 : Int) (a0_1 : Int) (a0_2 : Int) (a0_3 : Int) (a0_4 : Int) (a0_5 : Int) (a1 : ByteArray) :
    run1 impl_Die_rolled.cfg [RK.agg [LK.int IntKind.i64, LK.int IntKind.i64, LK.int IntKind.i64, LK.int IntKind.i64, LK.int IntKind.i64, LK.int IntKind.i64]] n Try.f26 [Q.agg [D.int IntKind.i64 a0_0, D.int IntKind.i64 a0_1, D.int IntKind.i64 a0_2, D.int IntKind.i64 a0_3, D.int IntKind.i64 a0_4, D.int IntKind.i64 a0_5], Q.one (D.str a1)] = impl_Die_rolled.res n a0_0 a0_1 a0_2 a0_3 a0_4 a0_5 a1 := by kernel_rfl
theorem impl_Die_rolled.ev {n : Nat} {a0_0 : Int} {a0_1 : Int} {a0_2 : Int} {a0_3 : Int} {a0_4 : Int} {a0_5 : Int} {a1 : ByteArray} {r : List Q} (h : impl_Die_rolled.res n a0_0 a0_1 a0_2 a0_3 a0_4 a0_5 a1 = some r) : Snd Try.prog C0 26 [.agg [.int .i64 a0_0, .int .i64 a0_1, .int .i64 a0_2, .int .i64 a0_3, .int .i64 a0_4, .int .i64 a0_5], .one (.str a1)] r :=
  snd_ev (C := impl_Die_rolled.cfg) cfg0 mix rfl rfl rfl rfl rfl (.cons impl_Die_roll.ok .nil) .nil rfl Try.func26 (by kernel_rfl) (by kernel_rfl) rfl ((impl_Die_rolled.run n a0_0 a0_1 a0_2 a0_3 a0_4 a0_5 a1).trans h)

theorem byteAt_get {s : ByteArray} {k : Nat} (h : k < s.data.toList.length) : byteAt s k = ((s.data.toList[k]).toNat : Int) := by
  unfold byteAt; rw [getD_of_lt h]
theorem impl_Die_rolled.loop {n : Nat} {x : ByteArray} {z0 z1 z2 z3 z4 z5 : Int} (hx : x.size ≤ LIM) : ∀ (d k m : Nat) (p : Die), k + d = x.data.toList.length → d < m →
    impl_Die_rolled.l2 n m x x.size k p.t p.n p.e p.s p.w p.b z0 z1 z2 z3 z4 z5 = some [Q.agg (dieC.enc ((x.data.toList.drop k).foldl (fun d c => rollB d (c.toNat : Int)) p))] := by
  have hsz : x.data.toList.length = x.size := rfl
  intro d
  induction d with
  | zero =>
    intro k m p hk hm
    obtain ⟨m, rfl⟩ : ∃ m', m = m' + 1 := ⟨m - 1, by omega⟩
    have h1 : ¬ (k : Int) < x.size := by omega
    rw [impl_Die_rolled.l2_eq, List.drop_of_length_le (by omega)]
    simp only [h1, decide_false, cond_false, List.foldl_nil]
    rfl
  | succ d ih =>
    intro k m p hk hm
    obtain ⟨m, rfl⟩ : ∃ m', m = m' + 1 := ⟨m - 1, by omega⟩
    have hlt : k < x.data.toList.length := by omega
    have h1 : (k : Int) < x.size := by omega
    rw [impl_Die_rolled.l2_eq, List.drop_eq_getElem_cons hlt, List.foldl_cons]
    simp only [h1, decide_true, cond_true, Int.natCast_nonneg, Int.toNat_natCast, Die.eta, wrap_succ (show k ≤ LIM by omega), byteAt_get hlt]
    exact ih (k + 1) m _ (by omega) (by omega)
def impl_Die_rolled.stub : Stub
  | [.agg [.int .i64 t, .int .i64 n, .int .i64 e, .int .i64 s, .int .i64 w, .int .i64 b], .one (.str x)] => .gd (decide (x.size ≤ LIM)) (.ret [.agg (dieC.enc (Sp.rolledB ⟨t, n, e, s, w, b⟩ x))])
  | _ => .fail
theorem impl_Die_rolled.ok : StubOk Try.prog C0 26 impl_Die_rolled.stub := by
  intro args res h
  unfold impl_Die_rolled.stub at h
  split at h
  · rename_i t n e s w b x
    obtain ⟨h1, h2⟩ := gd_out h
    have h1 := of_decide_eq_true h1
    cases h2
    refine impl_Die_rolled.ev (n := x.size + 1) ?_
    have hsz : x.data.toList.length = x.size := rfl
    exact impl_Die_rolled.loop (n := x.size + 1) h1 x.size 0 (x.size + 1) ⟨t, n, e, s, w, b⟩ (by omega) (by omega)
  · cases h
/-! impl_shortWords -/
noncomputable def impl_shortWords.cfg : Cfg := { C0 with keep := fun | 3 => some [1, 2, 3] | 6 => some [1, 2, 3, 17] | _ => none, nb := 0, M := tabM [(14, impl_plain.stub), (26, impl_Die_rolled.stub)], MM := tabB [] }
noncomputable def impl_shortWords.l3 (n : Nat) (m3 : Nat) (i0 : Int) (l1 : List (List D)) (l2 : List (List D × List D)) : Option (List Q) :=
  loopAt impl_shortWords.cfg [RK.own (1 : Nat)] n Try.f25 [1, 1, 0, 1, 0] [] m3 (St.mk [V.undef, V.rw (0 : Nat), V.rm (1 : Nat), V.one true (D.int IntKind.i64 i0), V.undef, V.undef, V.undef, V.undef, V.undef, V.undef, V.undef, V.undef, V.undef, V.undef, V.undef, V.undef, V.undef, V.undef, V.undef, V.undef, V.undef, V.undef, V.undef, V.undef, V.undef, V.undef, V.undef, V.undef, V.undef, V.undef, V.undef, V.undef, V.undef, V.undef, V.undef, V.undef, V.undef, V.undef, V.undef, V.undef, V.undef, V.undef, V.undef, V.undef] [Ob.row false (1 : Nat) l1, Ob.mp l2])
noncomputable def impl_shortWords.l6 (n : Nat) (m3 : Nat) (m6 : Nat) (i0 : Int) (i1 : Int) (l2 : List (List D)) (l3 : List (List D × List D)) : Option (List Q) :=
  loopAt impl_shortWords.cfg [RK.own (1 : Nat)] n Try.f25 [1, 1, 0, 1, 0, 0, 1, 0, 0, 1, 0] [m3] m6 (St.mk [V.undef, V.rw (0 : Nat), V.rm (1 : Nat), V.one true (D.int IntKind.i64 i0), V.undef, V.undef, V.undef, V.undef, V.undef, V.undef, V.undef, V.undef, V.undef, V.undef, V.undef, V.undef, V.undef, V.one true (D.int IntKind.i64 i1), V.undef, V.undef, V.undef, V.undef, V.undef, V.undef, V.undef, V.undef, V.undef, V.undef, V.undef, V.undef, V.undef, V.undef, V.undef, V.undef, V.undef, V.undef, V.undef, V.undef, V.undef, V.undef, V.undef, V.undef, V.undef, V.undef] [Ob.row false (1 : Nat) l2, Ob.mp l3])
theorem impl_shortWords.l3_eq (n : Nat) (m3 : Nat) (i0 : Int) (l1 : List (List D)) (l2 : List (List D × List D)) :
    impl_shortWords.l3 n (m3 + 1) i0 l1 l2 = bif decide (i0 < (↑(List.length l1) : Int)) then impl_shortWords.l6 n m3 n i0 (0 : Int) l1 l2 else some [Q.one (D.sl (1 : Nat) l1)] := by kernel_rfl
theorem impl_shortWords.l6_eq (n : Nat) (m3 : Nat) (m6 : Nat) (i0 : Int) (i1 : Int) (l2 : List (List D)) (l3 : List (List D × List D)) :
    impl_shortWords.l6 n m3 (m6 + 1) i0 i1 l2 l3 = bif decide (i1 < (4 : Int)) then bif decide ((0 : Int) ≤ i0) then bif decide (i0 < (↑(List.length l2) : Int)) then Option.bind (Option.bind (some (cellD l2 (Int.toNat i0) (0 : Nat))) D.str?) fun (s1 : ByteArray) => bif decide ((0 : Int) ≤ IntKind.wrap IntKind.i64 (i1 + (1 : Int))) then bif decide (IntKind.wrap IntKind.i64 (i1 + (1 : Int)) ≤ (4 : Int)) then bif decide ((0 : Int) ≤ i1) then bif decide (i1 ≤ (↑(Int.toNat (IntKind.wrap IntKind.i64 (i1 + (1 : Int)))) : Int)) then bif decide (ByteArray.size s1 + ByteArray.size (ByteArray.extract (ByteArray.mk #[(110 : UInt8), (101 : UInt8), (115 : UInt8), (119 : UInt8)]) (Int.toNat i1) (Int.toNat (IntKind.wrap IntKind.i64 (i1 + (1 : Int))))) ≤ (17179869184 : Nat)) then bif decide (ByteArray.size (s1 ++ ByteArray.extract (ByteArray.mk #[(110 : UInt8), (101 : UInt8), (115 : UInt8), (119 : UInt8)]) (Int.toNat i1) (Int.toNat (IntKind.wrap IntKind.i64 (i1 + (1 : Int))))) ≤ (17179869184 : Nat)) then Option.bind (mpGet [D.int IntKind.i64 (Die.t (rolledB (Die.mk (Die.t unitD) (Die.n unitD) (Die.e unitD) (Die.s unitD) (Die.w unitD) (Die.b unitD)) (s1 ++ ByteArray.extract (ByteArray.mk #[(110 : UInt8), (101 : UInt8), (115 : UInt8), (119 : UInt8)]) (Int.toNat i1) (Int.toNat (IntKind.wrap IntKind.i64 (i1 + (1 : Int))))))), D.int IntKind.i64 (Die.n (rolledB (Die.mk (Die.t unitD) (Die.n unitD) (Die.e unitD) (Die.s unitD) (Die.w unitD) (Die.b unitD)) (s1 ++ ByteArray.extract (ByteArray.mk #[(110 : UInt8), (101 : UInt8), (115 : UInt8), (119 : UInt8)]) (Int.toNat i1) (Int.toNat (IntKind.wrap IntKind.i64 (i1 + (1 : Int))))))), D.int IntKind.i64 (Die.e (rolledB (Die.mk (Die.t unitD) (Die.n unitD) (Die.e unitD) (Die.s unitD) (Die.w unitD) (Die.b unitD)) (s1 ++ ByteArray.extract (ByteArray.mk #[(110 : UInt8), (101 : UInt8), (115 : UInt8), (119 : UInt8)]) (Int.toNat i1) (Int.toNat (IntKind.wrap IntKind.i64 (i1 + (1 : Int))))))), D.int IntKind.i64 (Die.s (rolledB (Die.mk (Die.t unitD) (Die.n unitD) (Die.e unitD) (Die.s unitD) (Die.w unitD) (Die.b unitD)) (s1 ++ ByteArray.extract (ByteArray.mk #[(110 : UInt8), (101 : UInt8), (115 : UInt8), (119 : UInt8)]) (Int.toNat i1) (Int.toNat (IntKind.wrap IntKind.i64 (i1 + (1 : Int))))))), D.int IntKind.i64 (Die.w (rolledB (Die.mk (Die.t unitD) (Die.n unitD) (Die.e unitD) (Die.s unitD) (Die.w unitD) (Die.b unitD)) (s1 ++ ByteArray.extract (ByteArray.mk #[(110 : UInt8), (101 : UInt8), (115 : UInt8), (119 : UInt8)]) (Int.toNat i1) (Int.toNat (IntKind.wrap IntKind.i64 (i1 + (1 : Int))))))), D.int IntKind.i64 (Die.b (rolledB (Die.mk (Die.t unitD) (Die.n unitD) (Die.e unitD) (Die.s unitD) (Die.w unitD) (Die.b unitD)) (s1 ++ ByteArray.extract (ByteArray.mk #[(110 : UInt8), (101 : UInt8), (115 : UInt8), (119 : UInt8)]) (Int.toNat i1) (Int.toNat (IntKind.wrap IntKind.i64 (i1 + (1 : Int)))))))] l3) fun (d2 : Option (List D)) => bif decide (List.length (Option.getD d2 [D.bool false]) = (1 : Nat)) then Option.bind (Option.bind (some (cellD [Option.getD d2 [D.bool false]] (0 : Nat) (0 : Nat))) D.bool?) fun (b3 : Bool) => bif !b3 then Option.bind (mpSet [D.int IntKind.i64 (Die.t (rolledB (Die.mk (Die.t unitD) (Die.n unitD) (Die.e unitD) (Die.s unitD) (Die.w unitD) (Die.b unitD)) (s1 ++ ByteArray.extract (ByteArray.mk #[(110 : UInt8), (101 : UInt8), (115 : UInt8), (119 : UInt8)]) (Int.toNat i1) (Int.toNat (IntKind.wrap IntKind.i64 (i1 + (1 : Int))))))), D.int IntKind.i64 (Die.n (rolledB (Die.mk (Die.t unitD) (Die.n unitD) (Die.e unitD) (Die.s unitD) (Die.w unitD) (Die.b unitD)) (s1 ++ ByteArray.extract (ByteArray.mk #[(110 : UInt8), (101 : UInt8), (115 : UInt8), (119 : UInt8)]) (Int.toNat i1) (Int.toNat (IntKind.wrap IntKind.i64 (i1 + (1 : Int))))))), D.int IntKind.i64 (Die.e (rolledB (Die.mk (Die.t unitD) (Die.n unitD) (Die.e unitD) (Die.s unitD) (Die.w unitD) (Die.b unitD)) (s1 ++ ByteArray.extract (ByteArray.mk #[(110 : UInt8), (101 : UInt8), (115 : UInt8), (119 : UInt8)]) (Int.toNat i1) (Int.toNat (IntKind.wrap IntKind.i64 (i1 + (1 : Int))))))), D.int IntKind.i64 (Die.s (rolledB (Die.mk (Die.t unitD) (Die.n unitD) (Die.e unitD) (Die.s unitD) (Die.w unitD) (Die.b unitD)) (s1 ++ ByteArray.extract (ByteArray.mk #[(110 : UInt8), (101 : UInt8), (115 : UInt8), (119 : UInt8)]) (Int.toNat i1) (Int.toNat (IntKind.wrap IntKind.i64 (i1 + (1 : Int))))))), D.int IntKind.i64 (Die.w (rolledB (Die.mk (Die.t unitD) (Die.n unitD) (Die.e unitD) (Die.s unitD) (Die.w unitD) (Die.b unitD)) (s1 ++ ByteArray.extract (ByteArray.mk #[(110 : UInt8), (101 : UInt8), (115 : UInt8), (119 : UInt8)]) (Int.toNat i1) (Int.toNat (IntKind.wrap IntKind.i64 (i1 + (1 : Int))))))), D.int IntKind.i64 (Die.b (rolledB (Die.mk (Die.t unitD) (Die.n unitD) (Die.e unitD) (Die.s unitD) (Die.w unitD) (Die.b unitD)) (s1 ++ ByteArray.extract (ByteArray.mk #[(110 : UInt8), (101 : UInt8), (115 : UInt8), (119 : UInt8)]) (Int.toNat i1) (Int.toNat (IntKind.wrap IntKind.i64 (i1 + (1 : Int)))))))] [D.bool true] l3) fun (l4 : List (List D × List D)) => bif decide (List.length l2 + (1 : Nat) ≤ (17179869184 : Nat)) then impl_shortWords.l6 n m3 m6 i0 (IntKind.wrap IntKind.i64 (i1 + (1 : Int))) (l2 ++ [[D.str (s1 ++ ByteArray.extract (ByteArray.mk #[(110 : UInt8), (101 : UInt8), (115 : UInt8), (119 : UInt8)]) (Int.toNat i1) (Int.toNat (IntKind.wrap IntKind.i64 (i1 + (1 : Int)))))]]) l4 else none else impl_shortWords.l6 n m3 m6 i0 (IntKind.wrap IntKind.i64 (i1 + (1 : Int))) l2 l3 else none else none else none else none else none else none else none else none else none else impl_shortWords.l3 n m3 (IntKind.wrap IntKind.i64 (i0 + (1 : Int))) l2 l3 := by kernel_rfl
noncomputable def impl_shortWords.res (n : Nat) : Option (List Q) :=
  impl_shortWords.l3 n n (0 : Int) [[D.str (ByteArray.mk #[])]] [([D.int IntKind.i64 (Die.t unitD), D.int IntKind.i64 (Die.n unitD), D.int IntKind.i64 (Die.e unitD), D.int IntKind.i64 (Die.s unitD), D.int IntKind.i64 (Die.w unitD), D.int IntKind.i64 (Die.b unitD)], [D.bool true])]
theorem impl_shortWords.run (n : Nat) :
    run1 impl_shortWords.cfg [RK.own (1 : Nat)] n Try.f25 [] = impl_shortWords.res n := by kernel_rfl
theorem impl_shortWords.ev {n : Nat}  {r : List Q} (h : impl_shortWords.res n  = some r) : Snd Try.prog C0 25 [] r :=
  snd_ev (C := impl_shortWords.cfg) cfg0 mix rfl rfl rfl rfl rfl (.cons impl_plain.ok (.cons impl_Die_rolled.ok .nil)) .nil rfl Try.func25 (by kernel_rfl) (by kernel_rfl) rfl ((impl_shortWords.run n ).trans h)

/-- What the words make is what was found. -/
def Made (st : List Die × List ByteArray) : Prop := st.2.map (rolledB unitD) = st.1
theorem look_made {k dir : Nat} {st : List Die × List ByteArray} (h : Made st) (hk : k < st.1.length) (hd : dir < 4) : Made (Sp.look k dir st) := by
  unfold Sp.look
  cases st.1.contains (roll (st.1.getD k default) dir) with
  | true => exact h
  | false =>
    have hk2 : k < st.2.length := by rw [← h] at hk; simpa using hk
    show (st.2 ++ [_]).map _ = st.1 ++ [_]
    rw [List.map_append, h, List.map_singleton, rolledB_snoc _ _ hd, getD_of_lt hk2, getD_of_lt hk]
    congr 2
    unfold Made at h
    simp only [← h, List.getElem_map]
theorem impl_shortWords.l6_step {n m3 : Nat} {st : List Die × List ByteArray} {k dir m : Nat} (hl : st.1.length ≤ 24) (hw : st.2.length = st.1.length) (hk : k < st.1.length) (hd : dir < 4) (hs : Shortw st) (hM : Made st) (hn : 24 < n) :
    impl_shortWords.l6 n m3 (m + 1) k dir (strC.encs st.2) (metE st.1) = impl_shortWords.l6 n m3 m k (dir + 1 : Nat) (strC.encs (Sp.look k dir st).2) (metE (Sp.look k dir st).1) := by
  have h4 : (dir : Int) < 4 := by omega
  have hk2 : k < st.2.length := by omega
  have g1 : (dir : Int) ≤ ((dir + 1 : Nat) : Int) := by omega
  have g2 : ((dir + 1 : Nat) : Int) ≤ 4 := by omega
  have g4 : st.2.length + 1 ≤ 17179869184 := by omega
  have g5 := hs _ (List.getElem_mem hk2)
  have g6 : st.2[k].size + (dirStr dir).size ≤ 17179869184 := by rw [dir_size]; omega
  have g7 : (st.2[k] ++ dirStr dir).size ≤ 17179869184 := by rw [ByteArray.size_append]; exact g6
  have g8 : rolledB unitD (st.2[k] ++ dirStr dir) = roll st.1[k] dir := by
    rw [rolledB_snoc _ _ hd]
    congr 1
    unfold Made at hM
    simp only [← hM, List.getElem_map]
  rw [impl_shortWords.l6_eq]
  simp only [h4, wrap_succ (show dir ≤ LIM by unfold LIM; omega), Cod.encs_len, Int.ofNat_lt, hk2, decide_true, cond_true, Int.natCast_nonneg, Int.toNat_natCast, strC_cell hk2, Option.bind_some, g1, g2, ext_dir hd, g6, g7, Die.eta, g8, met_get]
  unfold Sp.look
  rw [getD_of_lt hk, getD_of_lt hk2]
  cases hc : st.1.contains (roll st.1[k] dir) with
  | true => rfl
  | false =>
    simp only [cond_false, met_set _ _ hc, Option.bind_some, strC_snoc, g4, decide_true, cond_true]
    rfl
theorem impl_shortWords.l6_run {n m3 : Nat} {d : Die} {st : List Die × List ByteArray} {k m : Nat} (hf : Sp.Found d st) (hk : k < st.1.length) (hs : Shortw st) (hM : Made st) (hn : 24 < n) (hm : 4 < m) :
    impl_shortWords.l6 n m3 m k 0 (strC.encs st.2) (metE st.1) = impl_shortWords.l3 n m3 (k + 1 : Nat) (strC.encs (look4 k st).2) (metE (look4 k st).1) ∧ Made (look4 k st) := by
  obtain ⟨m, rfl⟩ : ∃ m', m = m' + 5 := ⟨m - 5, by omega⟩
  have hl : ∀ (st : List Die × List ByteArray) dir, k < st.1.length → k < (Sp.look k dir st).1.length := by
    intro st dir h
    obtain ⟨a, b, e⟩ := look_grow k dir st
    rw [e]; simp; omega
  have f0 := look_found hf hk (show 0 < 4 by decide)
  have k0 := hl st 0 hk
  have s0 := look_short (dir := 0) hs (by rw [hf.len]; exact hk)
  have m0 := look_made hM hk (show 0 < 4 by decide)
  have f1 := look_found f0 k0 (show 1 < 4 by decide)
  have k1 := hl _ 1 k0
  have s1 := look_short (dir := 1) s0 (by rw [f0.len]; exact k0)
  have m1 := look_made m0 k0 (show 1 < 4 by decide)
  have f2 := look_found f1 k1 (show 2 < 4 by decide)
  have k2 := hl _ 2 k1
  have s2 := look_short (dir := 2) s1 (by rw [f1.len]; exact k1)
  have m2 := look_made m1 k1 (show 2 < 4 by decide)
  have m3' := look_made m2 k2 (show 3 < 4 by decide)
  refine ⟨?_, m3'⟩
  rw [show (0 : Int) = ((0 : Nat) : Int) from rfl, impl_shortWords.l6_step hf.le hf.len hk (by decide) hs hM hn, impl_shortWords.l6_step f0.le f0.len k0 (by decide) s0 m0 hn, impl_shortWords.l6_step f1.le f1.len k1 (by decide) s1 m1 hn, impl_shortWords.l6_step f2.le f2.len k2 (by decide) s2 m2 hn]
  have hk3 : k ≤ LIM := by unfold LIM; have := hf.le; omega
  rw [impl_shortWords.l6_eq]
  have g : ¬ ((3 + 1 : Nat) : Int) < 4 := by decide
  simp only [g, decide_false, cond_false, wrap_succ hk3]
  rfl
theorem impl_shortWords.l3_run {n : Nat} {d : Die} (hn : 24 < n) : ∀ (q k m : Nat) (st : List Die × List ByteArray), Sp.Found d st → Shortw st → Made st → k ≤ st.1.length → 25 ≤ q + k → q < m →
    impl_shortWords.l3 n m k (strC.encs st.2) (metE st.1) = some [Q.one (.sl 1 (strC.encs (searchFrom q k st).2))] := by
  intro q
  induction q with
  | zero => intro k m st hf hs hM hk hq hm; have := hf.le; omega
  | succ q ih =>
    intro k m st hf hs hM hk hq hm
    obtain ⟨m, rfl⟩ : ∃ m', m = m' + 1 := ⟨m - 1, by omega⟩
    rw [impl_shortWords.l3_eq, searchFrom]
    simp only [Cod.encs_len, Int.ofNat_lt, hf.len]
    by_cases h : k < st.1.length
    · simp only [h, decide_true, cond_true]
      obtain ⟨e1, e2⟩ := impl_shortWords.l6_run (n := n) (m3 := m) (m := n) hf h hs hM hn (by omega)
      rw [e1]
      refine ih (k + 1) m _ (look4_found hf h) (look4_short hf h hs) e2 ?_ (by omega) (by omega)
      obtain ⟨a, b, e⟩ := look4_grow k st
      rw [e]; simp; omega
    · simp only [h, decide_false, cond_false]
def impl_shortWords.stub : Stub
  | [] => .ret [.one (.sl 1 (strC.encs Sp.short))]
  | _ => .fail
theorem impl_shortWords.ok : StubOk Try.prog C0 25 impl_shortWords.stub := by
  intro args res h
  unfold impl_shortWords.stub at h
  split at h
  · cases h
    refine impl_shortWords.ev (n := 100) ?_
    exact impl_shortWords.l3_run (n := 100) (d := unitD) (by omega) 30 0 100 ([unitD], [⟨#[]⟩]) (found0 _) (by intro s hs; simp at hs; subst hs; show 0 < 1; omega) rfl (by simp) (by omega) (by omega)
  · cases h
/-! cmp_isNaN_int -/
noncomputable def cmp_isNaN_int.cfg : Cfg := { C0 with keep := fun _ => none, nb := 0, M := tabM [], MM := tabB [] }
noncomputable def cmp_isNaN_int.res (n : Nat) (a0 : Int) : Option (List Q) :=
  some [Q.one (D.bool (a0 != a0))]
theorem cmp_isNaN_int.run (n : Nat) (a0 : Int) :
    run1 cmp_isNaN_int.cfg [RK.one LK.bool] n Try.f65 [Q.one (D.int IntKind.i64 a0)] = cmp_isNaN_int.res n a0 := by kernel_rfl
theorem cmp_isNaN_int.ev {n : Nat} {a0 : Int} {r : List Q} (h : cmp_isNaN_int.res n a0 = some r) : Snd Try.prog C0 65 [.one (.int .i64 a0)] r :=
  snd_ev (C := cmp_isNaN_int.cfg) cfg0 mix rfl rfl rfl rfl rfl .nil .nil rfl Try.func65 (by kernel_rfl) (by kernel_rfl) rfl ((cmp_isNaN_int.run n a0).trans h)

def cmp_isNaN_int.stub : Stub
  | [.one (.int .i64 a)] => .ret [.one (.bool false)]
  | _ => .fail
theorem cmp_isNaN_int.ok : StubOk Try.prog C0 65 cmp_isNaN_int.stub := by
  intro args res h
  unfold cmp_isNaN_int.stub at h
  split at h
  · cases h
    refine cmp_isNaN_int.ev (n := 0) ?_
    simp [cmp_isNaN_int.res]
  · cases h
/-! cmp_Compare_int -/
noncomputable def cmp_Compare_int.cfg : Cfg := { C0 with keep := fun _ => none, nb := 0, M := tabM [(65, cmp_isNaN_int.stub)], MM := tabB [] }
noncomputable def cmp_Compare_int.res (n : Nat) (a0 : Int) (a1 : Int) : Option (List Q) :=
  bif decide (a0 < a1) then some [Q.one (D.int IntKind.i64 (-1 : Int))] else bif decide (a0 > a1) then some [Q.one (D.int IntKind.i64 (1 : Int))] else some [Q.one (D.int IntKind.i64 (0 : Int))]
theorem cmp_Compare_int.run (n : Nat) (a0 : Int) (a1 : Int) :
    run1 cmp_Compare_int.cfg [RK.one (LK.int IntKind.i64)] n Try.f59 [Q.one (D.int IntKind.i64 a0), Q.one (D.int IntKind.i64 a1)] = cmp_Compare_int.res n a0 a1 := by kernel_rfl
theorem cmp_Compare_int.ev {n : Nat} {a0 : Int} {a1 : Int} {r : List Q} (h : cmp_Compare_int.res n a0 a1 = some r) : Snd Try.prog C0 59 [.one (.int .i64 a0), .one (.int .i64 a1)] r :=
  snd_ev (C := cmp_Compare_int.cfg) cfg0 mix rfl rfl rfl rfl rfl (.cons cmp_isNaN_int.ok .nil) .nil rfl Try.func59 (by kernel_rfl) (by kernel_rfl) rfl ((cmp_Compare_int.run n a0 a1).trans h)

def cmp_Compare_int.stub : Stub
  | [.one (.int .i64 a), .one (.int .i64 b)] => .ret [.one (.int .i64 (Sp.cmpI a b))]
  | _ => .fail
theorem cmp_Compare_int.ok : StubOk Try.prog C0 59 cmp_Compare_int.stub := by
  intro args res h
  unfold cmp_Compare_int.stub at h
  split at h
  · rename_i a b
    cases h
    refine cmp_Compare_int.ev (n := 0) ?_
    unfold cmp_Compare_int.res Sp.cmpI
    cases decide (a < b) <;> cases decide (a > b) <;> rfl
  · cases h
/-! slices_Compare_Sint_int -/
noncomputable def slices_Compare_Sint_int.cfg : Cfg := { C0 with keep := fun | 2 => some [0, 1, 9, 10, 11] | _ => none, nb := 0, M := tabM [(59, cmp_Compare_int.stub)], MM := tabB [] }
noncomputable def slices_Compare_Sint_int.l2 (n : Nat) (m2 : Nat) (l0 : List (List D)) (l1 : List (List D)) (l2 : List (List D)) (i3 : Int) (i4 : Int) : Option (List Q) :=
  loopAt slices_Compare_Sint_int.cfg [RK.one (LK.int IntKind.i64)] n Try.f39 [1, 0, 1, 0] [] m2 (St.mk [V.one false (D.sl (1 : Nat) l0), V.one false (D.sl (1 : Nat) l1), V.undef, V.undef, V.undef, V.undef, V.undef, V.undef, V.undef, V.one false (D.sl (1 : Nat) l2), V.one true (D.int IntKind.i64 i3), V.one true (D.int IntKind.i64 i4), V.undef, V.undef, V.undef, V.undef, V.undef, V.undef, V.undef, V.undef, V.undef, V.undef, V.undef, V.undef, V.undef, V.undef, V.undef, V.undef, V.undef, V.undef, V.undef, V.undef, V.undef, V.undef, V.undef, V.undef] [])
theorem slices_Compare_Sint_int.l2_eq (n : Nat) (m2 : Nat) (l0 : List (List D)) (l1 : List (List D)) (l2 : List (List D)) (i3 : Int) (i4 : Int) :
    slices_Compare_Sint_int.l2 n (m2 + 1) l0 l1 l2 i3 i4 = bif decide (i4 < i3) then bif decide ((0 : Int) ≤ i4) then bif decide (i4 < (↑(List.length l2) : Int)) then Option.bind (Option.bind (some (cellD l2 (Int.toNat i4) (0 : Nat))) (D.int? IntKind.i64)) fun (i1 : Int) => bif decide (i4 ≥ (↑(List.length l1) : Int)) then some [Q.one (D.int IntKind.i64 (1 : Int))] else bif decide ((0 : Int) ≤ i4) then bif decide (i4 < (↑(List.length l1) : Int)) then Option.bind (Option.bind (some (cellD l1 (Int.toNat i4) (0 : Nat))) (D.int? IntKind.i64)) fun (i2 : Int) => bif cmpI i1 i2 != (0 : Int) then some [Q.one (D.int IntKind.i64 (cmpI i1 i2))] else slices_Compare_Sint_int.l2 n m2 l0 l1 l2 i3 (IntKind.wrap IntKind.i64 (i4 + (1 : Int))) else none else none else none else none else bif decide ((↑(List.length l0) : Int) < (↑(List.length l1) : Int)) then some [Q.one (D.int IntKind.i64 (-1 : Int))] else some [Q.one (D.int IntKind.i64 (0 : Int))] := by kernel_rfl
noncomputable def slices_Compare_Sint_int.res (n : Nat) (a0 : List (List D)) (a1 : List (List D)) : Option (List Q) :=
  slices_Compare_Sint_int.l2 n n a0 a1 a0 (↑(List.length a0) : Int) (0 : Int)
theorem slices_Compare_Sint_int.run (n : Nat) (a0 : List (List D)) (a1 : List (List D)) :
    run1 slices_Compare_Sint_int.cfg [RK.one (LK.int IntKind.i64)] n Try.f39 [Q.one (D.sl (1 : Nat) a0), Q.one (D.sl (1 : Nat) a1)] = slices_Compare_Sint_int.res n a0 a1 := by kernel_rfl
theorem slices_Compare_Sint_int.ev {n : Nat} {a0 : List (List D)} {a1 : List (List D)} {r : List Q} (h : slices_Compare_Sint_int.res n a0 a1 = some r) : Snd Try.prog C0 39 [.one (.sl 1 a0), .one (.sl 1 a1)] r :=
  snd_ev (C := slices_Compare_Sint_int.cfg) cfg0 mix rfl rfl rfl rfl rfl (.cons cmp_Compare_int.ok .nil) .nil rfl Try.func39 (by kernel_rfl) (by kernel_rfl) rfl ((slices_Compare_Sint_int.run n a0 a1).trans h)

theorem slices_Compare_Sint_int.loop {n : Nat} {a b : List Int} (hl : a.length ≤ LIM) (he : a.length = b.length) : ∀ (d k m : Nat), k + d = a.length → d < m → slices_Compare_Sint_int.l2 n m (intC.encs a) (intC.encs b) (intC.encs a) a.length k = some [Q.one (.int .i64 (cmpL (a.drop k) (b.drop k)))] := by
  intro d
  induction d with
  | zero =>
    intro k m hk hm
    obtain ⟨m, rfl⟩ : ∃ m', m = m' + 1 := ⟨m - 1, by omega⟩
    obtain rfl : k = a.length := by omega
    rw [List.drop_of_length_le (Nat.le_refl _), List.drop_of_length_le (l := b) (by omega)]
    simp [slices_Compare_Sint_int.l2_eq, he, cmpL]
  | succ d ih =>
    intro k m hk hm
    obtain ⟨m, rfl⟩ : ∃ m', m = m' + 1 := ⟨m - 1, by omega⟩
    have hlt : k < a.length := by omega
    have hlt' : k < b.length := by omega
    have hge : ¬ (k : Int) ≥ b.length := by omega
    rw [slices_Compare_Sint_int.l2_eq, List.drop_eq_getElem_cons hlt, List.drop_eq_getElem_cons hlt', cmpL]
    simp only [Cod.encs_len, Int.ofNat_lt, hlt, hlt', hge, decide_true, decide_false, cond_true, cond_false, Int.natCast_nonneg, Int.toNat_natCast, intC_int' hlt, intC_int' hlt', Option.bind_some, wrap_succ (show k ≤ LIM by omega), ih (k + 1) m (by omega) (by omega), ine]
    by_cases h : cmpI a[k] b[k] = 0 <;> simp only [h, decide_true, decide_false, Bool.not_true, Bool.not_false, cond_true, cond_false]
def slices_Compare_Sint_int.stub : Stub
  | [.one (.sl 1 es), .one (.sl 1 es')] => .any (intC.decs es) fun a => .any (intC.decs es') fun b => .gd (decide (a.length = b.length)) (.ret [.one (.int .i64 (Sp.cmpL a b))])
  | _ => .fail
theorem slices_Compare_Sint_int.ok : StubOk Try.prog C0 39 slices_Compare_Sint_int.stub := by
  intro args res h
  unfold slices_Compare_Sint_int.stub at h
  split at h
  · obtain ⟨a, h1, h0⟩ := any_out h
    obtain ⟨rfl, hl⟩ := Cod.decs_inv h1
    obtain ⟨b, h1', h2⟩ := any_out h0
    obtain ⟨rfl, hl'⟩ := Cod.decs_inv h1'
    obtain ⟨h3, h4⟩ := gd_out h2
    have h3 := of_decide_eq_true h3
    cases h4
    refine slices_Compare_Sint_int.ev (n := a.length + 1) ?_
    unfold slices_Compare_Sint_int.res
    simpa using slices_Compare_Sint_int.loop (n := a.length + 1) hl h3 a.length 0 (a.length + 1) (by omega) (by omega)
  · cases h
/-! impl_Die_order -/
noncomputable def impl_Die_order.cfg : Cfg := { C0 with keep := fun _ => none, nb := 0, M := tabM [(28, impl_Die_faces.stub), (39, slices_Compare_Sint_int.stub)], MM := tabB [] }
noncomputable def impl_Die_order.res (n : Nat) (a0_0 : Int) (a0_1 : Int) (a0_2 : Int) (a0_3 : Int) (a0_4 : Int) (a0_5 : Int) (a1_0 : Int) (a1_1 : Int) (a1_2 : Int) (a1_3 : Int) (a1_4 : Int) (a1_5 : Int) : Option (List Q) :=
  some [Q.one (D.int IntKind.i64 (cmpL [a0_0, a0_1, a0_2, a0_3, a0_4, a0_5] [a1_0, a1_1, a1_2, a1_3, a1_4, a1_5]))]
theorem impl_Die_order.run (n : Nat) (a0_0 : Int) (a0_1 : Int) (a0_2 : Int) (a0_3 : Int) (a0_4 : Int) (a0_5 : Int) (a1_0 : Int) (a1_1 : Int) (a1_2 : Int) (a1_3 : Int) (a1_4 : Int) (a1_5 : Int) :
    run1 impl_Die_order.cfg [RK.one (LK.int IntKind.i64)] n Try.f34 [Q.agg [D.int IntKind.i64 a0_0, D.int IntKind.i64 a0_1, D.int IntKind.i64 a0_2, D.int IntKind.i64 a0_3, D.int IntKind.i64 a0_4, D.int IntKind.i64 a0_5], Q.agg [D.int IntKind.i64 a1_0, D.int IntKind.i64 a1_1, D.int IntKind.i64 a1_2, D.int IntKind.i64 a1_3, D.int IntKind.i64 a1_4, D.int IntKind.i64 a1_5]] = impl_Die_order.res n a0_0 a0_1 a0_2 a0_3 a0_4 a0_5 a1_0 a1_1 a1_2 a1_3 a1_4 a1_5 := by kernel_rfl
theorem impl_Die_order.ev {n : Nat} {a0_0 : Int} {a0_1 : Int} {a0_2 : Int} {a0_3 : Int} {a0_4 : Int} {a0_5 : Int} {a1_0 : Int} {a1_1 : Int} {a1_2 : Int} {a1_3 : Int} {a1_4 : Int} {a1_5 : Int} {r : List Q} (h : impl_Die_order.res n a0_0 a0_1 a0_2 a0_3 a0_4 a0_5 a1_0 a1_1 a1_2 a1_3 a1_4 a1_5 = some r) : Snd Try.prog C0 34 [.agg [.int .i64 a0_0, .int .i64 a0_1, .int .i64 a0_2, .int .i64 a0_3, .int .i64 a0_4, .int .i64 a0_5], .agg [.int .i64 a1_0, .int .i64 a1_1, .int .i64 a1_2, .int .i64 a1_3, .int .i64 a1_4, .int .i64 a1_5]] r :=
  snd_ev (C := impl_Die_order.cfg) cfg0 mix rfl rfl rfl rfl rfl (.cons impl_Die_faces.ok (.cons slices_Compare_Sint_int.ok .nil)) .nil rfl Try.func34 (by kernel_rfl) (by kernel_rfl) rfl ((impl_Die_order.run n a0_0 a0_1 a0_2 a0_3 a0_4 a0_5 a1_0 a1_1 a1_2 a1_3 a1_4 a1_5).trans h)

def impl_Die_order.stub : Stub
  | [.agg [.int .i64 t, .int .i64 n, .int .i64 e, .int .i64 s, .int .i64 w, .int .i64 b], .agg [.int .i64 t', .int .i64 n', .int .i64 e', .int .i64 s', .int .i64 w', .int .i64 b']] => .ret [.one (.int .i64 (Sp.order ⟨t, n, e, s, w, b⟩ ⟨t', n', e', s', w', b'⟩))]
  | _ => .fail
theorem impl_Die_order.ok : StubOk Try.prog C0 34 impl_Die_order.stub := by
  intro args res h
  unfold impl_Die_order.stub at h
  split at h
  · cases h; exact impl_Die_order.ev (n := 0) rfl
  · cases h
end Go.Proofs.EV.PL
namespace Go.Proofs
open Go.Shelf
def Try.sortDie_ren : Go.Shelf.Ren := ⟨fun | 6 => 33 | 15 => 37 | 14 => 38 | 28 => 49 | 29 => 50 | 20 => 51 | 21 => 52 | 22 => 53 | 23 => 54 | 24 => 55 | 25 => 56 | 26 => 57 | 27 => 58 | 46 => 66 | 47 => 61 | 48 => 62 | 49 => 67 | 50 => 68 | 57 => 70 | n => n, fun | 22 => 29 | 24 => 32 | 25 => 55 | 3 => 3 | 39 => 59 | 0 => 0 | 53 => 69 | 55 => 71 | 4 => 4 | 46 => 63 | 45 => 62 | 50 => 23 | 5 => 5 | 9 => 9 | 66 => 78 | 70 => 82 | 76 => 87 | 77 => 88 | n => n, fun | n => n⟩
theorem Try.sortDie : Go.Proofs.SlLaysF0.n6 Try.prog Try.sortDie_ren := {
  mixed := by kernel_rfl
  f6 := ⟨Try.f33.name, by decide, Try.func33.trans (congrArg some (by kernel_rfl))⟩
  f14 := ⟨Try.f38.name, by decide, Try.func38.trans (congrArg some (by kernel_rfl))⟩
  f15 := Try.func37.trans (congrArg some (by kernel_rfl))
  f20 := ⟨Try.f51.name, by decide, Try.func51.trans (congrArg some (by kernel_rfl))⟩
  f21 := ⟨Try.f52.name, by decide, Try.func52.trans (congrArg some (by kernel_rfl))⟩
  f22 := ⟨Try.f53.name, by decide, Try.func53.trans (congrArg some (by kernel_rfl))⟩
  f23 := ⟨Try.f54.name, by decide, Try.func54.trans (congrArg some (by kernel_rfl))⟩
  f24 := ⟨Try.f55.name, by decide, Try.func55.trans (congrArg some (by kernel_rfl))⟩
  f25 := ⟨Try.f56.name, by decide, Try.func56.trans (congrArg some (by kernel_rfl))⟩
  f26 := ⟨Try.f57.name, by decide, Try.func57.trans (congrArg some (by kernel_rfl))⟩
  f27 := ⟨Try.f58.name, by decide, Try.func58.trans (congrArg some (by kernel_rfl))⟩
  f28 := Try.func49.trans (congrArg some (by kernel_rfl))
  f29 := Try.func50.trans (congrArg some (by kernel_rfl))
  f46 := ⟨Try.f66.name, by decide, Try.func66.trans (congrArg some (by kernel_rfl))⟩
  f47 := Try.func61.trans (congrArg some (by kernel_rfl))
  f48 := Try.func62.trans (congrArg some (by kernel_rfl))
  f49 := ⟨Try.f67.name, by decide, Try.func67.trans (congrArg some (by kernel_rfl))⟩
  f50 := ⟨Try.f68.name, by decide, Try.func68.trans (congrArg some (by kernel_rfl))⟩
  f57 := ⟨Try.f70.name, by decide, Try.func70.trans (congrArg some (by kernel_rfl))⟩
  t0 := Try.underlying0
  a0 := Try.isAgg0
  z0 := Try.sizeOf0
  v0 := Try.zeroValue0
  t3 := Try.underlying3
  a3 := Try.isAgg3
  z3 := Try.sizeOf3
  v3 := Try.zeroValue3
  t4 := Try.underlying4
  a4 := Try.isAgg4
  z4 := Try.sizeOf4
  v4 := Try.zeroValue4
  t5 := Try.underlying5
  a5 := Try.isAgg5
  z5 := Try.sizeOf5
  v5 := Try.zeroValue5
  t9 := Try.underlying9
  a9 := Try.isAgg9
  z9 := Try.sizeOf9
  v9 := Try.zeroValue9
  t22 := Try.underlying29
  a22 := Try.isAgg29
  z22 := Try.sizeOf29
  v22 := Try.zeroValue29
  t25 := Try.underlying55
  a25 := Try.isAgg55
  z25 := Try.sizeOf55
  v25 := Try.zeroValue55
  t39 := Try.underlying59
  a39 := Try.isAgg59
  z39 := Try.sizeOf59
  v39 := Try.zeroValue59
  t45 := Try.underlying62
  a45 := Try.isAgg62
  z45 := Try.sizeOf62
  v45 := Try.zeroValue62
  t46 := Try.underlying63
  a46 := Try.isAgg63
  z46 := Try.sizeOf63
  v46 := Try.zeroValue63
  t50 := Try.underlying23
  a50 := Try.isAgg23
  z50 := Try.sizeOf23
  v50 := Try.zeroValue23
  t53 := Try.underlying69
  a53 := Try.isAgg69
  z53 := Try.sizeOf69
  v53 := Try.zeroValue69
  t55 := Try.underlying71
  a55 := Try.isAgg71
  z55 := Try.sizeOf71
  v55 := Try.zeroValue71
  t66 := Try.underlying78
  a66 := Try.isAgg78
  z66 := Try.sizeOf78
  v66 := Try.zeroValue78
  t70 := Try.underlying82
  a70 := Try.isAgg82
  z70 := Try.sizeOf82
  v70 := Try.zeroValue82
  t76 := Try.underlying87
  a76 := Try.isAgg87
  z76 := Try.sizeOf87
  v76 := Try.zeroValue87
  t77 := Try.underlying88
  a77 := Try.isAgg88
  z77 := Try.sizeOf88
  v77 := Try.zeroValue88 }
end Go.Proofs
set_option linter.unusedVariables false
set_option linter.unusedSimpArgs false
/-! All ways to lie, the program's: sorted, each once. -/
namespace Go.Proofs.EV.PL
open Go Go.Proofs Go.Proofs.EV Sp
def sortFunc.stub : StubB
  | [.rw 0, .fnv 34 [] []], [.row false 6 es] => .any (dieC.decs es) fun l => .gd (decide (0 < l.length)) (.ret ([], [.row false 6 (dieC.encs (Sp.sortD l))]))
  | _, _ => .fail
/-! slices_Compact_Simpl_Die_impl_Die -/
noncomputable def slices_Compact_Simpl_Die_impl_Die.cfg : Cfg := { C0 with keep := fun | 4 => some [0, 3] | 9 => some [0, 3, 4, 5] | _ => none, nb := 1, M := tabM [], MM := tabB [] }
noncomputable def slices_Compact_Simpl_Die_impl_Die.l4 (n : Nat) (m4 : Nat) (i0 : Int) (l1 : List (List D)) : Option (List V × List Ob) :=
  loopAtB slices_Compact_Simpl_Die_impl_Die.cfg n Try.f35 [1, 1, 0, 1, 0] [] m4 (St.mk [V.rw (0 : Nat), V.undef, V.undef, V.one true (D.int IntKind.i64 i0), V.undef, V.undef, V.undef, V.undef, V.undef, V.undef, V.undef, V.undef, V.undef, V.undef, V.undef, V.undef, V.undef, V.undef, V.undef, V.undef, V.undef, V.undef, V.undef, V.undef, V.undef, V.undef, V.undef, V.undef, V.undef, V.undef, V.undef, V.undef, V.undef, V.undef, V.undef, V.undef, V.undef, V.undef, V.undef, V.undef, V.undef, V.undef, V.undef, V.undef, V.undef, V.undef, V.undef, V.undef, V.undef, V.undef, V.undef, V.undef, V.undef, V.undef, V.undef, V.undef, V.undef, V.undef, V.undef, V.undef, V.undef] [Ob.row false (6 : Nat) l1])
noncomputable def slices_Compact_Simpl_Die_impl_Die.l9 (n : Nat) (m4 : Nat) (m9 : Nat) (i0 : Int) (j1 : Nat) (j2 : Nat) (i3 : Int) (l4 : List (List D)) : Option (List V × List Ob) :=
  loopAtB slices_Compact_Simpl_Die_impl_Die.cfg n Try.f35 [1, 1, 0, 1, 0, 0, 1, 0, 0, 1, 0, 1, 0, 1, 0] [m4] m9 (St.mk [V.rw (0 : Nat), V.undef, V.undef, V.one true (D.int IntKind.i64 i0), V.rs (0 : Nat) j1 j2, V.one true (D.int IntKind.i64 i3), V.undef, V.undef, V.undef, V.undef, V.undef, V.undef, V.undef, V.undef, V.undef, V.undef, V.undef, V.undef, V.undef, V.undef, V.undef, V.undef, V.undef, V.undef, V.undef, V.undef, V.undef, V.undef, V.undef, V.undef, V.undef, V.undef, V.undef, V.undef, V.undef, V.undef, V.undef, V.undef, V.undef, V.undef, V.undef, V.undef, V.undef, V.undef, V.undef, V.undef, V.undef, V.undef, V.undef, V.undef, V.undef, V.undef, V.undef, V.undef, V.undef, V.undef, V.undef, V.undef, V.undef, V.undef, V.undef] [Ob.row false (6 : Nat) l4])
theorem slices_Compact_Simpl_Die_impl_Die.l4_eq (n : Nat) (m4 : Nat) (i0 : Int) (l1 : List (List D)) :
    slices_Compact_Simpl_Die_impl_Die.l4 n (m4 + 1) i0 l1 = bif decide (i0 < (↑(List.length l1) : Int)) then bif decide ((0 : Int) ≤ i0) then bif decide (i0 < (↑(List.length l1) : Int)) then Option.bind (Option.bind (some (cellD l1 (Int.toNat i0) (0 : Nat))) (D.int? IntKind.i64)) fun (i1 : Int) => Option.bind (Option.bind (some (cellD l1 (Int.toNat i0) (1 : Nat))) (D.int? IntKind.i64)) fun (i2 : Int) => Option.bind (Option.bind (some (cellD l1 (Int.toNat i0) (2 : Nat))) (D.int? IntKind.i64)) fun (i3 : Int) => Option.bind (Option.bind (some (cellD l1 (Int.toNat i0) (3 : Nat))) (D.int? IntKind.i64)) fun (i4 : Int) => Option.bind (Option.bind (some (cellD l1 (Int.toNat i0) (4 : Nat))) (D.int? IntKind.i64)) fun (i5 : Int) => Option.bind (Option.bind (some (cellD l1 (Int.toNat i0) (5 : Nat))) (D.int? IntKind.i64)) fun (i6 : Int) => bif decide ((0 : Int) ≤ IntKind.wrap IntKind.i64 (i0 - (1 : Int))) then bif decide (IntKind.wrap IntKind.i64 (i0 - (1 : Int)) < (↑(List.length l1) : Int)) then Option.bind (Option.bind (some (cellD l1 (Int.toNat (IntKind.wrap IntKind.i64 (i0 - (1 : Int)))) (0 : Nat))) (D.int? IntKind.i64)) fun (i7 : Int) => Option.bind (Option.bind (some (cellD l1 (Int.toNat (IntKind.wrap IntKind.i64 (i0 - (1 : Int)))) (1 : Nat))) (D.int? IntKind.i64)) fun (i8 : Int) => Option.bind (Option.bind (some (cellD l1 (Int.toNat (IntKind.wrap IntKind.i64 (i0 - (1 : Int)))) (2 : Nat))) (D.int? IntKind.i64)) fun (i9 : Int) => Option.bind (Option.bind (some (cellD l1 (Int.toNat (IntKind.wrap IntKind.i64 (i0 - (1 : Int)))) (3 : Nat))) (D.int? IntKind.i64)) fun (i10 : Int) => Option.bind (Option.bind (some (cellD l1 (Int.toNat (IntKind.wrap IntKind.i64 (i0 - (1 : Int)))) (4 : Nat))) (D.int? IntKind.i64)) fun (i11 : Int) => Option.bind (Option.bind (some (cellD l1 (Int.toNat (IntKind.wrap IntKind.i64 (i0 - (1 : Int)))) (5 : Nat))) (D.int? IntKind.i64)) fun (i12 : Int) => bif i1 == i7 && (i2 == i8 && (i3 == i9 && (i4 == i10 && (i5 == i11 && i6 == i12)))) then bif decide ((0 : Int) ≤ i0) then bif decide (i0 ≤ (↑(List.length l1) : Int)) then slices_Compact_Simpl_Die_impl_Die.l9 n m4 n i0 (Int.toNat i0) (List.length l1 - Int.toNat i0) (1 : Int) l1 else none else none else slices_Compact_Simpl_Die_impl_Die.l4 n m4 (IntKind.wrap IntKind.i64 (i0 + (1 : Int))) l1 else none else none else none else none else some ([V.rw (0 : Nat)], [Ob.row false (6 : Nat) l1]) := by kernel_rfl
theorem slices_Compact_Simpl_Die_impl_Die.l9_eq (n : Nat) (m4 : Nat) (m9 : Nat) (i0 : Int) (j1 : Nat) (j2 : Nat) (i3 : Int) (l4 : List (List D)) :
    slices_Compact_Simpl_Die_impl_Die.l9 n m4 (m9 + 1) i0 j1 j2 i3 l4 = bif decide (i3 < (↑j2 : Int)) then bif decide ((0 : Int) ≤ i3) then bif decide (i3 < (↑j2 : Int)) then Option.bind (Option.bind (some (cellD l4 (j1 + Int.toNat i3) (0 : Nat))) (D.int? IntKind.i64)) fun (i13 : Int) => Option.bind (Option.bind (some (cellD l4 (j1 + Int.toNat i3) (1 : Nat))) (D.int? IntKind.i64)) fun (i14 : Int) => Option.bind (Option.bind (some (cellD l4 (j1 + Int.toNat i3) (2 : Nat))) (D.int? IntKind.i64)) fun (i15 : Int) => Option.bind (Option.bind (some (cellD l4 (j1 + Int.toNat i3) (3 : Nat))) (D.int? IntKind.i64)) fun (i16 : Int) => Option.bind (Option.bind (some (cellD l4 (j1 + Int.toNat i3) (4 : Nat))) (D.int? IntKind.i64)) fun (i17 : Int) => Option.bind (Option.bind (some (cellD l4 (j1 + Int.toNat i3) (5 : Nat))) (D.int? IntKind.i64)) fun (i18 : Int) => bif decide ((0 : Int) ≤ IntKind.wrap IntKind.i64 (i3 - (1 : Int))) then bif decide (IntKind.wrap IntKind.i64 (i3 - (1 : Int)) < (↑j2 : Int)) then Option.bind (Option.bind (some (cellD l4 (j1 + Int.toNat (IntKind.wrap IntKind.i64 (i3 - (1 : Int)))) (0 : Nat))) (D.int? IntKind.i64)) fun (i19 : Int) => Option.bind (Option.bind (some (cellD l4 (j1 + Int.toNat (IntKind.wrap IntKind.i64 (i3 - (1 : Int)))) (1 : Nat))) (D.int? IntKind.i64)) fun (i20 : Int) => Option.bind (Option.bind (some (cellD l4 (j1 + Int.toNat (IntKind.wrap IntKind.i64 (i3 - (1 : Int)))) (2 : Nat))) (D.int? IntKind.i64)) fun (i21 : Int) => Option.bind (Option.bind (some (cellD l4 (j1 + Int.toNat (IntKind.wrap IntKind.i64 (i3 - (1 : Int)))) (3 : Nat))) (D.int? IntKind.i64)) fun (i22 : Int) => Option.bind (Option.bind (some (cellD l4 (j1 + Int.toNat (IntKind.wrap IntKind.i64 (i3 - (1 : Int)))) (4 : Nat))) (D.int? IntKind.i64)) fun (i23 : Int) => Option.bind (Option.bind (some (cellD l4 (j1 + Int.toNat (IntKind.wrap IntKind.i64 (i3 - (1 : Int)))) (5 : Nat))) (D.int? IntKind.i64)) fun (i24 : Int) => bif !(i13 == i19 && (i14 == i20 && (i15 == i21 && (i16 == i22 && (i17 == i23 && i18 == i24))))) then bif decide ((0 : Int) ≤ i3) then bif decide (i3 < (↑j2 : Int)) then Option.bind (Option.bind (some (cellD l4 (j1 + Int.toNat i3) (0 : Nat))) (D.int? IntKind.i64)) fun (i25 : Int) => Option.bind (Option.bind (some (cellD l4 (j1 + Int.toNat i3) (1 : Nat))) (D.int? IntKind.i64)) fun (i26 : Int) => Option.bind (Option.bind (some (cellD l4 (j1 + Int.toNat i3) (2 : Nat))) (D.int? IntKind.i64)) fun (i27 : Int) => Option.bind (Option.bind (some (cellD l4 (j1 + Int.toNat i3) (3 : Nat))) (D.int? IntKind.i64)) fun (i28 : Int) => Option.bind (Option.bind (some (cellD l4 (j1 + Int.toNat i3) (4 : Nat))) (D.int? IntKind.i64)) fun (i29 : Int) => Option.bind (Option.bind (some (cellD l4 (j1 + Int.toNat i3) (5 : Nat))) (D.int? IntKind.i64)) fun (i30 : Int) => bif decide ((0 : Int) ≤ i0) then bif decide (i0 < (↑(List.length l4) : Int)) then slices_Compact_Simpl_Die_impl_Die.l9 n m4 m9 (IntKind.wrap IntKind.i64 (i0 + (1 : Int))) j1 j2 (IntKind.wrap IntKind.i64 (i3 + (1 : Int))) (setRow (6 : Nat) l4 (Int.toNat i0) (0 : Nat) [D.int IntKind.i64 i25, D.int IntKind.i64 i26, D.int IntKind.i64 i27, D.int IntKind.i64 i28, D.int IntKind.i64 i29, D.int IntKind.i64 i30]) else none else none else none else none else slices_Compact_Simpl_Die_impl_Die.l9 n m4 m9 i0 j1 j2 (IntKind.wrap IntKind.i64 (i3 + (1 : Int))) l4 else none else none else none else none else bif decide ((0 : Int) ≤ i0) then bif decide (i0 ≤ (↑(List.length l4) : Int)) then bif decide ((0 : Int) ≤ i0) then bif decide (i0 ≤ (↑(List.length (splice l4 (Int.toNat i0) (List.replicate (List.length l4 - Int.toNat i0) [D.int IntKind.i64 (0 : Int), D.int IntKind.i64 (0 : Int), D.int IntKind.i64 (0 : Int), D.int IntKind.i64 (0 : Int), D.int IntKind.i64 (0 : Int), D.int IntKind.i64 (0 : Int)]))) : Int)) then some ([V.rs (0 : Nat) (0 : Nat) (Int.toNat i0 - (0 : Nat))], [Ob.row false (6 : Nat) (splice l4 (Int.toNat i0) (List.replicate (List.length l4 - Int.toNat i0) [D.int IntKind.i64 (0 : Int), D.int IntKind.i64 (0 : Int), D.int IntKind.i64 (0 : Int), D.int IntKind.i64 (0 : Int), D.int IntKind.i64 (0 : Int), D.int IntKind.i64 (0 : Int)]))]) else none else none else none else none := by kernel_rfl
noncomputable def slices_Compact_Simpl_Die_impl_Die.res (n : Nat) (es : List (List D)) : Option (List V × List Ob) :=
  bif decide ((↑(List.length es) : Int) < (2 : Int)) then some ([V.rw (0 : Nat)], [Ob.row false (6 : Nat) es]) else slices_Compact_Simpl_Die_impl_Die.l4 n n (1 : Int) es
theorem slices_Compact_Simpl_Die_impl_Die.run (n : Nat) (es : List (List D)) :
    (fun p : List V × List Ob => runB slices_Compact_Simpl_Die_impl_Die.cfg n Try.f35 p.1 p.2) ([V.rw (0 : Nat)], [Ob.row false (6 : Nat) es]) = slices_Compact_Simpl_Die_impl_Die.res n es := by kernel_rfl
theorem slices_Compact_Simpl_Die_impl_Die.ev {n : Nat} {es : List (List D)} {r : List V} {o : List Ob} (h : slices_Compact_Simpl_Die_impl_Die.res n es = some (r, o)) : SndB Try.prog C0 35 [.rw 0] [.row false 6 es] r o :=
  sndB_ev (C := slices_Compact_Simpl_Die_impl_Die.cfg) cfg0 mix rfl rfl rfl rfl rfl .nil .nil Try.func35 (by kernel_rfl) (by kernel_rfl) rfl ((slices_Compact_Simpl_Die_impl_Die.run n es).trans h)

/-- The row behind the first that stands twice. -/
theorem slices_Compact_Simpl_Die_impl_Die.l9_run {n m4 : Nat} {l : List Die} {k0 : Nat} (hl : l.length ≤ LIM) : ∀ (d i k m : Nat) (cur : List Die), k0 + i + d = l.length → d < m → 0 < i → k ≤ k0 + i - 1 → k0 + i ≤ l.length →
    cur.length = l.length → cur.take k = uniqD (l.take (k0 + i)) → cur.drop (k0 + i - 1) = l.drop (k0 + i - 1) →
    slices_Compact_Simpl_Die_impl_Die.l9 n m4 m k k0 (l.length - k0) i (dieC.encs cur) = some ([V.rs 0 0 (uniqD l).length], [Ob.row false 6 (dieC.encs (uniqD l ++ zerosD (l.length - (uniqD l).length)))]) := by
  intro d
  induction d with
  | zero =>
    intro i k m cur hd hm hi hk hle hc ht hdr
    obtain ⟨m, rfl⟩ : ∃ m', m = m' + 1 := ⟨m - 1, by omega⟩
    have h1 : ¬ (i : Int) < ((l.length - k0 : Nat) : Int) := by omega
    have h2 : (k : Int) ≤ cur.length := by omega
    rw [show k0 + i = l.length by omega, List.take_length] at ht
    have hkl : (uniqD l).length = k := by rw [← ht, List.length_take]; omega
    rw [slices_Compact_Simpl_Die_impl_Die.l9_eq]
    have hs : splice (dieC.encs cur) k (List.replicate (cur.length - k) [D.int .i64 0, D.int .i64 0, D.int .i64 0, D.int .i64 0, D.int .i64 0, D.int .i64 0]) = dieC.encs (uniqD l ++ zerosD (l.length - k)) := by
      unfold splice
      rw [dieC_zeros, Cod.encs_take, ht, Cod.encs_append, List.drop_of_length_le (by simp [zerosD]; omega), List.append_nil, hc]
    have hsl : (uniqD l ++ zerosD (l.length - k)).length = l.length := by simp [zerosD, hkl]; omega
    have h3 : (k : Int) ≤ l.length := by omega
    simp only [h1, h2, decide_false, decide_true, cond_false, cond_true, Cod.encs_len, Int.natCast_nonneg, Int.toNat_natCast, hs, hsl, h3, hkl, Nat.sub_zero]
  | succ d ih =>
    intro i k m cur hd hm hi hk hle hc ht hdr
    obtain ⟨m, rfl⟩ : ∃ m', m = m' + 1 := ⟨m - 1, by omega⟩
    obtain ⟨i, rfl⟩ : ∃ i', i = i' + 1 := ⟨i - 1, by omega⟩
    have h1 : ((i + 1 : Nat) : Int) < ((l.length - k0 : Nat) : Int) := by omega
    have h1' : ((i : Nat) : Int) < ((l.length - k0 : Nat) : Int) := by omega
    have c1 : k0 + (i + 1) < cur.length := by omega
    have c2 : k0 + i < cur.length := by omega
    have c3 : (k : Int) < cur.length := by omega
    have e1 : cur[k0 + (i + 1)] = l[k0 + (i + 1)]'(by omega) := by
      have := congrArg (fun q => q[1]?) hdr
      simp only [List.getElem?_drop] at this
      rw [show k0 + (i + 1) - 1 + 1 = k0 + (i + 1) by omega, List.getElem?_eq_getElem c1, List.getElem?_eq_getElem (by omega)] at this
      exact Option.some.inj this
    have e2 : cur[k0 + i] = l[k0 + i]'(by omega) := by
      have := congrArg (fun q => q[0]?) hdr
      simp only [List.getElem?_drop] at this
      rw [show k0 + (i + 1) - 1 + 0 = k0 + i by omega, List.getElem?_eq_getElem c2, List.getElem?_eq_getElem (by omega)] at this
      exact Option.some.inj this
    have ht1 : l.take (k0 + (i + 1)) = l.take (k0 + i) ++ [l[k0 + i]'(by omega)] := by
      rw [show k0 + (i + 1) = k0 + i + 1 by omega, List.take_succ_eq_append_getElem (by omega)]
    have ht2 : l.take (k0 + (i + 1 + 1)) = l.take (k0 + i) ++ [l[k0 + i]'(by omega)] ++ [l[k0 + (i + 1)]'(by omega)] := by
      rw [← ht1, show k0 + (i + 1 + 1) = k0 + (i + 1) + 1 by omega, List.take_succ_eq_append_getElem (by omega)]
    have hu := uniqD_snoc (l[k0 + (i + 1)]'(by omega)) (l[k0 + i]'(by omega)) (l.take (k0 + i))
    rw [← ht2, ← ht1] at hu
    rw [slices_Compact_Simpl_Die_impl_Die.l9_eq]
    simp only [h1, h1', wrap_back (show i ≤ LIM by omega), decide_true, cond_true, Cod.encs_len, Int.natCast_nonneg, Int.toNat_natCast, dieC_t' c1, dieC_n' c1, dieC_e' c1, dieC_s' c1, dieC_w' c1, dieC_b' c1, dieC_t' c2, dieC_n' c2, dieC_e' c2, dieC_s' c2, dieC_w' c2, dieC_b' c2, Option.bind_some, die_beq, c3, dieC_set, wrap_succ (show k ≤ LIM by omega), wrap_succ (show i + 1 ≤ LIM by omega)]
    rw [e1, e2]
    by_cases he : l[k0 + (i + 1)]'(by omega) = l[k0 + i]'(by omega)
    · simp only [he, decide_true, Bool.not_true, cond_false]
      refine ih (i + 1 + 1) k m cur (by omega) (by omega) (by omega) (by omega) (by omega) hc ?_ ?_
      · rw [hu, ht]; simp [he]
      · rw [show k0 + (i + 1 + 1) - 1 = (k0 + (i + 1) - 1) + 1 by omega, ← List.drop_drop, hdr, List.drop_drop]
    · simp only [he, decide_false, Bool.not_false, cond_true]
      have he' : ¬ l[k0 + i]'(by omega) = l[k0 + (i + 1)]'(by omega) := fun e => he e.symm
      refine ih (i + 1 + 1) (k + 1) m _ (by omega) (by omega) (by omega) (by omega) (by omega) (by simpa using hc) ?_ ?_
      · rw [hu]
        simp only [he', decide_false, cond_false]
        rw [← ht, List.take_succ_eq_append_getElem (by simp; omega), List.take_set_of_le (Nat.le_refl _), List.getElem_set_self]
      · rw [List.drop_set_of_lt (by omega), show k0 + (i + 1 + 1) - 1 = (k0 + (i + 1) - 1) + 1 by omega, ← List.drop_drop, hdr, List.drop_drop]
theorem slices_Compact_Simpl_Die_impl_Die.l4_run {n : Nat} {l : List Die} (hl : l.length ≤ LIM) (hn : l.length < n) : ∀ (d i m : Nat), i + 1 + d = l.length → d < m → uniqD (l.take (i + 1)) = l.take (i + 1) →
    ∃ r, slices_Compact_Simpl_Die_impl_Die.l4 n m ((i + 1 : Nat) : Int) (dieC.encs l) = some ([r], [Ob.row false 6 (dieC.encs (uniqD l ++ zerosD (l.length - (uniqD l).length)))]) ∧ (r = V.rs 0 0 (uniqD l).length ∨ r = V.rw 0 ∧ (uniqD l).length = l.length) := by
  intro d
  induction d with
  | zero =>
    intro i m hd hm hu
    obtain ⟨m, rfl⟩ : ∃ m', m = m' + 1 := ⟨m - 1, by omega⟩
    have h1 : ¬ ((i + 1 : Nat) : Int) < l.length := by omega
    rw [show i + 1 = l.length by omega, List.take_length] at hu
    refine ⟨V.rw 0, ?_, .inr ⟨rfl, by rw [hu]⟩⟩
    rw [slices_Compact_Simpl_Die_impl_Die.l4_eq]
    simp only [Cod.encs_len, h1, decide_false, cond_false, hu, Nat.sub_self]
    simp [zerosD]
  | succ d ih =>
    intro i m hd hm hu
    obtain ⟨m, rfl⟩ : ∃ m', m = m' + 1 := ⟨m - 1, by omega⟩
    have c1 : i + 1 < l.length := by omega
    have c2 : i < l.length := by omega
    have h1 : ((i + 1 : Nat) : Int) < l.length := by omega
    have h1' : ((i : Nat) : Int) < l.length := by omega
    have h2 : ((i + 1 : Nat) : Int) ≤ l.length := by omega
    have ht1 : l.take (i + 1) = l.take i ++ [l[i]] := List.take_succ_eq_append_getElem c2
    have ht2 : l.take (i + 1 + 1) = l.take i ++ [l[i]] ++ [l[i + 1]] := by rw [← ht1, List.take_succ_eq_append_getElem c1]
    have hs := uniqD_snoc l[i + 1] l[i] (l.take i)
    rw [← ht2, ← ht1] at hs
    rw [slices_Compact_Simpl_Die_impl_Die.l4_eq]
    simp only [h1, h1', h2, wrap_back (show i ≤ LIM by omega), decide_true, cond_true, Cod.encs_len, Int.natCast_nonneg, Int.toNat_natCast, dieC_t' c1, dieC_n' c1, dieC_e' c1, dieC_s' c1, dieC_w' c1, dieC_b' c1, dieC_t' c2, dieC_n' c2, dieC_e' c2, dieC_s' c2, dieC_w' c2, dieC_b' c2, Option.bind_some, die_beq, wrap_succ (show i + 1 ≤ LIM by omega)]
    by_cases he : l[i + 1] = l[i]
    · simp only [he, decide_true, cond_true]
      have hlen : (l.take (i + 1)).length = i + 1 := by rw [List.length_take]; omega
      refine ⟨_, slices_Compact_Simpl_Die_impl_Die.l9_run (n := n) (m4 := m) (k0 := i + 1) hl (l.length - (i + 2)) 1 (i + 1) n l (by omega) (by omega) (by omega) (by omega) (by omega) rfl ?_ rfl, .inl rfl⟩
      rw [hs, hu]; simp [he]
    · simp only [he, decide_false, cond_false]
      have he' : ¬ l[i] = l[i + 1] := fun e => he e.symm
      refine ih (i + 1) m (by omega) (by omega) ?_
      rw [hs, hu]
      simp only [he', decide_false, cond_false]
      rw [List.take_succ_eq_append_getElem c1]
def compact.stub : StubB
  | [.rw 0], [.row false 6 es] => .any (dieC.decs es) fun l => .ret ([.rs 0 0 (Sp.uniqD l).length], [.row false 6 (dieC.encs (Sp.uniqD l ++ Sp.zerosD (l.length - (Sp.uniqD l).length)))])
  | _, _ => .fail
theorem order_lt (x y : Die) : Go.Proofs.ltOf Sp.order x y = less x y := order_less x y
theorem order_swo : Go.Sort.SWO (Go.Proofs.ltOf Sp.order) where
  irrefl x := by rw [order_lt]; exact less_irrefl x
  trans x y z h1 h2 := by rw [order_lt] at *; exact less_trans h1 h2
  ntrans x y z h1 h2 := by rw [order_lt] at *; exact less_ntrans h1 h2
/-- Dice are sorted. -/
theorem sortFunc.ok : StubBOk Try.prog C0 33 sortFunc.stub := by
  intro args objs res objs' h
  unfold sortFunc.stub at h
  split at h
  · obtain ⟨l, h1, h0⟩ := any_out h
    obtain ⟨rfl, hl⟩ := Cod.decs_inv h1
    obtain ⟨h2, h3⟩ := gd_out h0
    have h2 := of_decide_eq_true h2
    cases h3
    have := sortFunc_ok (C := C0) Try.sortDie dieC 6 (by decide) (fun _ => rfl) (fun x d hd => by
      unfold dieC at hd
      simp only [List.mem_cons, List.not_mem_nil, or_false] at hd
      rcases hd with rfl | rfl | rfl | rfl | rfl | rfl <;> rfl) Try.isAgg32 Try.sizeOf32 Sp.order order_swo (fun x y h1 h2 => by rw [order_lt] at *; exact less_tri h1 h2) Try.func34 (by kernel_rfl) (by kernel_rfl) rfl (fun _ => rfl) (fun x y => impl_Die_order.ok _ _ rfl) (f := 33) rfl Try.func33 (by kernel_rfl) (by kernel_rfl) l h2 hl
    have e : (l.mergeSort fun x y => !(Go.Proofs.ltOf Sp.order) y x) = sortD l := by
      unfold sortD
      congr 1
      funext x y
      rw [order_lt]
    rw [e] at this
    exact this
  · cases h
theorem compact.ok : StubBOk Try.prog C0 35 compact.stub := by
  intro args objs res objs' h
  unfold compact.stub at h
  split at h
  · obtain ⟨l, h1, h0⟩ := any_out h
    obtain ⟨rfl, hl⟩ := Cod.decs_inv h1
    cases h0
    have key : ∃ r, slices_Compact_Simpl_Die_impl_Die.res (l.length + 1) (dieC.encs l) = some ([r], [Ob.row false 6 (dieC.encs (uniqD l ++ zerosD (l.length - (uniqD l).length)))]) ∧ (r = V.rs 0 0 (uniqD l).length ∨ r = V.rw 0 ∧ (uniqD l).length = l.length) := by
      unfold slices_Compact_Simpl_Die_impl_Die.res
      by_cases h2 : l.length < 2
      · have h3 : (l.length : Int) < 2 := by omega
        simp only [Cod.encs_len, h3, decide_true, cond_true]
        have hu : uniqD l = l := by
          match l, h2 with
          | [], _ => rfl
          | [x], _ => rfl
        refine ⟨V.rw 0, ?_, .inr ⟨rfl, by rw [hu]⟩⟩
        rw [hu]; simp [zerosD]
      · have h3 : ¬ (l.length : Int) < 2 := by omega
        simp only [Cod.encs_len, h3, decide_false, cond_false]
        refine slices_Compact_Simpl_Die_impl_Die.l4_run (n := l.length + 1) hl (by omega) (l.length - 1) 0 (l.length + 1) (by omega) (by omega) ?_
        match l, h2 with
        | x :: l, _ => rfl
    obtain ⟨r, h2, h3⟩ := key
    have hs := slices_Compact_Simpl_Die_impl_Die.ev (n := l.length + 1) h2
    rcases h3 with rfl | ⟨rfl, hlen⟩
    · exact hs
    · exact hs.whole (by rw [Cod.encs_len, List.length_append, zerosD, List.length_replicate, hlen]; omega)
  · cases h
/-! impl_sortedDice -/
noncomputable def impl_sortedDice.cfg : Cfg := { C0 with keep := fun _ => none, nb := 1, M := tabM [], MM := tabB [(33, sortFunc.stub), (35, compact.stub)] }
noncomputable def impl_sortedDice.res (n : Nat) (es : List (List D)) : Option (List V × List Ob) :=
  Option.bind (Cod.decs dieC es) fun (l1 : List Die) => bif decide ((0 : Nat) < List.length l1) then Option.bind (Cod.decs dieC (Cod.encs dieC (sortD l1))) fun (l2 : List Die) => some ([V.rs (0 : Nat) (0 : Nat) (List.length (uniqD l2))], [Ob.row false (6 : Nat) (Cod.encs dieC (uniqD l2 ++ zerosD (List.length l2 - List.length (uniqD l2))))]) else none
theorem impl_sortedDice.run (n : Nat) (es : List (List D)) :
    (fun p : List V × List Ob => runB impl_sortedDice.cfg n Try.f27 p.1 p.2) ([V.rw (0 : Nat)], [Ob.row false (6 : Nat) es]) = impl_sortedDice.res n es := by kernel_rfl
theorem impl_sortedDice.ev {n : Nat} {es : List (List D)} {r : List V} {o : List Ob} (h : impl_sortedDice.res n es = some (r, o)) : SndB Try.prog C0 27 [.rw 0] [.row false 6 es] r o :=
  sndB_ev (C := impl_sortedDice.cfg) cfg0 mix rfl rfl rfl rfl rfl .nil (.cons sortFunc.ok (.cons compact.ok .nil)) Try.func27 (by kernel_rfl) (by kernel_rfl) rfl ((impl_sortedDice.run n es).trans h)

def impl_sortedDice.stub : StubB
  | [.rw 0], [.row false 6 es] => .any (dieC.decs es) fun l => .gd (decide (0 < l.length)) (.ret ([.rs 0 0 (Sp.uniqD (Sp.sortD l)).length], [.row false 6 (dieC.encs (Sp.uniqD (Sp.sortD l) ++ Sp.zerosD (l.length - (Sp.uniqD (Sp.sortD l)).length)))]))
  | _, _ => .fail
theorem impl_sortedDice.ok : StubBOk Try.prog C0 27 impl_sortedDice.stub := by
  intro args objs res objs' h
  unfold impl_sortedDice.stub at h
  split at h
  · obtain ⟨l, h1, h0⟩ := any_out h
    obtain ⟨rfl, hl⟩ := Cod.decs_inv h1
    obtain ⟨h2, h3⟩ := gd_out h0
    cases h3
    refine impl_sortedDice.ev (n := 0) ?_
    unfold impl_sortedDice.res
    have hl2 : (sortD l).length ≤ LIM := by rw [sortD_len]; exact hl
    rw [Cod.decs_encs hl, Option.bind_some, h2, cond_true, Cod.decs_encs hl2, Option.bind_some, sortD_len]
  · cases h
/-! impl_Die_ways -/
noncomputable def impl_Die_ways.cfg : Cfg := { C0 with keep := fun | 3 => some [1, 3, 7, 8, 9] | _ => none, nb := 0, M := tabM [(25, impl_shortWords.stub), (26, impl_Die_rolled.stub)], MM := tabB [(27, impl_sortedDice.stub)] }
noncomputable def impl_Die_ways.l3 (n : Nat) (m3 : Nat) (i0 : Int) (i1 : Int) (i2 : Int) (i3 : Int) (i4 : Int) (i5 : Int) (i6 : Int) (i7 : Int) (l8 : List (List D)) (l9 : List (List D)) : Option (List Q) :=
  loopAt impl_Die_ways.cfg [RK.own (6 : Nat)] n Try.f15 [1, 1, 0, 1, 0] [] m3 (St.mk [V.undef, V.rp (0 : Nat) (0 : Nat), V.undef, V.rw (1 : Nat), V.undef, V.undef, V.undef, V.rw (2 : Nat), V.one true (D.int IntKind.i64 i0), V.one true (D.int IntKind.i64 i1), V.undef, V.undef, V.undef, V.undef, V.undef, V.undef, V.undef, V.undef, V.undef, V.undef, V.undef, V.undef] [Ob.box [V.one true (D.int IntKind.i64 i2), V.one true (D.int IntKind.i64 i3), V.one true (D.int IntKind.i64 i4), V.one true (D.int IntKind.i64 i5), V.one true (D.int IntKind.i64 i6), V.one true (D.int IntKind.i64 i7)], Ob.row false (6 : Nat) l8, Ob.row false (1 : Nat) l9])
theorem impl_Die_ways.l3_eq (n : Nat) (m3 : Nat) (i0 : Int) (i1 : Int) (i2 : Int) (i3 : Int) (i4 : Int) (i5 : Int) (i6 : Int) (i7 : Int) (l8 : List (List D)) (l9 : List (List D)) :
    impl_Die_ways.l3 n (m3 + 1) i0 i1 i2 i3 i4 i5 i6 i7 l8 l9 = bif decide (i1 < i0) then bif decide ((0 : Int) ≤ i1) then bif decide (i1 < (↑(List.length l9) : Int)) then Option.bind (Option.bind (some (cellD l9 (Int.toNat i1) (0 : Nat))) D.str?) fun (s1 : ByteArray) => bif decide (ByteArray.size s1 ≤ (17179869184 : Nat)) then bif decide (List.length l8 + (1 : Nat) ≤ (17179869184 : Nat)) then impl_Die_ways.l3 n m3 i0 (IntKind.wrap IntKind.i64 (i1 + (1 : Int))) i2 i3 i4 i5 i6 i7 (l8 ++ [[D.int IntKind.i64 (Die.t (rolledB (Die.mk i2 i3 i4 i5 i6 i7) s1)), D.int IntKind.i64 (Die.n (rolledB (Die.mk i2 i3 i4 i5 i6 i7) s1)), D.int IntKind.i64 (Die.e (rolledB (Die.mk i2 i3 i4 i5 i6 i7) s1)), D.int IntKind.i64 (Die.s (rolledB (Die.mk i2 i3 i4 i5 i6 i7) s1)), D.int IntKind.i64 (Die.w (rolledB (Die.mk i2 i3 i4 i5 i6 i7) s1)), D.int IntKind.i64 (Die.b (rolledB (Die.mk i2 i3 i4 i5 i6 i7) s1))]]) l9 else none else none else none else none else Option.bind (Cod.decs dieC l8) fun (l2 : List Die) => bif decide ((0 : Nat) < List.length l2) then some [Q.one (D.sl (6 : Nat) (List.take (List.length (uniqD (sortD l2))) (Cod.encs dieC (uniqD (sortD l2) ++ zerosD (List.length l2 - List.length (uniqD (sortD l2)))))))] else none := by kernel_rfl
noncomputable def impl_Die_ways.res (n : Nat) (a0_0 : Int) (a0_1 : Int) (a0_2 : Int) (a0_3 : Int) (a0_4 : Int) (a0_5 : Int) : Option (List Q) :=
  impl_Die_ways.l3 n n (24 : Int) (0 : Int) a0_0 a0_1 a0_2 a0_3 a0_4 a0_5 [] (Cod.encs strC short)
theorem impl_Die_ways.run (n : Nat) (a0_0 : Int) (a0_1 : Int) (a0_2 : Int) (a0_3 : Int) (a0_4 : Int) (a0_5 : Int) :
    run1 impl_Die_ways.cfg [RK.own (6 : Nat)] n Try.f15 [Q.agg [D.int IntKind.i64 a0_0, D.int IntKind.i64 a0_1, D.int IntKind.i64 a0_2, D.int IntKind.i64 a0_3, D.int IntKind.i64 a0_4, D.int IntKind.i64 a0_5]] = impl_Die_ways.res n a0_0 a0_1 a0_2 a0_3 a0_4 a0_5 := by kernel_rfl
theorem impl_Die_ways.ev {n : Nat} {a0_0 : Int} {a0_1 : Int} {a0_2 : Int} {a0_3 : Int} {a0_4 : Int} {a0_5 : Int} {r : List Q} (h : impl_Die_ways.res n a0_0 a0_1 a0_2 a0_3 a0_4 a0_5 = some r) : Snd Try.prog C0 15 [.agg [.int .i64 a0_0, .int .i64 a0_1, .int .i64 a0_2, .int .i64 a0_3, .int .i64 a0_4, .int .i64 a0_5]] r :=
  snd_ev (C := impl_Die_ways.cfg) cfg0 mix rfl rfl rfl rfl rfl (.cons impl_shortWords.ok (.cons impl_Die_rolled.ok .nil)) (.cons impl_sortedDice.ok .nil) rfl Try.func15 (by kernel_rfl) (by kernel_rfl) rfl ((impl_Die_ways.run n a0_0 a0_1 a0_2 a0_3 a0_4 a0_5).trans h)

theorem impl_Die_ways.loop {n : Nat} {d : Die} : ∀ (q k m : Nat), k + q = 24 → q < m →
    impl_Die_ways.l3 n m 24 k d.t d.n d.e d.s d.w d.b (dieC.encs ((made d).take k)) (strC.encs short) = some [Q.one (.sl 6 (dieC.encs (Sp.ways d)))] := by
  intro q
  induction q with
  | zero =>
    intro k m hk hm
    obtain ⟨m, rfl⟩ : ∃ m', m = m' + 1 := ⟨m - 1, by omega⟩
    obtain rfl : k = 24 := by omega
    have h1 : ¬ ((24 : Nat) : Int) < 24 := by decide
    have hl : (made d).length ≤ LIM := by rw [made_len]; decide
    have h2 : 0 < (made d).length := by rw [made_len]; decide
    rw [impl_Die_ways.l3_eq, List.take_of_length_le (by rw [made_len]; exact Nat.le_refl _)]
    simp only [h1, decide_false, cond_false, Cod.decs_encs hl, Option.bind_some, h2, decide_true, cond_true, uniq_made]
    rw [Cod.encs_take, List.take_left]
  | succ q ih =>
    intro k m hk hm
    obtain ⟨m, rfl⟩ : ∃ m', m = m' + 1 := ⟨m - 1, by omega⟩
    have hlt : k < short.length := by rw [short_len]; omega
    have h1 : (k : Int) < 24 := by omega
    have h2 : (k : Int) < short.length := by omega
    have h3 : short[k].size ≤ 17179869184 := short_size _ (List.getElem_mem hlt)
    have hm2 : k < (made d).length := by rw [made_len]; omega
    have h4 : ((made d).take k).length + 1 ≤ 17179869184 := by rw [List.length_take]; omega
    have e : rolledB d short[k] = (made d)[k] := made_get hlt hm2
    rw [impl_Die_ways.l3_eq]
    simp only [h1, h2, h3, h4, decide_true, cond_true, Int.natCast_nonneg, Cod.encs_len, Int.toNat_natCast, strC_cell hlt, Option.bind_some, Die.eta, dieC_snoc, wrap_succ (show k ≤ LIM by unfold LIM; omega)]
    have hih := ih (k + 1) m (by omega) (by omega)
    rw [List.take_succ_eq_append_getElem hm2, ← e] at hih
    exact hih
def impl_Die_ways.stub : Stub
  | [.agg [.int .i64 t, .int .i64 n, .int .i64 e, .int .i64 s, .int .i64 w, .int .i64 b]] => .ret [.one (.sl 6 (dieC.encs (Sp.ways ⟨t, n, e, s, w, b⟩)))]
  | _ => .fail
theorem impl_Die_ways.ok : StubOk Try.prog C0 15 impl_Die_ways.stub := by
  intro args res h
  unfold impl_Die_ways.stub at h
  split at h
  · rename_i t n e s w b
    cases h
    refine impl_Die_ways.ev (n := 30) ?_
    exact impl_Die_ways.loop (n := 30) (d := ⟨t, n, e, s, w, b⟩) 24 0 30 (by omega) (by omega)
  · cases h
end Go.Proofs.EV.PL
namespace Go.Proofs
open Go.Shelf
def Try.sortInt_ren : Go.Shelf.Ren := ⟨fun | 189 => 29 | 125 => 37 | 257 => 36 | 128 => 49 | 129 => 50 | 294 => 40 | 295 => 41 | 296 => 42 | 297 => 43 | 298 => 44 | 299 => 45 | 216 => 46 | 300 => 47 | 301 => 48 | 328 => 60 | 329 => 61 | 330 => 62 | 331 => 63 | 332 => 64 | 215 => 65 | 343 => 69 | n => n, fun | 28 => 22 | 3 => 3 | 46 => 59 | 0 => 0 | 51 => 69 | 53 => 71 | 4 => 4 | 183 => 63 | 182 => 62 | 131 => 23 | 5 => 5 | 9 => 9 | 218 => 78 | 222 => 82 | 228 => 87 | 229 => 88 | n => n, fun | n => n⟩
theorem Try.sortInt : Go.Proofs.Lays.n189 Try.prog Try.sortInt_ren := {
  mixed := by kernel_rfl
  f125 := Try.func37.trans (congrArg some (by kernel_rfl))
  f128 := Try.func49.trans (congrArg some (by kernel_rfl))
  f129 := Try.func50.trans (congrArg some (by kernel_rfl))
  f189 := Try.func29.trans (congrArg some (by kernel_rfl))
  f215 := Try.func65.trans (congrArg some (by kernel_rfl))
  f216 := Try.func46.trans (congrArg some (by kernel_rfl))
  f257 := Try.func36.trans (congrArg some (by kernel_rfl))
  f294 := Try.func40.trans (congrArg some (by kernel_rfl))
  f295 := Try.func41.trans (congrArg some (by kernel_rfl))
  f296 := Try.func42.trans (congrArg some (by kernel_rfl))
  f297 := Try.func43.trans (congrArg some (by kernel_rfl))
  f298 := Try.func44.trans (congrArg some (by kernel_rfl))
  f299 := Try.func45.trans (congrArg some (by kernel_rfl))
  f300 := Try.func47.trans (congrArg some (by kernel_rfl))
  f301 := Try.func48.trans (congrArg some (by kernel_rfl))
  f328 := Try.func60.trans (congrArg some (by kernel_rfl))
  f329 := Try.func61.trans (congrArg some (by kernel_rfl))
  f330 := Try.func62.trans (congrArg some (by kernel_rfl))
  f331 := Try.func63.trans (congrArg some (by kernel_rfl))
  f332 := Try.func64.trans (congrArg some (by kernel_rfl))
  f343 := Try.func69.trans (congrArg some (by kernel_rfl))
  t0 := Try.underlying0
  a0 := Try.isAgg0
  z0 := Try.sizeOf0
  v0 := Try.zeroValue0
  t3 := Try.underlying3
  a3 := Try.isAgg3
  z3 := Try.sizeOf3
  v3 := Try.zeroValue3
  t4 := Try.underlying4
  a4 := Try.isAgg4
  z4 := Try.sizeOf4
  v4 := Try.zeroValue4
  t5 := Try.underlying5
  a5 := Try.isAgg5
  z5 := Try.sizeOf5
  v5 := Try.zeroValue5
  t9 := Try.underlying9
  a9 := Try.isAgg9
  z9 := Try.sizeOf9
  v9 := Try.zeroValue9
  t28 := Try.underlying22
  a28 := Try.isAgg22
  z28 := Try.sizeOf22
  v28 := Try.zeroValue22
  t46 := Try.underlying59
  a46 := Try.isAgg59
  z46 := Try.sizeOf59
  v46 := Try.zeroValue59
  t51 := Try.underlying69
  a51 := Try.isAgg69
  z51 := Try.sizeOf69
  v51 := Try.zeroValue69
  t53 := Try.underlying71
  a53 := Try.isAgg71
  z53 := Try.sizeOf71
  v53 := Try.zeroValue71
  t131 := Try.underlying23
  a131 := Try.isAgg23
  z131 := Try.sizeOf23
  v131 := Try.zeroValue23
  t182 := Try.underlying62
  a182 := Try.isAgg62
  z182 := Try.sizeOf62
  v182 := Try.zeroValue62
  t183 := Try.underlying63
  a183 := Try.isAgg63
  z183 := Try.sizeOf63
  v183 := Try.zeroValue63
  t218 := Try.underlying78
  a218 := Try.isAgg78
  z218 := Try.sizeOf78
  v218 := Try.zeroValue78
  t222 := Try.underlying82
  a222 := Try.isAgg82
  z222 := Try.sizeOf82
  v222 := Try.zeroValue82
  t228 := Try.underlying87
  a228 := Try.isAgg87
  z228 := Try.sizeOf87
  v228 := Try.zeroValue87
  t229 := Try.underlying88
  a229 := Try.isAgg88
  z229 := Try.sizeOf88
  v229 := Try.zeroValue88 }
end Go.Proofs
set_option linter.unusedVariables false
set_option linter.unusedSimpArgs false
/-! Cycles. -/
namespace Go.Proofs.EV.PL
open Go Go.Proofs Go.Proofs.EV Sp
def sortI.stub : StubB
  | [.rw 0], [.row false 1 es] => .any (intC.decs es) fun l => .gd (decide (0 < l.length)) (.ret ([], [.row false 1 (intC.encs (Sp.sortN l))]))
  | _, _ => .fail
theorem sortI.ok : StubBOk Try.prog C0 29 sortI.stub := by
  intro args objs res objs' h
  unfold sortI.stub at h
  split at h
  · obtain ⟨l, h1, h0⟩ := any_out h
    obtain ⟨rfl, hl⟩ := Cod.decs_inv h1
    obtain ⟨h2, h3⟩ := gd_out h0
    have h2 := of_decide_eq_true h2
    cases h3
    exact sortRow_ok intC (Value.int .i64) (fun x => ⟨_, rfl, rfl, rfl⟩) (f := 29) Try.func29 (by kernel_rfl) (by kernel_rfl) l (Sp.sortN l) h2 (List.length_mergeSort _) fun blk cap w hH hb =>
      Any.slices_Sort_int Try.sortInt blk 0 cap l w hH hb (by unfold LIM at hl; omega)
  · cases h
/-! spec_l1Own -/
noncomputable def spec_l1Own.cfg : Cfg := { C0 with keep := fun _ => none, nb := 0, M := tabM [], MM := tabB [] }
noncomputable def spec_l1Own.res (n : Nat) (a0 : List (List D)) : Option (List Q) :=
  bif List.all a0 fun (r : List D) => List.all r scalar then bif decide ((0 : Nat) + List.length a0 ≤ (17179869184 : Nat)) then some [Q.one (D.sl (1 : Nat) ([] ++ a0))] else none else none
theorem spec_l1Own.run (n : Nat) (a0 : List (List D)) :
    run1 spec_l1Own.cfg [RK.own (1 : Nat)] n Try.f23 [Q.one (D.sl (1 : Nat) a0)] = spec_l1Own.res n a0 := by kernel_rfl
theorem spec_l1Own.ev {n : Nat} {a0 : List (List D)} {r : List Q} (h : spec_l1Own.res n a0 = some r) : Snd Try.prog C0 23 [.one (.sl 1 a0)] r :=
  snd_ev (C := spec_l1Own.cfg) cfg0 mix rfl rfl rfl rfl rfl .nil .nil rfl Try.func23 (by kernel_rfl) (by kernel_rfl) rfl ((spec_l1Own.run n a0).trans h)

def spec_l1Own.stub : Stub
  | [.one (.sl 1 es)] => .any (intC.decs es) fun l => .ret [.one (.sl 1 (intC.encs l))]
  | _ => .fail
theorem spec_l1Own.ok : StubOk Try.prog C0 23 spec_l1Own.stub := by
  intro args res h
  unfold spec_l1Own.stub at h
  split at h
  · obtain ⟨l, h1, h0⟩ := any_out h
    obtain ⟨rfl, hl⟩ := Cod.decs_inv h1
    cases h0
    refine spec_l1Own.ev (n := 0) ?_
    have e : spec_l1Own.res 0 (intC.encs l) = (bif (intC.encs l).all (fun r => r.all scalar) then bif decide (0 + (intC.encs l).length ≤ 17179869184) then some [Q.one (D.sl 1 ([] ++ intC.encs l))] else none else none) := by kernel_rfl
    have h2 : (intC.encs l).all (fun r => r.all scalar) = true := by
      rw [List.all_eq_true]
      intro r hr
      obtain ⟨x, _, rfl⟩ := List.mem_map.1 hr
      rfl
    have h3 : 0 + (intC.encs l).length ≤ 17179869184 := by rw [Nat.zero_add, Cod.encs_len]; exact hl
    rw [e, h2]
    simp only [cond_true, h3, decide_true, List.nil_append]
  · cases h
/-! spec_clCycles -/
noncomputable def spec_clCycles.cfg : Cfg := { C0 with keep := fun | 5 => some [3, 4, 5, 15, 16] | 9 => some [3, 4, 5, 7, 8, 15, 16] | 15 => some [3, 4, 5, 7, 9, 15, 16] | _ => none, nb := 0, M := tabM [(24, spec_diFaces.stub), (23, spec_l1Own.stub)], MM := tabB [] }
noncomputable def spec_clCycles.l5 (n : Nat) (m5 : Nat) (i0 : Int) (i1 : Int) (l2 : List (List D)) (l3 : List (List D)) (l4 : List (List D)) : Option (List Q) :=
  loopAt spec_clCycles.cfg [RK.own (1 : Nat)] n Try.f12 [1, 1, 1, 1, 0, 1, 0] [] m5 (St.mk [V.undef, V.undef, V.undef, V.rw (0 : Nat), V.rw (1 : Nat), V.rw (2 : Nat), V.undef, V.undef, V.undef, V.undef, V.undef, V.undef, V.undef, V.undef, V.undef, V.one true (D.int IntKind.i64 i0), V.one true (D.int IntKind.i64 i1), V.undef, V.undef, V.undef, V.undef, V.undef, V.undef, V.undef, V.undef, V.undef, V.undef, V.undef, V.undef, V.undef, V.undef, V.undef, V.undef, V.undef, V.undef, V.undef, V.undef, V.undef, V.undef, V.undef, V.undef, V.undef, V.undef, V.undef, V.undef, V.undef, V.undef, V.undef, V.undef, V.undef, V.undef, V.undef, V.undef, V.undef, V.undef, V.undef, V.undef, V.undef, V.undef, V.undef, V.undef, V.undef, V.undef, V.undef] [Ob.row false (1 : Nat) l2, Ob.row false (1 : Nat) l3, Ob.row false (1 : Nat) l4])
noncomputable def spec_clCycles.l9 (n : Nat) (m5 : Nat) (m9 : Nat) (i0 : Int) (i1 : Int) (i2 : Int) (i3 : Int) (l4 : List (List D)) (l5 : List (List D)) (l6 : List (List D)) : Option (List Q) :=
  loopAt spec_clCycles.cfg [RK.own (1 : Nat)] n Try.f12 [1, 1, 1, 1, 0, 1, 0, 0, 1, 1, 0, 0, 1, 1, 0, 1, 0] [m5] m9 (St.mk [V.undef, V.undef, V.undef, V.rw (0 : Nat), V.rw (1 : Nat), V.rw (2 : Nat), V.undef, V.one true (D.int IntKind.i64 i0), V.one true (D.int IntKind.i64 i1), V.undef, V.undef, V.undef, V.undef, V.undef, V.undef, V.one true (D.int IntKind.i64 i2), V.one true (D.int IntKind.i64 i3), V.undef, V.undef, V.undef, V.undef, V.undef, V.undef, V.undef, V.undef, V.undef, V.undef, V.undef, V.undef, V.undef, V.undef, V.undef, V.undef, V.undef, V.undef, V.undef, V.undef, V.undef, V.undef, V.undef, V.undef, V.undef, V.undef, V.undef, V.undef, V.undef, V.undef, V.undef, V.undef, V.undef, V.undef, V.undef, V.undef, V.undef, V.undef, V.undef, V.undef, V.undef, V.undef, V.undef, V.undef, V.undef, V.undef, V.undef] [Ob.row false (1 : Nat) l4, Ob.row false (1 : Nat) l5, Ob.row false (1 : Nat) l6])
noncomputable def spec_clCycles.l15 (n : Nat) (m5 : Nat) (m15 : Nat) (i0 : Int) (i1 : Int) (i2 : Int) (i3 : Int) (l4 : List (List D)) (l5 : List (List D)) (l6 : List (List D)) : Option (List Q) :=
  loopAt spec_clCycles.cfg [RK.own (1 : Nat)] n Try.f12 [1, 1, 1, 1, 0, 1, 0, 0, 1, 1, 0, 0, 1, 1, 1, 1, 1, 0, 0] [m5] m15 (St.mk [V.undef, V.undef, V.undef, V.rw (0 : Nat), V.rw (1 : Nat), V.rw (2 : Nat), V.undef, V.one true (D.int IntKind.i64 i0), V.undef, V.one true (D.int IntKind.i64 i1), V.undef, V.undef, V.undef, V.undef, V.undef, V.one true (D.int IntKind.i64 i2), V.one true (D.int IntKind.i64 i3), V.undef, V.undef, V.undef, V.undef, V.undef, V.undef, V.undef, V.undef, V.undef, V.undef, V.undef, V.undef, V.undef, V.undef, V.undef, V.undef, V.undef, V.undef, V.undef, V.undef, V.undef, V.undef, V.undef, V.undef, V.undef, V.undef, V.undef, V.undef, V.undef, V.undef, V.undef, V.undef, V.undef, V.undef, V.undef, V.undef, V.undef, V.undef, V.undef, V.undef, V.undef, V.undef, V.undef, V.undef, V.undef, V.undef, V.undef] [Ob.row false (1 : Nat) l4, Ob.row false (1 : Nat) l5, Ob.row false (1 : Nat) l6])
theorem spec_clCycles.l5_eq (n : Nat) (m5 : Nat) (i0 : Int) (i1 : Int) (l2 : List (List D)) (l3 : List (List D)) (l4 : List (List D)) :
    spec_clCycles.l5 n (m5 + 1) i0 i1 l2 l3 l4 = bif decide (i1 < i0) then spec_clCycles.l9 n m5 n (0 : Int) i1 i0 i1 l2 l3 l4 else some [Q.one (D.sl (1 : Nat) l3)] := by kernel_rfl
theorem spec_clCycles.l9_eq (n : Nat) (m5 : Nat) (m9 : Nat) (i0 : Int) (i1 : Int) (i2 : Int) (i3 : Int) (l4 : List (List D)) (l5 : List (List D)) (l6 : List (List D)) :
    spec_clCycles.l9 n m5 (m9 + 1) i0 i1 i2 i3 l4 l5 l6 = bif decide ((0 : Int) ≤ i1) then bif decide (i1 < (↑(List.length l6) : Int)) then Option.bind (Option.bind (some (cellD l6 (Int.toNat i1) (0 : Nat))) D.bool?) fun (b1 : Bool) => bif !b1 then bif decide ((0 : Int) ≤ i1) then bif decide (i1 < (↑(List.length l6) : Int)) then bif decide ((0 : Int) ≤ i1) then bif decide (i1 < (↑(List.length l4) : Int)) then Option.bind (Option.bind (some (cellD l4 (Int.toNat i1) (0 : Nat))) (D.int? IntKind.i64)) fun (i2_1 : Int) => spec_clCycles.l9 n m5 m9 (IntKind.wrap IntKind.i64 (i0 + (1 : Int))) i2_1 i2 i3 l4 l5 (setRow (1 : Nat) l6 (Int.toNat i1) (0 : Nat) [D.bool true]) else none else none else none else none else bif i0 == (0 : Int) then spec_clCycles.l5 n m5 i2 (IntKind.wrap IntKind.i64 (i3 + (1 : Int))) l4 l5 l6 else spec_clCycles.l15 n m5 n i0 (0 : Int) i2 i3 l4 l5 l6 else none else none := by kernel_rfl
theorem spec_clCycles.l15_eq (n : Nat) (m5 : Nat) (m15 : Nat) (i0 : Int) (i1 : Int) (i2 : Int) (i3 : Int) (l4 : List (List D)) (l5 : List (List D)) (l6 : List (List D)) :
    spec_clCycles.l15 n m5 (m15 + 1) i0 i1 i2 i3 l4 l5 l6 = bif decide (i1 < (↑(List.length l5) : Int)) then bif decide ((0 : Int) ≤ i1) then bif decide (i1 < (↑(List.length l5) : Int)) then Option.bind (Option.bind (some (cellD l5 (Int.toNat i1) (0 : Nat))) (D.int? IntKind.i64)) fun (i3_1 : Int) => bif decide (i3_1 ≤ i0) then spec_clCycles.l15 n m5 m15 i0 (IntKind.wrap IntKind.i64 (i1 + (1 : Int))) i2 i3 l4 l5 l6 else bif decide ((0 : Int) ≤ i1) then bif decide (i1 ≤ (↑(List.length l5) : Int)) then Option.bind (Cod.decs intC (List.take (Int.toNat i1 - (0 : Nat)) (List.drop (0 : Nat) l5))) fun (l4_1 : List Int) => bif decide (List.length (Cod.encs intC l4_1) + (1 : Nat) ≤ (17179869184 : Nat)) then bif decide ((0 : Int) ≤ i1) then bif decide (i1 ≤ (↑(List.length l5) : Int)) then bif decide (List.length (Cod.encs intC l4_1 ++ [[D.int IntKind.i64 i0]]) + List.length (List.take (List.length l5 - Int.toNat i1) (List.drop (Int.toNat i1) l5)) ≤ (17179869184 : Nat)) then spec_clCycles.l5 n m5 i2 (IntKind.wrap IntKind.i64 (i3 + (1 : Int))) l4 (Cod.encs intC l4_1 ++ [[D.int IntKind.i64 i0]] ++ List.take (List.length l5 - Int.toNat i1) (List.drop (Int.toNat i1) l5)) l6 else none else none else none else none else none else none else none else none else bif decide ((0 : Int) ≤ i1) then bif decide (i1 ≤ (↑(List.length l5) : Int)) then Option.bind (Cod.decs intC (List.take (Int.toNat i1 - (0 : Nat)) (List.drop (0 : Nat) l5))) fun (l5_1 : List Int) => bif decide (List.length (Cod.encs intC l5_1) + (1 : Nat) ≤ (17179869184 : Nat)) then bif decide ((0 : Int) ≤ i1) then bif decide (i1 ≤ (↑(List.length l5) : Int)) then bif decide (List.length (Cod.encs intC l5_1 ++ [[D.int IntKind.i64 i0]]) + List.length (List.take (List.length l5 - Int.toNat i1) (List.drop (Int.toNat i1) l5)) ≤ (17179869184 : Nat)) then spec_clCycles.l5 n m5 i2 (IntKind.wrap IntKind.i64 (i3 + (1 : Int))) l4 (Cod.encs intC l5_1 ++ [[D.int IntKind.i64 i0]] ++ List.take (List.length l5 - Int.toNat i1) (List.drop (Int.toNat i1) l5)) l6 else none else none else none else none else none else none := by kernel_rfl
noncomputable def spec_clCycles.res (n : Nat) (a0_0 : Int) (a0_1 : Int) (a0_2 : Int) (a0_3 : Int) (a0_4 : Int) (a0_5 : Int) : Option (List Q) :=
  spec_clCycles.l5 n n (6 : Int) (0 : Int) [[D.int IntKind.i64 a0_0], [D.int IntKind.i64 a0_1], [D.int IntKind.i64 a0_2], [D.int IntKind.i64 a0_3], [D.int IntKind.i64 a0_4], [D.int IntKind.i64 a0_5]] [] [[D.bool false], [D.bool false], [D.bool false], [D.bool false], [D.bool false], [D.bool false]]
theorem spec_clCycles.run (n : Nat) (a0_0 : Int) (a0_1 : Int) (a0_2 : Int) (a0_3 : Int) (a0_4 : Int) (a0_5 : Int) :
    run1 spec_clCycles.cfg [RK.own (1 : Nat)] n Try.f12 [Q.agg [D.int IntKind.i64 a0_0, D.int IntKind.i64 a0_1, D.int IntKind.i64 a0_2, D.int IntKind.i64 a0_3, D.int IntKind.i64 a0_4, D.int IntKind.i64 a0_5]] = spec_clCycles.res n a0_0 a0_1 a0_2 a0_3 a0_4 a0_5 := by kernel_rfl
theorem spec_clCycles.ev {n : Nat} {a0_0 : Int} {a0_1 : Int} {a0_2 : Int} {a0_3 : Int} {a0_4 : Int} {a0_5 : Int} {r : List Q} (h : spec_clCycles.res n a0_0 a0_1 a0_2 a0_3 a0_4 a0_5 = some r) : Snd Try.prog C0 12 [.agg [.int .i64 a0_0, .int .i64 a0_1, .int .i64 a0_2, .int .i64 a0_3, .int .i64 a0_4, .int .i64 a0_5]] r :=
  snd_ev (C := spec_clCycles.cfg) cfg0 mix rfl rfl rfl rfl rfl (.cons spec_diFaces.ok (.cons spec_l1Own.ok .nil)) .nil rfl Try.func12 (by kernel_rfl) (by kernel_rfl) rfl ((spec_clCycles.run n a0_0 a0_1 a0_2 a0_3 a0_4 a0_5).trans h)

theorem spec_clCycles.l15_run {n m5 : Nat} {out f : List Int} {x : Int} {i2 i3 : Int} {seen : List (List D)} (hl : out.length ≤ 100) : ∀ (d k m : Nat), k + d = out.length → d < m →
    spec_clCycles.l15 n m5 m x k i2 i3 (intC.encs f) (intC.encs out) seen = spec_clCycles.l5 n m5 i2 (IntKind.wrap .i64 (i3 + 1)) (intC.encs f) (intC.encs (out.take k ++ insI x (out.drop k))) seen := by
  intro d
  have fin : ∀ k, k ≤ out.length → intC.encs (out.take k) ++ [[D.int .i64 x]] ++ List.take (out.length - k) (List.drop k (intC.encs out)) = intC.encs (out.take k ++ [x] ++ out.drop k) := by
    intro k hk
    rw [intC_snoc, Cod.encs_drop, Cod.encs_take, Cod.encs_append, List.take_of_length_le (l := out.drop k) (by simp)]
  have dec : ∀ k, k ≤ out.length → intC.decs (List.take (k - 0) (List.drop 0 (intC.encs out))) = some (out.take k) := by
    intro k hk
    rw [Nat.sub_zero, List.drop_zero, Cod.encs_take, Cod.decs_encs (by rw [List.length_take]; unfold LIM; omega)]
  have g1 : ∀ k, k ≤ out.length → (intC.encs (out.take k)).length + 1 ≤ 17179869184 := by
    intro k hk; rw [Cod.encs_len, List.length_take]; omega
  have g2 : ∀ k, k ≤ out.length → (intC.encs (out.take k) ++ [[D.int .i64 x]]).length + (List.take (out.length - k) (List.drop k (intC.encs out))).length ≤ 17179869184 := by
    intro k hk
    rw [intC_snoc, Cod.encs_len, Cod.encs_drop, Cod.encs_take, Cod.encs_len]
    simp only [List.length_append, List.length_take, List.length_drop, List.length_singleton]
    omega
  induction d with
  | zero =>
    intro k m hk hm
    obtain ⟨m, rfl⟩ : ∃ m', m = m' + 1 := ⟨m - 1, by omega⟩
    obtain rfl : k = out.length := by omega
    have h1 : ¬ (out.length : Int) < out.length := by omega
    have h2 := fin _ (Nat.le_refl _)
    have h3 := dec _ (Nat.le_refl _)
    have h4 := g1 _ (Nat.le_refl _)
    have h5 := g2 _ (Nat.le_refl _)
    rw [spec_clCycles.l15_eq]
    simp only [Cod.encs_len, h1, decide_false, cond_false, Int.natCast_nonneg, Int.le_refl, decide_true, cond_true, Int.toNat_natCast, h3, Option.bind_some]
    rw [Cod.encs_len] at h4
    simp only [h4, h5, decide_true, cond_true, h2, List.drop_length, insI, List.append_nil]
  | succ d ih =>
    intro k m hk hm
    obtain ⟨m, rfl⟩ : ∃ m', m = m' + 1 := ⟨m - 1, by omega⟩
    have hlt : k < out.length := by omega
    have hle : (k : Int) ≤ out.length := by omega
    have h2 := fin k (by omega)
    have h3 := dec k (by omega)
    have h4 := g1 k (by omega)
    have h5 := g2 k (by omega)
    rw [Cod.encs_len] at h4
    rw [spec_clCycles.l15_eq]
    simp only [Cod.encs_len, Int.ofNat_lt, hlt, hle, decide_true, cond_true, Int.natCast_nonneg, Int.toNat_natCast, intC_int' hlt, Option.bind_some, wrap_succ (show k ≤ LIM by unfold LIM; omega), h3, h4, h5, h2]
    rw [List.drop_eq_getElem_cons hlt, insI]
    by_cases hc : out[k] ≤ x
    · simp only [hc, decide_true, cond_true]
      rw [ih (k + 1) m (by omega) (by omega), List.take_succ_eq_append_getElem hlt, List.append_assoc]
      rfl
    · simp only [hc, decide_false, cond_false]
      congr 2
      simp
theorem spec_clCycles.l9_run {n m5 : Nat} {f : List Int} (hf : f.length = 6) (hr : ∀ x ∈ f, 0 ≤ x ∧ x < 6) {out : List (List D)} {i2 i3 : Int} : ∀ (q m : Nat) (seen : List Bool) (j c : Nat), seen.length = 6 → j < 6 → seen.count false ≤ q → q < m → c + q ≤ 100 → q ≤ 100 →
    spec_clCycles.l9 n m5 m c j i2 i3 (intC.encs f) out (boolC.encs seen) =
      bif decide ((cycFrom q f seen j c).1 = 0) then spec_clCycles.l5 n m5 i2 (IntKind.wrap .i64 (i3 + 1)) (intC.encs f) out (boolC.encs (cycFrom q f seen j c).2) else spec_clCycles.l15 n m5 n ((cycFrom q f seen j c).1 : Nat) 0 i2 i3 (intC.encs f) out (boolC.encs (cycFrom q f seen j c).2) := by
  intro q
  have stop : ∀ (m : Nat) (seen : List Bool) (j c : Nat), seen.length = 6 → j < 6 → seen.getD j true = true → spec_clCycles.l9 n m5 (m + 1) c j i2 i3 (intC.encs f) out (boolC.encs seen) =
      bif decide (c = 0) then spec_clCycles.l5 n m5 i2 (IntKind.wrap .i64 (i3 + 1)) (intC.encs f) out (boolC.encs seen) else spec_clCycles.l15 n m5 n c 0 i2 i3 (intC.encs f) out (boolC.encs seen) := by
    intro m seen j c hs hj ht
    have hlt : j < seen.length := by omega
    rw [getD_of_lt hlt] at ht
    have e : ((c : Int) == 0) = decide (c = 0) := by
      rw [ieq]; congr 1; exact propext (by omega)
    rw [spec_clCycles.l9_eq]
    simp only [Cod.encs_len, Int.ofNat_lt, hlt, decide_true, cond_true, Int.natCast_nonneg, Int.toNat_natCast, boolC_cell hlt, Option.bind_some, ht, Bool.not_true, cond_false, e]
  induction q with
  | zero =>
    intro m seen j c hs hj hq hm hc _
    obtain ⟨m, rfl⟩ : ∃ m', m = m' + 1 := ⟨m - 1, by omega⟩
    exact stop m seen j c hs hj (seen_all (by omega))
  | succ q ih =>
    intro m seen j c hs hj hq hm hc hq2
    obtain ⟨m, rfl⟩ : ∃ m', m = m' + 1 := ⟨m - 1, by omega⟩
    rw [cycFrom]
    cases ht : seen.getD j true with
    | true => simp only [cond_true]; exact stop m seen j c hs hj ht
    | false =>
      have hlt : j < seen.length := by omega
      have hlf : j < f.length := by omega
      have hu := unseen_set hlt ht
      have ht' := ht
      rw [getD_of_lt hlt] at ht'
      have hx := hr f[j] (List.getElem_mem hlf)
      obtain ⟨j', hj', ej⟩ : ∃ j' : Nat, j' < 6 ∧ f[j]'hlf = (j' : Int) := ⟨(f[j]'hlf).toNat, by omega, by omega⟩
      have ej2 : (f.getD j 0).toNat = j' := by rw [getD_of_lt hlf, ej]; rfl
      rw [spec_clCycles.l9_eq]
      simp only [Cod.encs_len, Int.ofNat_lt, hlt, hlf, decide_true, cond_true, Int.natCast_nonneg, Int.toNat_natCast, boolC_cell hlt, intC_int' hlf, Option.bind_some, ht', Bool.not_false, cond_false, boolC_set, wrap_succ (show c ≤ LIM by unfold LIM; omega)]
      rw [ej, ej2]
      exact ih m (seen.set j true) j' (c + 1) (by simpa using hs) hj' (by omega) (by omega) (by omega) (by omega)
theorem spec_clCycles.l5_run {n : Nat} {f : List Int} (hf : f.length = 6) (hr : ∀ x ∈ f, 0 ≤ x ∧ x < 6) (hn : 10 < n) : ∀ (d i m : Nat) (seen : List Bool) (out : List Int), i + d = 6 → d < m → seen.length = 6 → out.length ≤ i →
    spec_clCycles.l5 n m 6 i (intC.encs f) (intC.encs out) (boolC.encs seen) = some [Q.one (.sl 1 (intC.encs (srtI out (cycGo f (List.range' i d) seen))))] := by
  intro d
  induction d with
  | zero =>
    intro i m seen out hi hm hs ho
    obtain ⟨m, rfl⟩ : ∃ m', m = m' + 1 := ⟨m - 1, by omega⟩
    obtain rfl : i = 6 := by omega
    rw [spec_clCycles.l5_eq]
    rfl
  | succ d ih =>
    intro i m seen out hi hm hs ho
    obtain ⟨m, rfl⟩ : ∃ m', m = m' + 1 := ⟨m - 1, by omega⟩
    have h1 : (i : Int) < 6 := by omega
    have hcnt : seen.count false ≤ 6 := by rw [← hs]; exact List.count_le_length
    have hw := wrap_succ (show i ≤ LIM by unfold LIM; omega)
    rw [spec_clCycles.l5_eq]
    simp only [h1, decide_true, cond_true]
    rw [show (0 : Int) = ((0 : Nat) : Int) from rfl, spec_clCycles.l9_run hf hr 6 n seen i 0 hs (by omega) hcnt (by omega) (by omega) (by omega), hw, List.range'_succ, cycGo]
    have hs2 : (cycFrom 6 f seen i 0).2.length = 6 := by rw [cycFrom_len]; exact hs
    by_cases h0 : (cycFrom 6 f seen i 0).1 = 0
    · simp only [h0, decide_true, cond_true]
      exact ih (i + 1) m _ out (by omega) (by omega) hs2 (by omega)
    · simp only [h0, decide_false, cond_false]
      rw [show (0 : Int) = ((0 : Nat) : Int) from rfl, spec_clCycles.l15_run (by omega) out.length 0 n (by omega) (by omega), hw, List.take_zero, List.drop_zero, List.nil_append, srtI]
      exact ih (i + 1) m _ _ (by omega) (by omega) hs2 (by rw [(insI_perm _ out).length_eq, List.length_cons]; omega)
def spec_clCycles.stub : Stub
  | [.agg [.int .i64 t, .int .i64 n, .int .i64 e, .int .i64 s, .int .i64 w, .int .i64 b]] => .gd (Sp.six ⟨t, n, e, s, w, b⟩) (.ret [.one (.sl 1 (intC.encs (Sp.cyc ⟨t, n, e, s, w, b⟩)))])
  | _ => .fail
theorem spec_clCycles.ok : StubOk Try.prog C0 12 spec_clCycles.stub := by
  intro args res h
  unfold spec_clCycles.stub at h
  split at h
  · rename_i t n e s w b
    obtain ⟨h1, h2⟩ := gd_out h
    cases h2
    refine spec_clCycles.ev (n := 20) ?_
    exact spec_clCycles.l5_run (n := 20) (f := [t, n, e, s, w, b]) rfl (six_all h1) (by omega) 6 0 20 [false, false, false, false, false, false] [] (by omega) (by omega) rfl (by simp)
  · cases h
/-! impl_cycles -/
noncomputable def impl_cycles.cfg : Cfg := { C0 with keep := fun | 3 => some [3, 4, 5, 13] | 7 => some [3, 4, 5, 7, 8, 13] | _ => none, nb := 0, M := tabM [(28, impl_Die_faces.stub)], MM := tabB [(29, sortI.stub)] }
noncomputable def impl_cycles.l3 (n : Nat) (m3 : Nat) (i0 : Int) (l1 : List (List D)) (l2 : List (List D)) (l3 : List (List D)) : Option (List Q) :=
  loopAt impl_cycles.cfg [RK.own (1 : Nat)] n Try.f17 [1, 1, 0, 1, 0] [] m3 (St.mk [V.undef, V.undef, V.undef, V.rw (0 : Nat), V.rw (1 : Nat), V.re (2 : Nat) (0 : Nat) (0 : Nat), V.undef, V.undef, V.undef, V.undef, V.undef, V.undef, V.undef, V.one true (D.int IntKind.i64 i0), V.undef, V.undef, V.undef, V.undef, V.undef, V.undef, V.undef, V.undef, V.undef, V.undef, V.undef, V.undef, V.undef, V.undef, V.undef, V.undef, V.undef, V.undef, V.undef, V.undef, V.undef, V.undef, V.undef, V.undef, V.undef] [Ob.row false (1 : Nat) l1, Ob.row false (1 : Nat) l2, Ob.row true (1 : Nat) l3])
noncomputable def impl_cycles.l7 (n : Nat) (m3 : Nat) (m7 : Nat) (i0 : Int) (i1 : Int) (i2 : Int) (l3 : List (List D)) (l4 : List (List D)) (l5 : List (List D)) : Option (List Q) :=
  loopAt impl_cycles.cfg [RK.own (1 : Nat)] n Try.f17 [1, 1, 0, 1, 0, 0, 1, 1, 0, 0, 1, 1, 0, 1, 0] [m3] m7 (St.mk [V.undef, V.undef, V.undef, V.rw (0 : Nat), V.rw (1 : Nat), V.re (2 : Nat) (0 : Nat) (0 : Nat), V.undef, V.one true (D.int IntKind.i64 i0), V.one true (D.int IntKind.i64 i1), V.undef, V.undef, V.undef, V.undef, V.one true (D.int IntKind.i64 i2), V.undef, V.undef, V.undef, V.undef, V.undef, V.undef, V.undef, V.undef, V.undef, V.undef, V.undef, V.undef, V.undef, V.undef, V.undef, V.undef, V.undef, V.undef, V.undef, V.undef, V.undef, V.undef, V.undef, V.undef, V.undef] [Ob.row false (1 : Nat) l3, Ob.row false (1 : Nat) l4, Ob.row true (1 : Nat) l5])
theorem impl_cycles.l3_eq (n : Nat) (m3 : Nat) (i0 : Int) (l1 : List (List D)) (l2 : List (List D)) (l3 : List (List D)) :
    impl_cycles.l3 n (m3 + 1) i0 l1 l2 l3 = bif decide (i0 < (6 : Int)) then impl_cycles.l7 n m3 n (0 : Int) i0 i0 l1 l2 l3 else Option.bind (Cod.decs intC l1) fun (l1 : List Int) => bif decide ((0 : Nat) < List.length l1) then some [Q.one (D.sl (1 : Nat) (Cod.encs intC (sortN l1)))] else none := by kernel_rfl
theorem impl_cycles.l7_eq (n : Nat) (m3 : Nat) (m7 : Nat) (i0 : Int) (i1 : Int) (i2 : Int) (l3 : List (List D)) (l4 : List (List D)) (l5 : List (List D)) :
    impl_cycles.l7 n m3 (m7 + 1) i0 i1 i2 l3 l4 l5 = bif decide ((0 : Int) ≤ i1) then bif decide (i1 < (6 : Int)) then bif decide (Int.toNat i1 < List.length l5) then Option.bind (Option.bind (some (cellD l5 (Int.toNat i1) (0 : Nat))) D.bool?) fun (b2 : Bool) => bif !b2 then bif decide ((0 : Int) ≤ i1) then bif decide (i1 < (6 : Int)) then bif decide (Int.toNat i1 < List.length l5) then bif decide ((0 : Int) ≤ i1) then bif decide (i1 < (↑(List.length l4) : Int)) then Option.bind (Option.bind (some (cellD l4 (Int.toNat i1) (0 : Nat))) (D.int? IntKind.i64)) fun (i3 : Int) => impl_cycles.l7 n m3 m7 (IntKind.wrap IntKind.i64 (i0 + (1 : Int))) i3 i2 l3 l4 (setRow (1 : Nat) l5 (Int.toNat i1) (0 : Nat) [D.bool true]) else none else none else none else none else none else bif decide (i0 > (0 : Int)) then bif decide (List.length l3 + (1 : Nat) ≤ (17179869184 : Nat)) then impl_cycles.l3 n m3 (IntKind.wrap IntKind.i64 (i2 + (1 : Int))) (l3 ++ [[D.int IntKind.i64 i0]]) l4 l5 else none else impl_cycles.l3 n m3 (IntKind.wrap IntKind.i64 (i2 + (1 : Int))) l3 l4 l5 else none else none else none := by kernel_rfl
noncomputable def impl_cycles.res (n : Nat) (a0_0 : Int) (a0_1 : Int) (a0_2 : Int) (a0_3 : Int) (a0_4 : Int) (a0_5 : Int) : Option (List Q) :=
  impl_cycles.l3 n n (0 : Int) [] [[D.int IntKind.i64 a0_0], [D.int IntKind.i64 a0_1], [D.int IntKind.i64 a0_2], [D.int IntKind.i64 a0_3], [D.int IntKind.i64 a0_4], [D.int IntKind.i64 a0_5]] [[D.bool false], [D.bool false], [D.bool false], [D.bool false], [D.bool false], [D.bool false]]
theorem impl_cycles.run (n : Nat) (a0_0 : Int) (a0_1 : Int) (a0_2 : Int) (a0_3 : Int) (a0_4 : Int) (a0_5 : Int) :
    run1 impl_cycles.cfg [RK.own (1 : Nat)] n Try.f17 [Q.agg [D.int IntKind.i64 a0_0, D.int IntKind.i64 a0_1, D.int IntKind.i64 a0_2, D.int IntKind.i64 a0_3, D.int IntKind.i64 a0_4, D.int IntKind.i64 a0_5]] = impl_cycles.res n a0_0 a0_1 a0_2 a0_3 a0_4 a0_5 := by kernel_rfl
theorem impl_cycles.ev {n : Nat} {a0_0 : Int} {a0_1 : Int} {a0_2 : Int} {a0_3 : Int} {a0_4 : Int} {a0_5 : Int} {r : List Q} (h : impl_cycles.res n a0_0 a0_1 a0_2 a0_3 a0_4 a0_5 = some r) : Snd Try.prog C0 17 [.agg [.int .i64 a0_0, .int .i64 a0_1, .int .i64 a0_2, .int .i64 a0_3, .int .i64 a0_4, .int .i64 a0_5]] r :=
  snd_ev (C := impl_cycles.cfg) cfg0 mix rfl rfl rfl rfl rfl (.cons impl_Die_faces.ok .nil) (.cons sortI.ok .nil) rfl Try.func17 (by kernel_rfl) (by kernel_rfl) rfl ((impl_cycles.run n a0_0 a0_1 a0_2 a0_3 a0_4 a0_5).trans h)

theorem impl_cycles.l7_run {n m3 : Nat} {f : List Int} (hf : f.length = 6) (hr : ∀ x ∈ f, 0 ≤ x ∧ x < 6) {out : List Int} {i2 : Int} (hout : out.length ≤ 100) : ∀ (q m : Nat) (seen : List Bool) (j c : Nat), seen.length = 6 → j < 6 → seen.count false ≤ q → q < m → c + q ≤ 100 → q ≤ 100 →
    impl_cycles.l7 n m3 m c j i2 (intC.encs out) (intC.encs f) (boolC.encs seen) =
      bif decide ((cycFrom q f seen j c).1 = 0) then impl_cycles.l3 n m3 (IntKind.wrap .i64 (i2 + 1)) (intC.encs out) (intC.encs f) (boolC.encs (cycFrom q f seen j c).2) else impl_cycles.l3 n m3 (IntKind.wrap .i64 (i2 + 1)) (intC.encs (out ++ [((cycFrom q f seen j c).1 : Int)])) (intC.encs f) (boolC.encs (cycFrom q f seen j c).2) := by
  intro q
  have stop : ∀ (m : Nat) (seen : List Bool) (j c : Nat), seen.length = 6 → j < 6 → seen.getD j true = true → impl_cycles.l7 n m3 (m + 1) c j i2 (intC.encs out) (intC.encs f) (boolC.encs seen) =
      bif decide (c = 0) then impl_cycles.l3 n m3 (IntKind.wrap .i64 (i2 + 1)) (intC.encs out) (intC.encs f) (boolC.encs seen) else impl_cycles.l3 n m3 (IntKind.wrap .i64 (i2 + 1)) (intC.encs (out ++ [(c : Int)])) (intC.encs f) (boolC.encs seen) := by
    intro m seen j c hs hj ht
    have hlt : j < seen.length := by omega
    have h6 : (j : Int) < 6 := by omega
    have hl1 : out.length + 1 ≤ 17179869184 := by omega
    rw [getD_of_lt hlt] at ht
    rw [impl_cycles.l7_eq]
    simp only [Cod.encs_len, hlt, h6, decide_true, cond_true, Int.natCast_nonneg, Int.toNat_natCast, boolC_cell hlt, Option.bind_some, ht, Bool.not_true, cond_false, hl1, intC_snoc]
    by_cases h0 : c = 0
    · subst h0; rfl
    · have h1 : (c : Int) > 0 := by omega
      simp only [h0, h1, decide_true, decide_false, cond_true, cond_false]
  induction q with
  | zero =>
    intro m seen j c hs hj hq hm hc _
    obtain ⟨m, rfl⟩ : ∃ m', m = m' + 1 := ⟨m - 1, by omega⟩
    exact stop m seen j c hs hj (seen_all (by omega))
  | succ q ih =>
    intro m seen j c hs hj hq hm hc hq2
    obtain ⟨m, rfl⟩ : ∃ m', m = m' + 1 := ⟨m - 1, by omega⟩
    rw [cycFrom]
    cases ht : seen.getD j true with
    | true => simp only [cond_true]; exact stop m seen j c hs hj ht
    | false =>
      have hlt : j < seen.length := by omega
      have hlf : j < f.length := by omega
      have h6 : (j : Int) < 6 := by omega
      have hu := unseen_set hlt ht
      have ht' := ht
      rw [getD_of_lt hlt] at ht'
      have hx := hr f[j] (List.getElem_mem hlf)
      obtain ⟨j', hj', ej⟩ : ∃ j' : Nat, j' < 6 ∧ f[j]'hlf = (j' : Int) := ⟨(f[j]'hlf).toNat, by omega, by omega⟩
      have ej2 : (f.getD j 0).toNat = j' := by rw [getD_of_lt hlf, ej]; rfl
      rw [impl_cycles.l7_eq]
      simp only [Cod.encs_len, Int.ofNat_lt, hlt, hlf, h6, decide_true, cond_true, Int.natCast_nonneg, Int.toNat_natCast, boolC_cell hlt, intC_int' hlf, Option.bind_some, ht', Bool.not_false, cond_false, boolC_set, wrap_succ (show c ≤ LIM by unfold LIM; omega)]
      rw [ej, ej2]
      exact ih m (seen.set j true) j' (c + 1) (by simpa using hs) hj' (by omega) (by omega) (by omega) (by omega)
theorem impl_cycles.l3_run {n : Nat} {f : List Int} (hf : f.length = 6) (hr : ∀ x ∈ f, 0 ≤ x ∧ x < 6) (hn : 10 < n) : ∀ (d i m : Nat) (seen : List Bool) (out : List Int), i + d = 6 → d < m → seen.length = 6 → out.length ≤ i → 0 < (out ++ cycGo f (List.range' i d) seen).length →
    impl_cycles.l3 n m i (intC.encs out) (intC.encs f) (boolC.encs seen) = some [Q.one (.sl 1 (intC.encs (sortN (out ++ cycGo f (List.range' i d) seen))))] := by
  intro d
  induction d with
  | zero =>
    intro i m seen out hi hm hs ho hp
    obtain ⟨m, rfl⟩ : ∃ m', m = m' + 1 := ⟨m - 1, by omega⟩
    obtain rfl : i = 6 := by omega
    have e : cycGo f (List.range' 6 0) seen = [] := rfl
    rw [e, List.append_nil] at hp ⊢
    have h1 : ¬ ((6 : Nat) : Int) < 6 := by decide
    rw [impl_cycles.l3_eq]
    simp only [h1, decide_false, cond_false, Cod.decs_encs (show out.length ≤ LIM by unfold LIM; omega), Option.bind_some, hp, decide_true, cond_true]
  | succ d ih =>
    intro i m seen out hi hm hs ho hp
    obtain ⟨m, rfl⟩ : ∃ m', m = m' + 1 := ⟨m - 1, by omega⟩
    have h1 : (i : Int) < 6 := by omega
    have hcnt : seen.count false ≤ 6 := by rw [← hs]; exact List.count_le_length
    have hw := wrap_succ (show i ≤ LIM by unfold LIM; omega)
    rw [List.range'_succ, cycGo] at hp ⊢
    rw [impl_cycles.l3_eq]
    simp only [h1, decide_true, cond_true]
    rw [show (0 : Int) = ((0 : Nat) : Int) from rfl, impl_cycles.l7_run hf hr (by omega) 6 n seen i 0 hs (by omega) hcnt (by omega) (by omega) (by omega), hw]
    have hs2 : (cycFrom 6 f seen i 0).2.length = 6 := by rw [cycFrom_len]; exact hs
    by_cases h0 : (cycFrom 6 f seen i 0).1 = 0
    · simp only [h0, decide_true, cond_true] at hp ⊢
      exact ih (i + 1) m _ out (by omega) (by omega) hs2 (by omega) hp
    · simp only [h0, decide_false, cond_false] at hp ⊢
      have := ih (i + 1) m (cycFrom 6 f seen i 0).2 (out ++ [((cycFrom 6 f seen i 0).1 : Int)]) (by omega) (by omega) hs2 (by simp; omega) (by simp; omega)
      rw [List.append_assoc, List.singleton_append] at this
      exact this
def impl_cycles.stub : Stub
  | [.agg [.int .i64 t, .int .i64 n, .int .i64 e, .int .i64 s, .int .i64 w, .int .i64 b]] => .gd (Sp.six ⟨t, n, e, s, w, b⟩) (.ret [.one (.sl 1 (intC.encs (Sp.cyc ⟨t, n, e, s, w, b⟩)))])
  | _ => .fail
theorem impl_cycles.ok : StubOk Try.prog C0 17 impl_cycles.stub := by
  intro args res h
  unfold impl_cycles.stub at h
  split at h
  · rename_i t n e s w b
    obtain ⟨h1, h2⟩ := gd_out h
    cases h2
    refine impl_cycles.ev (n := 20) ?_
    have := impl_cycles.l3_run (n := 20) (f := [t, n, e, s, w, b]) rfl (six_all h1) (by omega) 6 0 20 [false, false, false, false, false, false] [] (by omega) (by omega) rfl (by simp) (cycU_pos ⟨t, n, e, s, w, b⟩)
    rw [sortN_srt] at this
    exact this
  · cases h
end Go.Proofs.EV.PL
set_option linter.unusedVariables false
set_option linter.unusedSimpArgs false
/-! Colours in given numbers. -/
namespace Go.Proofs.EV.PL
open Go Go.Proofs Go.Proofs.EV Sp
/-! cc0 -/
noncomputable def cc0.cfg : Cfg := { C0 with keep := fun | 5 => some [0, 1, 5, 12, 13, 14] | _ => none, nb := 0, M := tabM [(23, spec_l1Own.stub)], MM := tabB [] }
noncomputable def cc0.l5 (n : Nat) (m5 : Nat) (l0 : List (List D)) (l1 : List (List D)) (i2 : Int) (l3 : List (List D)) (i4 : Int) (i5 : Int) : Option (List Q) :=
  loopAt cc0.cfg [RK.one (LK.int IntKind.i64)] n Try.f11 [1, 1, 1, 0, 1, 0] [] m5 (St.mk [V.one false (D.sl (1 : Nat) l0), V.one false (D.sl (1 : Nat) l1), V.undef, V.undef, V.undef, V.one true (D.int IntKind.i64 i2), V.undef, V.undef, V.undef, V.undef, V.undef, V.undef, V.one false (D.sl (1 : Nat) l3), V.one true (D.int IntKind.i64 i4), V.one true (D.int IntKind.i64 i5), V.undef, V.undef, V.undef, V.undef, V.undef, V.undef, V.undef, V.undef, V.undef, V.undef, V.undef, V.undef, V.undef, V.undef, V.undef, V.undef, V.undef, V.undef, V.undef, V.undef, V.undef, V.undef, V.undef, V.undef, V.undef, V.undef, V.undef] [])
theorem cc0.l5_eq (n : Nat) (m5 : Nat) (l0 : List (List D)) (l1 : List (List D)) (i2 : Int) (l3 : List (List D)) (i4 : Int) (i5 : Int) :
    cc0.l5 n (m5 + 1) l0 l1 i2 l3 i4 i5 = bif decide (i5 < i4) then bif decide ((0 : Int) ≤ i5) then bif decide (i5 < (↑(List.length l3) : Int)) then Option.bind (Option.bind (some (cellD l3 (Int.toNat i5) (0 : Nat))) (D.int? IntKind.i64)) fun (i1 : Int) => bif decide ((0 : Int) < (↑(List.length l0) : Int)) then Option.bind (Option.bind (some (cellD l0 (Int.toNat (0 : Int)) (0 : Nat))) (D.int? IntKind.i64)) fun (i2_1 : Int) => bif decide (i1 ≥ i2_1) then Option.bind (Cod.decs intC l1) fun (l3 : List Int) => bif decide ((0 : Int) < (↑(List.length l0) : Int)) then Option.bind (Option.bind (some (cellD l0 (Int.toNat (0 : Int)) (0 : Nat))) (D.int? IntKind.i64)) fun (i4 : Int) => bif decide ((0 : Int) ≤ i5) then bif decide (i5 < (↑(List.length (Cod.encs intC l3)) : Int)) then bif decide ((1 : Int) ≤ (↑(List.length l0) : Int)) then none else none else none else none else none else cc0.l5 n m5 l0 l1 i2 l3 i4 (IntKind.wrap IntKind.i64 (i5 + (1 : Int))) else none else none else none else some [Q.one (D.int IntKind.i64 i2)] := by kernel_rfl
noncomputable def cc0.res (n : Nat) (a0 : List (List D)) (a1 : List (List D)) : Option (List Q) :=
  bif (↑(List.length a0) : Int) == (0 : Int) then some [Q.one (D.int IntKind.i64 (1 : Int))] else cc0.l5 n n a0 a1 (0 : Int) a1 (↑(List.length a1) : Int) (0 : Int)
theorem cc0.run (n : Nat) (a0 : List (List D)) (a1 : List (List D)) :
    run1 cc0.cfg [RK.one (LK.int IntKind.i64)] n Try.f11 [Q.one (D.sl (1 : Nat) a0), Q.one (D.sl (1 : Nat) a1)] = cc0.res n a0 a1 := by kernel_rfl
theorem cc0.ev {n : Nat} {a0 : List (List D)} {a1 : List (List D)} {r : List Q} (h : cc0.res n a0 a1 = some r) : Snd Try.prog C0 11 [.one (.sl 1 a0), .one (.sl 1 a1)] r :=
  snd_ev (C := cc0.cfg) cfg0 mix rfl rfl rfl rfl rfl (.cons spec_l1Own.ok .nil) .nil rfl Try.func11 (by kernel_rfl) (by kernel_rfl) rfl ((cc0.run n a0 a1).trans h)

def cc0.stub : Stub
  | [.one (.sl 1 es), .one (.sl 1 es')] => .any (intC.decs es) fun l => .any (intC.decs es') fun c => .gd (Sp.lenQ 0 l) (.ret [.one (.int .i64 (Sp.keptC l c))])
  | _ => .fail
theorem cc0.ok : StubOk Try.prog C0 11 cc0.stub := by
  intro args res h
  unfold cc0.stub at h
  split at h
  · obtain ⟨l, h1, h0⟩ := any_out h
    obtain ⟨rfl, hl⟩ := Cod.decs_inv h1
    obtain ⟨c, h1', h0'⟩ := any_out h0
    obtain ⟨rfl, hl'⟩ := Cod.decs_inv h1'
    obtain ⟨h2, h3⟩ := gd_out h0'
    have h2 : l.length = 0 := of_decide_eq_true h2
    cases h3
    obtain rfl := List.eq_nil_of_length_eq_zero h2
    exact cc0.ev (n := 0) rfl
  · cases h
/-! cc1 -/
noncomputable def cc1.cfg : Cfg := { C0 with keep := fun | 5 => some [0, 1, 5, 12, 13, 14] | _ => none, nb := 0, M := tabM [(23, spec_l1Own.stub), (11, cc0.stub)], MM := tabB [] }
noncomputable def cc1.l5 (n : Nat) (m5 : Nat) (l0 : List (List D)) (l1 : List (List D)) (i2 : Int) (l3 : List (List D)) (i4 : Int) (i5 : Int) : Option (List Q) :=
  loopAt cc1.cfg [RK.one (LK.int IntKind.i64)] n Try.f11 [1, 1, 1, 0, 1, 0] [] m5 (St.mk [V.one false (D.sl (1 : Nat) l0), V.one false (D.sl (1 : Nat) l1), V.undef, V.undef, V.undef, V.one true (D.int IntKind.i64 i2), V.undef, V.undef, V.undef, V.undef, V.undef, V.undef, V.one false (D.sl (1 : Nat) l3), V.one true (D.int IntKind.i64 i4), V.one true (D.int IntKind.i64 i5), V.undef, V.undef, V.undef, V.undef, V.undef, V.undef, V.undef, V.undef, V.undef, V.undef, V.undef, V.undef, V.undef, V.undef, V.undef, V.undef, V.undef, V.undef, V.undef, V.undef, V.undef, V.undef, V.undef, V.undef, V.undef, V.undef, V.undef] [])
theorem cc1.l5_eq (n : Nat) (m5 : Nat) (l0 : List (List D)) (l1 : List (List D)) (i2 : Int) (l3 : List (List D)) (i4 : Int) (i5 : Int) :
    cc1.l5 n (m5 + 1) l0 l1 i2 l3 i4 i5 = bif decide (i5 < i4) then bif decide ((0 : Int) ≤ i5) then bif decide (i5 < (↑(List.length l3) : Int)) then Option.bind (Option.bind (some (cellD l3 (Int.toNat i5) (0 : Nat))) (D.int? IntKind.i64)) fun (i1 : Int) => bif decide ((0 : Int) < (↑(List.length l0) : Int)) then Option.bind (Option.bind (some (cellD l0 (Int.toNat (0 : Int)) (0 : Nat))) (D.int? IntKind.i64)) fun (i2_1 : Int) => bif decide (i1 ≥ i2_1) then Option.bind (Cod.decs intC l1) fun (l3_1 : List Int) => bif decide ((0 : Int) < (↑(List.length l0) : Int)) then Option.bind (Option.bind (some (cellD l0 (Int.toNat (0 : Int)) (0 : Nat))) (D.int? IntKind.i64)) fun (i4_1 : Int) => bif decide ((0 : Int) ≤ i5) then bif decide (i5 < (↑(List.length (Cod.encs intC l3_1)) : Int)) then bif decide ((1 : Int) ≤ (↑(List.length l0) : Int)) then Option.bind (Cod.decs intC (List.take (List.length l0 - Int.toNat (1 : Int)) (List.drop (Int.toNat (1 : Int)) l0))) fun (l5 : List Int) => Option.bind (Cod.decs intC (setRow (1 : Nat) (Cod.encs intC l3_1) (Int.toNat i5) (0 : Nat) [D.int IntKind.i64 (IntKind.wrap IntKind.i64 (i1 - i4_1))])) fun (l6 : List Int) => bif lenQ (0 : Nat) l5 then cc1.l5 n m5 l0 l1 (IntKind.wrap IntKind.i64 (i2 + keptC l5 l6)) l3 i4 (IntKind.wrap IntKind.i64 (i5 + (1 : Int))) else none else none else none else none else none else cc1.l5 n m5 l0 l1 i2 l3 i4 (IntKind.wrap IntKind.i64 (i5 + (1 : Int))) else none else none else none else some [Q.one (D.int IntKind.i64 i2)] := by kernel_rfl
noncomputable def cc1.res (n : Nat) (a0 : List (List D)) (a1 : List (List D)) : Option (List Q) :=
  bif (↑(List.length a0) : Int) == (0 : Int) then some [Q.one (D.int IntKind.i64 (1 : Int))] else cc1.l5 n n a0 a1 (0 : Int) a1 (↑(List.length a1) : Int) (0 : Int)
theorem cc1.run (n : Nat) (a0 : List (List D)) (a1 : List (List D)) :
    run1 cc1.cfg [RK.one (LK.int IntKind.i64)] n Try.f11 [Q.one (D.sl (1 : Nat) a0), Q.one (D.sl (1 : Nat) a1)] = cc1.res n a0 a1 := by kernel_rfl
theorem cc1.ev {n : Nat} {a0 : List (List D)} {a1 : List (List D)} {r : List Q} (h : cc1.res n a0 a1 = some r) : Snd Try.prog C0 11 [.one (.sl 1 a0), .one (.sl 1 a1)] r :=
  snd_ev (C := cc1.cfg) cfg0 mix rfl rfl rfl rfl rfl (.cons spec_l1Own.ok (.cons cc0.ok .nil)) .nil rfl Try.func11 (by kernel_rfl) (by kernel_rfl) rfl ((cc1.run n a0 a1).trans h)

theorem cc1.l5_run {n : Nat} {x : Int} {xs c : List Int} (hq : lenQ 0 xs = true) (hx : xs.length ≤ 100) (hc : c.length ≤ LIM) : ∀ (d i m : Nat) (s : Int), i + d = c.length → d < m →
    cc1.l5 n m (intC.encs (x :: xs)) (intC.encs c) s (intC.encs c) c.length i = some [Q.one (.int .i64 (keptOn x xs c s (List.range' i d)))] := by
  have h0 : 0 < (x :: xs).length := by simp
  have hx0 : D.int? .i64 (cellD (intC.encs (x :: xs)) 0 0) = some x := intC_int' h0
  have hp : (0 : Int) < (((x :: xs).length : Nat) : Int) := by omega
  have hp1 : (1 : Int) ≤ (((x :: xs).length : Nat) : Int) := by omega
  have hd : intC.decs (List.take ((x :: xs).length - 1) (List.drop 1 (intC.encs (x :: xs)))) = some xs := by
    rw [Cod.encs_drop, Cod.encs_take, List.drop_succ_cons, List.drop_zero, List.take_of_length_le (by simp), Cod.decs_encs (by unfold LIM; omega)]
  intro d
  induction d with
  | zero =>
    intro i m s hi hm
    obtain ⟨m, rfl⟩ : ∃ m', m = m' + 1 := ⟨m - 1, by omega⟩
    have h1 : ¬ (i : Int) < c.length := by omega
    rw [cc1.l5_eq]
    simp only [h1, decide_false, cond_false]
    rfl
  | succ d ih =>
    intro i m s hi hm
    obtain ⟨m, rfl⟩ : ∃ m', m = m' + 1 := ⟨m - 1, by omega⟩
    have hlt : i < c.length := by omega
    have hset : (c.set i (IntKind.wrap .i64 (c[i] - x))).length ≤ LIM := by rw [List.length_set]; exact hc
    rw [cc1.l5_eq, List.range'_succ, keptOn_cons, getD_of_lt hlt]
    simp only [Cod.encs_len, Int.ofNat_lt, hlt, hp, hp1, decide_true, cond_true, Int.natCast_nonneg, Int.toNat_natCast, Int.toNat_zero, show Int.toNat (1 : Int) = 1 from rfl, intC_int' hlt, hx0, Option.bind_some, Cod.decs_encs hc, intC_set, Cod.decs_encs hset, hd, hq, wrap_succ (show i ≤ LIM by omega)]
    cases decide (c[i] ≥ x)
    · simp only [cond_false]; exact ih (i + 1) m s (by omega) (by omega)
    · simp only [cond_true]; exact ih (i + 1) m _ (by omega) (by omega)
def cc1.stub : Stub
  | [.one (.sl 1 es), .one (.sl 1 es')] => .any (intC.decs es) fun l => .any (intC.decs es') fun c => .gd (Sp.lenQ 1 l) (.ret [.one (.int .i64 (Sp.keptC l c))])
  | _ => .fail
theorem cc1.ok : StubOk Try.prog C0 11 cc1.stub := by
  intro args res h
  unfold cc1.stub at h
  split at h
  · obtain ⟨l, h1, h0⟩ := any_out h
    obtain ⟨rfl, hl⟩ := Cod.decs_inv h1
    obtain ⟨c, h1', h0'⟩ := any_out h0
    obtain ⟨rfl, hl'⟩ := Cod.decs_inv h1'
    obtain ⟨h2, h3⟩ := gd_out h0'
    have h2 : l.length = 1 := of_decide_eq_true h2
    cases h3
    refine cc1.ev (n := c.length + 1) ?_
    match l, h2 with
    | x :: xs, h2 =>
      have hq : xs.length = 0 := by simpa using h2
      have hne : (((((x :: xs).length : Nat) : Int)) == 0) = false := by rw [ieq, decide_eq_false_iff_not, List.length_cons]; omega
      have key := cc1.l5_run (n := c.length + 1) (x := x) (xs := xs) (c := c) (by unfold lenQ; rw [decide_eq_true_eq]; exact hq) (by omega) hl' c.length 0 (c.length + 1) 0 (by omega) (by omega)
      unfold cc1.res
      rw [Cod.encs_len, Cod.encs_len, hne, cond_false, keptC_cons]
      exact key
  · cases h
/-! cc2 -/
noncomputable def cc2.cfg : Cfg := { C0 with keep := fun | 5 => some [0, 1, 5, 12, 13, 14] | _ => none, nb := 0, M := tabM [(23, spec_l1Own.stub), (11, cc1.stub)], MM := tabB [] }
noncomputable def cc2.l5 (n : Nat) (m5 : Nat) (l0 : List (List D)) (l1 : List (List D)) (i2 : Int) (l3 : List (List D)) (i4 : Int) (i5 : Int) : Option (List Q) :=
  loopAt cc2.cfg [RK.one (LK.int IntKind.i64)] n Try.f11 [1, 1, 1, 0, 1, 0] [] m5 (St.mk [V.one false (D.sl (1 : Nat) l0), V.one false (D.sl (1 : Nat) l1), V.undef, V.undef, V.undef, V.one true (D.int IntKind.i64 i2), V.undef, V.undef, V.undef, V.undef, V.undef, V.undef, V.one false (D.sl (1 : Nat) l3), V.one true (D.int IntKind.i64 i4), V.one true (D.int IntKind.i64 i5), V.undef, V.undef, V.undef, V.undef, V.undef, V.undef, V.undef, V.undef, V.undef, V.undef, V.undef, V.undef, V.undef, V.undef, V.undef, V.undef, V.undef, V.undef, V.undef, V.undef, V.undef, V.undef, V.undef, V.undef, V.undef, V.undef, V.undef] [])
theorem cc2.l5_eq (n : Nat) (m5 : Nat) (l0 : List (List D)) (l1 : List (List D)) (i2 : Int) (l3 : List (List D)) (i4 : Int) (i5 : Int) :
    cc2.l5 n (m5 + 1) l0 l1 i2 l3 i4 i5 = bif decide (i5 < i4) then bif decide ((0 : Int) ≤ i5) then bif decide (i5 < (↑(List.length l3) : Int)) then Option.bind (Option.bind (some (cellD l3 (Int.toNat i5) (0 : Nat))) (D.int? IntKind.i64)) fun (i1 : Int) => bif decide ((0 : Int) < (↑(List.length l0) : Int)) then Option.bind (Option.bind (some (cellD l0 (Int.toNat (0 : Int)) (0 : Nat))) (D.int? IntKind.i64)) fun (i2_1 : Int) => bif decide (i1 ≥ i2_1) then Option.bind (Cod.decs intC l1) fun (l3_1 : List Int) => bif decide ((0 : Int) < (↑(List.length l0) : Int)) then Option.bind (Option.bind (some (cellD l0 (Int.toNat (0 : Int)) (0 : Nat))) (D.int? IntKind.i64)) fun (i4_1 : Int) => bif decide ((0 : Int) ≤ i5) then bif decide (i5 < (↑(List.length (Cod.encs intC l3_1)) : Int)) then bif decide ((1 : Int) ≤ (↑(List.length l0) : Int)) then Option.bind (Cod.decs intC (List.take (List.length l0 - Int.toNat (1 : Int)) (List.drop (Int.toNat (1 : Int)) l0))) fun (l5 : List Int) => Option.bind (Cod.decs intC (setRow (1 : Nat) (Cod.encs intC l3_1) (Int.toNat i5) (0 : Nat) [D.int IntKind.i64 (IntKind.wrap IntKind.i64 (i1 - i4_1))])) fun (l6 : List Int) => bif lenQ (1 : Nat) l5 then cc2.l5 n m5 l0 l1 (IntKind.wrap IntKind.i64 (i2 + keptC l5 l6)) l3 i4 (IntKind.wrap IntKind.i64 (i5 + (1 : Int))) else none else none else none else none else none else cc2.l5 n m5 l0 l1 i2 l3 i4 (IntKind.wrap IntKind.i64 (i5 + (1 : Int))) else none else none else none else some [Q.one (D.int IntKind.i64 i2)] := by kernel_rfl
noncomputable def cc2.res (n : Nat) (a0 : List (List D)) (a1 : List (List D)) : Option (List Q) :=
  bif (↑(List.length a0) : Int) == (0 : Int) then some [Q.one (D.int IntKind.i64 (1 : Int))] else cc2.l5 n n a0 a1 (0 : Int) a1 (↑(List.length a1) : Int) (0 : Int)
theorem cc2.run (n : Nat) (a0 : List (List D)) (a1 : List (List D)) :
    run1 cc2.cfg [RK.one (LK.int IntKind.i64)] n Try.f11 [Q.one (D.sl (1 : Nat) a0), Q.one (D.sl (1 : Nat) a1)] = cc2.res n a0 a1 := by kernel_rfl
theorem cc2.ev {n : Nat} {a0 : List (List D)} {a1 : List (List D)} {r : List Q} (h : cc2.res n a0 a1 = some r) : Snd Try.prog C0 11 [.one (.sl 1 a0), .one (.sl 1 a1)] r :=
  snd_ev (C := cc2.cfg) cfg0 mix rfl rfl rfl rfl rfl (.cons spec_l1Own.ok (.cons cc1.ok .nil)) .nil rfl Try.func11 (by kernel_rfl) (by kernel_rfl) rfl ((cc2.run n a0 a1).trans h)

theorem cc2.l5_run {n : Nat} {x : Int} {xs c : List Int} (hq : lenQ 1 xs = true) (hx : xs.length ≤ 100) (hc : c.length ≤ LIM) : ∀ (d i m : Nat) (s : Int), i + d = c.length → d < m →
    cc2.l5 n m (intC.encs (x :: xs)) (intC.encs c) s (intC.encs c) c.length i = some [Q.one (.int .i64 (keptOn x xs c s (List.range' i d)))] := by
  have h0 : 0 < (x :: xs).length := by simp
  have hx0 : D.int? .i64 (cellD (intC.encs (x :: xs)) 0 0) = some x := intC_int' h0
  have hp : (0 : Int) < (((x :: xs).length : Nat) : Int) := by omega
  have hp1 : (1 : Int) ≤ (((x :: xs).length : Nat) : Int) := by omega
  have hd : intC.decs (List.take ((x :: xs).length - 1) (List.drop 1 (intC.encs (x :: xs)))) = some xs := by
    rw [Cod.encs_drop, Cod.encs_take, List.drop_succ_cons, List.drop_zero, List.take_of_length_le (by simp), Cod.decs_encs (by unfold LIM; omega)]
  intro d
  induction d with
  | zero =>
    intro i m s hi hm
    obtain ⟨m, rfl⟩ : ∃ m', m = m' + 1 := ⟨m - 1, by omega⟩
    have h1 : ¬ (i : Int) < c.length := by omega
    rw [cc2.l5_eq]
    simp only [h1, decide_false, cond_false]
    rfl
  | succ d ih =>
    intro i m s hi hm
    obtain ⟨m, rfl⟩ : ∃ m', m = m' + 1 := ⟨m - 1, by omega⟩
    have hlt : i < c.length := by omega
    have hset : (c.set i (IntKind.wrap .i64 (c[i] - x))).length ≤ LIM := by rw [List.length_set]; exact hc
    rw [cc2.l5_eq, List.range'_succ, keptOn_cons, getD_of_lt hlt]
    simp only [Cod.encs_len, Int.ofNat_lt, hlt, hp, hp1, decide_true, cond_true, Int.natCast_nonneg, Int.toNat_natCast, Int.toNat_zero, show Int.toNat (1 : Int) = 1 from rfl, intC_int' hlt, hx0, Option.bind_some, Cod.decs_encs hc, intC_set, Cod.decs_encs hset, hd, hq, wrap_succ (show i ≤ LIM by omega)]
    cases decide (c[i] ≥ x)
    · simp only [cond_false]; exact ih (i + 1) m s (by omega) (by omega)
    · simp only [cond_true]; exact ih (i + 1) m _ (by omega) (by omega)
def cc2.stub : Stub
  | [.one (.sl 1 es), .one (.sl 1 es')] => .any (intC.decs es) fun l => .any (intC.decs es') fun c => .gd (Sp.lenQ 2 l) (.ret [.one (.int .i64 (Sp.keptC l c))])
  | _ => .fail
theorem cc2.ok : StubOk Try.prog C0 11 cc2.stub := by
  intro args res h
  unfold cc2.stub at h
  split at h
  · obtain ⟨l, h1, h0⟩ := any_out h
    obtain ⟨rfl, hl⟩ := Cod.decs_inv h1
    obtain ⟨c, h1', h0'⟩ := any_out h0
    obtain ⟨rfl, hl'⟩ := Cod.decs_inv h1'
    obtain ⟨h2, h3⟩ := gd_out h0'
    have h2 : l.length = 2 := of_decide_eq_true h2
    cases h3
    refine cc2.ev (n := c.length + 1) ?_
    match l, h2 with
    | x :: xs, h2 =>
      have hq : xs.length = 1 := by simpa using h2
      have hne : (((((x :: xs).length : Nat) : Int)) == 0) = false := by rw [ieq, decide_eq_false_iff_not, List.length_cons]; omega
      have key := cc2.l5_run (n := c.length + 1) (x := x) (xs := xs) (c := c) (by unfold lenQ; rw [decide_eq_true_eq]; exact hq) (by omega) hl' c.length 0 (c.length + 1) 0 (by omega) (by omega)
      unfold cc2.res
      rw [Cod.encs_len, Cod.encs_len, hne, cond_false, keptC_cons]
      exact key
  · cases h
/-! cc3 -/
noncomputable def cc3.cfg : Cfg := { C0 with keep := fun | 5 => some [0, 1, 5, 12, 13, 14] | _ => none, nb := 0, M := tabM [(23, spec_l1Own.stub), (11, cc2.stub)], MM := tabB [] }
noncomputable def cc3.l5 (n : Nat) (m5 : Nat) (l0 : List (List D)) (l1 : List (List D)) (i2 : Int) (l3 : List (List D)) (i4 : Int) (i5 : Int) : Option (List Q) :=
  loopAt cc3.cfg [RK.one (LK.int IntKind.i64)] n Try.f11 [1, 1, 1, 0, 1, 0] [] m5 (St.mk [V.one false (D.sl (1 : Nat) l0), V.one false (D.sl (1 : Nat) l1), V.undef, V.undef, V.undef, V.one true (D.int IntKind.i64 i2), V.undef, V.undef, V.undef, V.undef, V.undef, V.undef, V.one false (D.sl (1 : Nat) l3), V.one true (D.int IntKind.i64 i4), V.one true (D.int IntKind.i64 i5), V.undef, V.undef, V.undef, V.undef, V.undef, V.undef, V.undef, V.undef, V.undef, V.undef, V.undef, V.undef, V.undef, V.undef, V.undef, V.undef, V.undef, V.undef, V.undef, V.undef, V.undef, V.undef, V.undef, V.undef, V.undef, V.undef, V.undef] [])
theorem cc3.l5_eq (n : Nat) (m5 : Nat) (l0 : List (List D)) (l1 : List (List D)) (i2 : Int) (l3 : List (List D)) (i4 : Int) (i5 : Int) :
    cc3.l5 n (m5 + 1) l0 l1 i2 l3 i4 i5 = bif decide (i5 < i4) then bif decide ((0 : Int) ≤ i5) then bif decide (i5 < (↑(List.length l3) : Int)) then Option.bind (Option.bind (some (cellD l3 (Int.toNat i5) (0 : Nat))) (D.int? IntKind.i64)) fun (i1 : Int) => bif decide ((0 : Int) < (↑(List.length l0) : Int)) then Option.bind (Option.bind (some (cellD l0 (Int.toNat (0 : Int)) (0 : Nat))) (D.int? IntKind.i64)) fun (i2_1 : Int) => bif decide (i1 ≥ i2_1) then Option.bind (Cod.decs intC l1) fun (l3_1 : List Int) => bif decide ((0 : Int) < (↑(List.length l0) : Int)) then Option.bind (Option.bind (some (cellD l0 (Int.toNat (0 : Int)) (0 : Nat))) (D.int? IntKind.i64)) fun (i4_1 : Int) => bif decide ((0 : Int) ≤ i5) then bif decide (i5 < (↑(List.length (Cod.encs intC l3_1)) : Int)) then bif decide ((1 : Int) ≤ (↑(List.length l0) : Int)) then Option.bind (Cod.decs intC (List.take (List.length l0 - Int.toNat (1 : Int)) (List.drop (Int.toNat (1 : Int)) l0))) fun (l5 : List Int) => Option.bind (Cod.decs intC (setRow (1 : Nat) (Cod.encs intC l3_1) (Int.toNat i5) (0 : Nat) [D.int IntKind.i64 (IntKind.wrap IntKind.i64 (i1 - i4_1))])) fun (l6 : List Int) => bif lenQ (2 : Nat) l5 then cc3.l5 n m5 l0 l1 (IntKind.wrap IntKind.i64 (i2 + keptC l5 l6)) l3 i4 (IntKind.wrap IntKind.i64 (i5 + (1 : Int))) else none else none else none else none else none else cc3.l5 n m5 l0 l1 i2 l3 i4 (IntKind.wrap IntKind.i64 (i5 + (1 : Int))) else none else none else none else some [Q.one (D.int IntKind.i64 i2)] := by kernel_rfl
noncomputable def cc3.res (n : Nat) (a0 : List (List D)) (a1 : List (List D)) : Option (List Q) :=
  bif (↑(List.length a0) : Int) == (0 : Int) then some [Q.one (D.int IntKind.i64 (1 : Int))] else cc3.l5 n n a0 a1 (0 : Int) a1 (↑(List.length a1) : Int) (0 : Int)
theorem cc3.run (n : Nat) (a0 : List (List D)) (a1 : List (List D)) :
    run1 cc3.cfg [RK.one (LK.int IntKind.i64)] n Try.f11 [Q.one (D.sl (1 : Nat) a0), Q.one (D.sl (1 : Nat) a1)] = cc3.res n a0 a1 := by kernel_rfl
theorem cc3.ev {n : Nat} {a0 : List (List D)} {a1 : List (List D)} {r : List Q} (h : cc3.res n a0 a1 = some r) : Snd Try.prog C0 11 [.one (.sl 1 a0), .one (.sl 1 a1)] r :=
  snd_ev (C := cc3.cfg) cfg0 mix rfl rfl rfl rfl rfl (.cons spec_l1Own.ok (.cons cc2.ok .nil)) .nil rfl Try.func11 (by kernel_rfl) (by kernel_rfl) rfl ((cc3.run n a0 a1).trans h)

theorem cc3.l5_run {n : Nat} {x : Int} {xs c : List Int} (hq : lenQ 2 xs = true) (hx : xs.length ≤ 100) (hc : c.length ≤ LIM) : ∀ (d i m : Nat) (s : Int), i + d = c.length → d < m →
    cc3.l5 n m (intC.encs (x :: xs)) (intC.encs c) s (intC.encs c) c.length i = some [Q.one (.int .i64 (keptOn x xs c s (List.range' i d)))] := by
  have h0 : 0 < (x :: xs).length := by simp
  have hx0 : D.int? .i64 (cellD (intC.encs (x :: xs)) 0 0) = some x := intC_int' h0
  have hp : (0 : Int) < (((x :: xs).length : Nat) : Int) := by omega
  have hp1 : (1 : Int) ≤ (((x :: xs).length : Nat) : Int) := by omega
  have hd : intC.decs (List.take ((x :: xs).length - 1) (List.drop 1 (intC.encs (x :: xs)))) = some xs := by
    rw [Cod.encs_drop, Cod.encs_take, List.drop_succ_cons, List.drop_zero, List.take_of_length_le (by simp), Cod.decs_encs (by unfold LIM; omega)]
  intro d
  induction d with
  | zero =>
    intro i m s hi hm
    obtain ⟨m, rfl⟩ : ∃ m', m = m' + 1 := ⟨m - 1, by omega⟩
    have h1 : ¬ (i : Int) < c.length := by omega
    rw [cc3.l5_eq]
    simp only [h1, decide_false, cond_false]
    rfl
  | succ d ih =>
    intro i m s hi hm
    obtain ⟨m, rfl⟩ : ∃ m', m = m' + 1 := ⟨m - 1, by omega⟩
    have hlt : i < c.length := by omega
    have hset : (c.set i (IntKind.wrap .i64 (c[i] - x))).length ≤ LIM := by rw [List.length_set]; exact hc
    rw [cc3.l5_eq, List.range'_succ, keptOn_cons, getD_of_lt hlt]
    simp only [Cod.encs_len, Int.ofNat_lt, hlt, hp, hp1, decide_true, cond_true, Int.natCast_nonneg, Int.toNat_natCast, Int.toNat_zero, show Int.toNat (1 : Int) = 1 from rfl, intC_int' hlt, hx0, Option.bind_some, Cod.decs_encs hc, intC_set, Cod.decs_encs hset, hd, hq, wrap_succ (show i ≤ LIM by omega)]
    cases decide (c[i] ≥ x)
    · simp only [cond_false]; exact ih (i + 1) m s (by omega) (by omega)
    · simp only [cond_true]; exact ih (i + 1) m _ (by omega) (by omega)
def cc3.stub : Stub
  | [.one (.sl 1 es), .one (.sl 1 es')] => .any (intC.decs es) fun l => .any (intC.decs es') fun c => .gd (Sp.lenQ 3 l) (.ret [.one (.int .i64 (Sp.keptC l c))])
  | _ => .fail
theorem cc3.ok : StubOk Try.prog C0 11 cc3.stub := by
  intro args res h
  unfold cc3.stub at h
  split at h
  · obtain ⟨l, h1, h0⟩ := any_out h
    obtain ⟨rfl, hl⟩ := Cod.decs_inv h1
    obtain ⟨c, h1', h0'⟩ := any_out h0
    obtain ⟨rfl, hl'⟩ := Cod.decs_inv h1'
    obtain ⟨h2, h3⟩ := gd_out h0'
    have h2 : l.length = 3 := of_decide_eq_true h2
    cases h3
    refine cc3.ev (n := c.length + 1) ?_
    match l, h2 with
    | x :: xs, h2 =>
      have hq : xs.length = 2 := by simpa using h2
      have hne : (((((x :: xs).length : Nat) : Int)) == 0) = false := by rw [ieq, decide_eq_false_iff_not, List.length_cons]; omega
      have key := cc3.l5_run (n := c.length + 1) (x := x) (xs := xs) (c := c) (by unfold lenQ; rw [decide_eq_true_eq]; exact hq) (by omega) hl' c.length 0 (c.length + 1) 0 (by omega) (by omega)
      unfold cc3.res
      rw [Cod.encs_len, Cod.encs_len, hne, cond_false, keptC_cons]
      exact key
  · cases h
/-! cc4 -/
noncomputable def cc4.cfg : Cfg := { C0 with keep := fun | 5 => some [0, 1, 5, 12, 13, 14] | _ => none, nb := 0, M := tabM [(23, spec_l1Own.stub), (11, cc3.stub)], MM := tabB [] }
noncomputable def cc4.l5 (n : Nat) (m5 : Nat) (l0 : List (List D)) (l1 : List (List D)) (i2 : Int) (l3 : List (List D)) (i4 : Int) (i5 : Int) : Option (List Q) :=
  loopAt cc4.cfg [RK.one (LK.int IntKind.i64)] n Try.f11 [1, 1, 1, 0, 1, 0] [] m5 (St.mk [V.one false (D.sl (1 : Nat) l0), V.one false (D.sl (1 : Nat) l1), V.undef, V.undef, V.undef, V.one true (D.int IntKind.i64 i2), V.undef, V.undef, V.undef, V.undef, V.undef, V.undef, V.one false (D.sl (1 : Nat) l3), V.one true (D.int IntKind.i64 i4), V.one true (D.int IntKind.i64 i5), V.undef, V.undef, V.undef, V.undef, V.undef, V.undef, V.undef, V.undef, V.undef, V.undef, V.undef, V.undef, V.undef, V.undef, V.undef, V.undef, V.undef, V.undef, V.undef, V.undef, V.undef, V.undef, V.undef, V.undef, V.undef, V.undef, V.undef] [])
theorem cc4.l5_eq (n : Nat) (m5 : Nat) (l0 : List (List D)) (l1 : List (List D)) (i2 : Int) (l3 : List (List D)) (i4 : Int) (i5 : Int) :
    cc4.l5 n (m5 + 1) l0 l1 i2 l3 i4 i5 = bif decide (i5 < i4) then bif decide ((0 : Int) ≤ i5) then bif decide (i5 < (↑(List.length l3) : Int)) then Option.bind (Option.bind (some (cellD l3 (Int.toNat i5) (0 : Nat))) (D.int? IntKind.i64)) fun (i1 : Int) => bif decide ((0 : Int) < (↑(List.length l0) : Int)) then Option.bind (Option.bind (some (cellD l0 (Int.toNat (0 : Int)) (0 : Nat))) (D.int? IntKind.i64)) fun (i2_1 : Int) => bif decide (i1 ≥ i2_1) then Option.bind (Cod.decs intC l1) fun (l3_1 : List Int) => bif decide ((0 : Int) < (↑(List.length l0) : Int)) then Option.bind (Option.bind (some (cellD l0 (Int.toNat (0 : Int)) (0 : Nat))) (D.int? IntKind.i64)) fun (i4_1 : Int) => bif decide ((0 : Int) ≤ i5) then bif decide (i5 < (↑(List.length (Cod.encs intC l3_1)) : Int)) then bif decide ((1 : Int) ≤ (↑(List.length l0) : Int)) then Option.bind (Cod.decs intC (List.take (List.length l0 - Int.toNat (1 : Int)) (List.drop (Int.toNat (1 : Int)) l0))) fun (l5 : List Int) => Option.bind (Cod.decs intC (setRow (1 : Nat) (Cod.encs intC l3_1) (Int.toNat i5) (0 : Nat) [D.int IntKind.i64 (IntKind.wrap IntKind.i64 (i1 - i4_1))])) fun (l6 : List Int) => bif lenQ (3 : Nat) l5 then cc4.l5 n m5 l0 l1 (IntKind.wrap IntKind.i64 (i2 + keptC l5 l6)) l3 i4 (IntKind.wrap IntKind.i64 (i5 + (1 : Int))) else none else none else none else none else none else cc4.l5 n m5 l0 l1 i2 l3 i4 (IntKind.wrap IntKind.i64 (i5 + (1 : Int))) else none else none else none else some [Q.one (D.int IntKind.i64 i2)] := by kernel_rfl
noncomputable def cc4.res (n : Nat) (a0 : List (List D)) (a1 : List (List D)) : Option (List Q) :=
  bif (↑(List.length a0) : Int) == (0 : Int) then some [Q.one (D.int IntKind.i64 (1 : Int))] else cc4.l5 n n a0 a1 (0 : Int) a1 (↑(List.length a1) : Int) (0 : Int)
theorem cc4.run (n : Nat) (a0 : List (List D)) (a1 : List (List D)) :
    run1 cc4.cfg [RK.one (LK.int IntKind.i64)] n Try.f11 [Q.one (D.sl (1 : Nat) a0), Q.one (D.sl (1 : Nat) a1)] = cc4.res n a0 a1 := by kernel_rfl
theorem cc4.ev {n : Nat} {a0 : List (List D)} {a1 : List (List D)} {r : List Q} (h : cc4.res n a0 a1 = some r) : Snd Try.prog C0 11 [.one (.sl 1 a0), .one (.sl 1 a1)] r :=
  snd_ev (C := cc4.cfg) cfg0 mix rfl rfl rfl rfl rfl (.cons spec_l1Own.ok (.cons cc3.ok .nil)) .nil rfl Try.func11 (by kernel_rfl) (by kernel_rfl) rfl ((cc4.run n a0 a1).trans h)

theorem cc4.l5_run {n : Nat} {x : Int} {xs c : List Int} (hq : lenQ 3 xs = true) (hx : xs.length ≤ 100) (hc : c.length ≤ LIM) : ∀ (d i m : Nat) (s : Int), i + d = c.length → d < m →
    cc4.l5 n m (intC.encs (x :: xs)) (intC.encs c) s (intC.encs c) c.length i = some [Q.one (.int .i64 (keptOn x xs c s (List.range' i d)))] := by
  have h0 : 0 < (x :: xs).length := by simp
  have hx0 : D.int? .i64 (cellD (intC.encs (x :: xs)) 0 0) = some x := intC_int' h0
  have hp : (0 : Int) < (((x :: xs).length : Nat) : Int) := by omega
  have hp1 : (1 : Int) ≤ (((x :: xs).length : Nat) : Int) := by omega
  have hd : intC.decs (List.take ((x :: xs).length - 1) (List.drop 1 (intC.encs (x :: xs)))) = some xs := by
    rw [Cod.encs_drop, Cod.encs_take, List.drop_succ_cons, List.drop_zero, List.take_of_length_le (by simp), Cod.decs_encs (by unfold LIM; omega)]
  intro d
  induction d with
  | zero =>
    intro i m s hi hm
    obtain ⟨m, rfl⟩ : ∃ m', m = m' + 1 := ⟨m - 1, by omega⟩
    have h1 : ¬ (i : Int) < c.length := by omega
    rw [cc4.l5_eq]
    simp only [h1, decide_false, cond_false]
    rfl
  | succ d ih =>
    intro i m s hi hm
    obtain ⟨m, rfl⟩ : ∃ m', m = m' + 1 := ⟨m - 1, by omega⟩
    have hlt : i < c.length := by omega
    have hset : (c.set i (IntKind.wrap .i64 (c[i] - x))).length ≤ LIM := by rw [List.length_set]; exact hc
    rw [cc4.l5_eq, List.range'_succ, keptOn_cons, getD_of_lt hlt]
    simp only [Cod.encs_len, Int.ofNat_lt, hlt, hp, hp1, decide_true, cond_true, Int.natCast_nonneg, Int.toNat_natCast, Int.toNat_zero, show Int.toNat (1 : Int) = 1 from rfl, intC_int' hlt, hx0, Option.bind_some, Cod.decs_encs hc, intC_set, Cod.decs_encs hset, hd, hq, wrap_succ (show i ≤ LIM by omega)]
    cases decide (c[i] ≥ x)
    · simp only [cond_false]; exact ih (i + 1) m s (by omega) (by omega)
    · simp only [cond_true]; exact ih (i + 1) m _ (by omega) (by omega)
def cc4.stub : Stub
  | [.one (.sl 1 es), .one (.sl 1 es')] => .any (intC.decs es) fun l => .any (intC.decs es') fun c => .gd (Sp.lenQ 4 l) (.ret [.one (.int .i64 (Sp.keptC l c))])
  | _ => .fail
theorem cc4.ok : StubOk Try.prog C0 11 cc4.stub := by
  intro args res h
  unfold cc4.stub at h
  split at h
  · obtain ⟨l, h1, h0⟩ := any_out h
    obtain ⟨rfl, hl⟩ := Cod.decs_inv h1
    obtain ⟨c, h1', h0'⟩ := any_out h0
    obtain ⟨rfl, hl'⟩ := Cod.decs_inv h1'
    obtain ⟨h2, h3⟩ := gd_out h0'
    have h2 : l.length = 4 := of_decide_eq_true h2
    cases h3
    refine cc4.ev (n := c.length + 1) ?_
    match l, h2 with
    | x :: xs, h2 =>
      have hq : xs.length = 3 := by simpa using h2
      have hne : (((((x :: xs).length : Nat) : Int)) == 0) = false := by rw [ieq, decide_eq_false_iff_not, List.length_cons]; omega
      have key := cc4.l5_run (n := c.length + 1) (x := x) (xs := xs) (c := c) (by unfold lenQ; rw [decide_eq_true_eq]; exact hq) (by omega) hl' c.length 0 (c.length + 1) 0 (by omega) (by omega)
      unfold cc4.res
      rw [Cod.encs_len, Cod.encs_len, hne, cond_false, keptC_cons]
      exact key
  · cases h
/-! cc5 -/
noncomputable def cc5.cfg : Cfg := { C0 with keep := fun | 5 => some [0, 1, 5, 12, 13, 14] | _ => none, nb := 0, M := tabM [(23, spec_l1Own.stub), (11, cc4.stub)], MM := tabB [] }
noncomputable def cc5.l5 (n : Nat) (m5 : Nat) (l0 : List (List D)) (l1 : List (List D)) (i2 : Int) (l3 : List (List D)) (i4 : Int) (i5 : Int) : Option (List Q) :=
  loopAt cc5.cfg [RK.one (LK.int IntKind.i64)] n Try.f11 [1, 1, 1, 0, 1, 0] [] m5 (St.mk [V.one false (D.sl (1 : Nat) l0), V.one false (D.sl (1 : Nat) l1), V.undef, V.undef, V.undef, V.one true (D.int IntKind.i64 i2), V.undef, V.undef, V.undef, V.undef, V.undef, V.undef, V.one false (D.sl (1 : Nat) l3), V.one true (D.int IntKind.i64 i4), V.one true (D.int IntKind.i64 i5), V.undef, V.undef, V.undef, V.undef, V.undef, V.undef, V.undef, V.undef, V.undef, V.undef, V.undef, V.undef, V.undef, V.undef, V.undef, V.undef, V.undef, V.undef, V.undef, V.undef, V.undef, V.undef, V.undef, V.undef, V.undef, V.undef, V.undef] [])
theorem cc5.l5_eq (n : Nat) (m5 : Nat) (l0 : List (List D)) (l1 : List (List D)) (i2 : Int) (l3 : List (List D)) (i4 : Int) (i5 : Int) :
    cc5.l5 n (m5 + 1) l0 l1 i2 l3 i4 i5 = bif decide (i5 < i4) then bif decide ((0 : Int) ≤ i5) then bif decide (i5 < (↑(List.length l3) : Int)) then Option.bind (Option.bind (some (cellD l3 (Int.toNat i5) (0 : Nat))) (D.int? IntKind.i64)) fun (i1 : Int) => bif decide ((0 : Int) < (↑(List.length l0) : Int)) then Option.bind (Option.bind (some (cellD l0 (Int.toNat (0 : Int)) (0 : Nat))) (D.int? IntKind.i64)) fun (i2_1 : Int) => bif decide (i1 ≥ i2_1) then Option.bind (Cod.decs intC l1) fun (l3_1 : List Int) => bif decide ((0 : Int) < (↑(List.length l0) : Int)) then Option.bind (Option.bind (some (cellD l0 (Int.toNat (0 : Int)) (0 : Nat))) (D.int? IntKind.i64)) fun (i4_1 : Int) => bif decide ((0 : Int) ≤ i5) then bif decide (i5 < (↑(List.length (Cod.encs intC l3_1)) : Int)) then bif decide ((1 : Int) ≤ (↑(List.length l0) : Int)) then Option.bind (Cod.decs intC (List.take (List.length l0 - Int.toNat (1 : Int)) (List.drop (Int.toNat (1 : Int)) l0))) fun (l5 : List Int) => Option.bind (Cod.decs intC (setRow (1 : Nat) (Cod.encs intC l3_1) (Int.toNat i5) (0 : Nat) [D.int IntKind.i64 (IntKind.wrap IntKind.i64 (i1 - i4_1))])) fun (l6 : List Int) => bif lenQ (4 : Nat) l5 then cc5.l5 n m5 l0 l1 (IntKind.wrap IntKind.i64 (i2 + keptC l5 l6)) l3 i4 (IntKind.wrap IntKind.i64 (i5 + (1 : Int))) else none else none else none else none else none else cc5.l5 n m5 l0 l1 i2 l3 i4 (IntKind.wrap IntKind.i64 (i5 + (1 : Int))) else none else none else none else some [Q.one (D.int IntKind.i64 i2)] := by kernel_rfl
noncomputable def cc5.res (n : Nat) (a0 : List (List D)) (a1 : List (List D)) : Option (List Q) :=
  bif (↑(List.length a0) : Int) == (0 : Int) then some [Q.one (D.int IntKind.i64 (1 : Int))] else cc5.l5 n n a0 a1 (0 : Int) a1 (↑(List.length a1) : Int) (0 : Int)
theorem cc5.run (n : Nat) (a0 : List (List D)) (a1 : List (List D)) :
    run1 cc5.cfg [RK.one (LK.int IntKind.i64)] n Try.f11 [Q.one (D.sl (1 : Nat) a0), Q.one (D.sl (1 : Nat) a1)] = cc5.res n a0 a1 := by kernel_rfl
theorem cc5.ev {n : Nat} {a0 : List (List D)} {a1 : List (List D)} {r : List Q} (h : cc5.res n a0 a1 = some r) : Snd Try.prog C0 11 [.one (.sl 1 a0), .one (.sl 1 a1)] r :=
  snd_ev (C := cc5.cfg) cfg0 mix rfl rfl rfl rfl rfl (.cons spec_l1Own.ok (.cons cc4.ok .nil)) .nil rfl Try.func11 (by kernel_rfl) (by kernel_rfl) rfl ((cc5.run n a0 a1).trans h)

theorem cc5.l5_run {n : Nat} {x : Int} {xs c : List Int} (hq : lenQ 4 xs = true) (hx : xs.length ≤ 100) (hc : c.length ≤ LIM) : ∀ (d i m : Nat) (s : Int), i + d = c.length → d < m →
    cc5.l5 n m (intC.encs (x :: xs)) (intC.encs c) s (intC.encs c) c.length i = some [Q.one (.int .i64 (keptOn x xs c s (List.range' i d)))] := by
  have h0 : 0 < (x :: xs).length := by simp
  have hx0 : D.int? .i64 (cellD (intC.encs (x :: xs)) 0 0) = some x := intC_int' h0
  have hp : (0 : Int) < (((x :: xs).length : Nat) : Int) := by omega
  have hp1 : (1 : Int) ≤ (((x :: xs).length : Nat) : Int) := by omega
  have hd : intC.decs (List.take ((x :: xs).length - 1) (List.drop 1 (intC.encs (x :: xs)))) = some xs := by
    rw [Cod.encs_drop, Cod.encs_take, List.drop_succ_cons, List.drop_zero, List.take_of_length_le (by simp), Cod.decs_encs (by unfold LIM; omega)]
  intro d
  induction d with
  | zero =>
    intro i m s hi hm
    obtain ⟨m, rfl⟩ : ∃ m', m = m' + 1 := ⟨m - 1, by omega⟩
    have h1 : ¬ (i : Int) < c.length := by omega
    rw [cc5.l5_eq]
    simp only [h1, decide_false, cond_false]
    rfl
  | succ d ih =>
    intro i m s hi hm
    obtain ⟨m, rfl⟩ : ∃ m', m = m' + 1 := ⟨m - 1, by omega⟩
    have hlt : i < c.length := by omega
    have hset : (c.set i (IntKind.wrap .i64 (c[i] - x))).length ≤ LIM := by rw [List.length_set]; exact hc
    rw [cc5.l5_eq, List.range'_succ, keptOn_cons, getD_of_lt hlt]
    simp only [Cod.encs_len, Int.ofNat_lt, hlt, hp, hp1, decide_true, cond_true, Int.natCast_nonneg, Int.toNat_natCast, Int.toNat_zero, show Int.toNat (1 : Int) = 1 from rfl, intC_int' hlt, hx0, Option.bind_some, Cod.decs_encs hc, intC_set, Cod.decs_encs hset, hd, hq, wrap_succ (show i ≤ LIM by omega)]
    cases decide (c[i] ≥ x)
    · simp only [cond_false]; exact ih (i + 1) m s (by omega) (by omega)
    · simp only [cond_true]; exact ih (i + 1) m _ (by omega) (by omega)
def cc5.stub : Stub
  | [.one (.sl 1 es), .one (.sl 1 es')] => .any (intC.decs es) fun l => .any (intC.decs es') fun c => .gd (Sp.lenQ 5 l) (.ret [.one (.int .i64 (Sp.keptC l c))])
  | _ => .fail
theorem cc5.ok : StubOk Try.prog C0 11 cc5.stub := by
  intro args res h
  unfold cc5.stub at h
  split at h
  · obtain ⟨l, h1, h0⟩ := any_out h
    obtain ⟨rfl, hl⟩ := Cod.decs_inv h1
    obtain ⟨c, h1', h0'⟩ := any_out h0
    obtain ⟨rfl, hl'⟩ := Cod.decs_inv h1'
    obtain ⟨h2, h3⟩ := gd_out h0'
    have h2 : l.length = 5 := of_decide_eq_true h2
    cases h3
    refine cc5.ev (n := c.length + 1) ?_
    match l, h2 with
    | x :: xs, h2 =>
      have hq : xs.length = 4 := by simpa using h2
      have hne : (((((x :: xs).length : Nat) : Int)) == 0) = false := by rw [ieq, decide_eq_false_iff_not, List.length_cons]; omega
      have key := cc5.l5_run (n := c.length + 1) (x := x) (xs := xs) (c := c) (by unfold lenQ; rw [decide_eq_true_eq]; exact hq) (by omega) hl' c.length 0 (c.length + 1) 0 (by omega) (by omega)
      unfold cc5.res
      rw [Cod.encs_len, Cod.encs_len, hne, cond_false, keptC_cons]
      exact key
  · cases h
/-! cc6 -/
noncomputable def cc6.cfg : Cfg := { C0 with keep := fun | 5 => some [0, 1, 5, 12, 13, 14] | _ => none, nb := 0, M := tabM [(23, spec_l1Own.stub), (11, cc5.stub)], MM := tabB [] }
noncomputable def cc6.l5 (n : Nat) (m5 : Nat) (l0 : List (List D)) (l1 : List (List D)) (i2 : Int) (l3 : List (List D)) (i4 : Int) (i5 : Int) : Option (List Q) :=
  loopAt cc6.cfg [RK.one (LK.int IntKind.i64)] n Try.f11 [1, 1, 1, 0, 1, 0] [] m5 (St.mk [V.one false (D.sl (1 : Nat) l0), V.one false (D.sl (1 : Nat) l1), V.undef, V.undef, V.undef, V.one true (D.int IntKind.i64 i2), V.undef, V.undef, V.undef, V.undef, V.undef, V.undef, V.one false (D.sl (1 : Nat) l3), V.one true (D.int IntKind.i64 i4), V.one true (D.int IntKind.i64 i5), V.undef, V.undef, V.undef, V.undef, V.undef, V.undef, V.undef, V.undef, V.undef, V.undef, V.undef, V.undef, V.undef, V.undef, V.undef, V.undef, V.undef, V.undef, V.undef, V.undef, V.undef, V.undef, V.undef, V.undef, V.undef, V.undef, V.undef] [])
theorem cc6.l5_eq (n : Nat) (m5 : Nat) (l0 : List (List D)) (l1 : List (List D)) (i2 : Int) (l3 : List (List D)) (i4 : Int) (i5 : Int) :
    cc6.l5 n (m5 + 1) l0 l1 i2 l3 i4 i5 = bif decide (i5 < i4) then bif decide ((0 : Int) ≤ i5) then bif decide (i5 < (↑(List.length l3) : Int)) then Option.bind (Option.bind (some (cellD l3 (Int.toNat i5) (0 : Nat))) (D.int? IntKind.i64)) fun (i1 : Int) => bif decide ((0 : Int) < (↑(List.length l0) : Int)) then Option.bind (Option.bind (some (cellD l0 (Int.toNat (0 : Int)) (0 : Nat))) (D.int? IntKind.i64)) fun (i2_1 : Int) => bif decide (i1 ≥ i2_1) then Option.bind (Cod.decs intC l1) fun (l3_1 : List Int) => bif decide ((0 : Int) < (↑(List.length l0) : Int)) then Option.bind (Option.bind (some (cellD l0 (Int.toNat (0 : Int)) (0 : Nat))) (D.int? IntKind.i64)) fun (i4_1 : Int) => bif decide ((0 : Int) ≤ i5) then bif decide (i5 < (↑(List.length (Cod.encs intC l3_1)) : Int)) then bif decide ((1 : Int) ≤ (↑(List.length l0) : Int)) then Option.bind (Cod.decs intC (List.take (List.length l0 - Int.toNat (1 : Int)) (List.drop (Int.toNat (1 : Int)) l0))) fun (l5 : List Int) => Option.bind (Cod.decs intC (setRow (1 : Nat) (Cod.encs intC l3_1) (Int.toNat i5) (0 : Nat) [D.int IntKind.i64 (IntKind.wrap IntKind.i64 (i1 - i4_1))])) fun (l6 : List Int) => bif lenQ (5 : Nat) l5 then cc6.l5 n m5 l0 l1 (IntKind.wrap IntKind.i64 (i2 + keptC l5 l6)) l3 i4 (IntKind.wrap IntKind.i64 (i5 + (1 : Int))) else none else none else none else none else none else cc6.l5 n m5 l0 l1 i2 l3 i4 (IntKind.wrap IntKind.i64 (i5 + (1 : Int))) else none else none else none else some [Q.one (D.int IntKind.i64 i2)] := by kernel_rfl
noncomputable def cc6.res (n : Nat) (a0 : List (List D)) (a1 : List (List D)) : Option (List Q) :=
  bif (↑(List.length a0) : Int) == (0 : Int) then some [Q.one (D.int IntKind.i64 (1 : Int))] else cc6.l5 n n a0 a1 (0 : Int) a1 (↑(List.length a1) : Int) (0 : Int)
theorem cc6.run (n : Nat) (a0 : List (List D)) (a1 : List (List D)) :
    run1 cc6.cfg [RK.one (LK.int IntKind.i64)] n Try.f11 [Q.one (D.sl (1 : Nat) a0), Q.one (D.sl (1 : Nat) a1)] = cc6.res n a0 a1 := by kernel_rfl
theorem cc6.ev {n : Nat} {a0 : List (List D)} {a1 : List (List D)} {r : List Q} (h : cc6.res n a0 a1 = some r) : Snd Try.prog C0 11 [.one (.sl 1 a0), .one (.sl 1 a1)] r :=
  snd_ev (C := cc6.cfg) cfg0 mix rfl rfl rfl rfl rfl (.cons spec_l1Own.ok (.cons cc5.ok .nil)) .nil rfl Try.func11 (by kernel_rfl) (by kernel_rfl) rfl ((cc6.run n a0 a1).trans h)

theorem cc6.l5_run {n : Nat} {x : Int} {xs c : List Int} (hq : lenQ 5 xs = true) (hx : xs.length ≤ 100) (hc : c.length ≤ LIM) : ∀ (d i m : Nat) (s : Int), i + d = c.length → d < m →
    cc6.l5 n m (intC.encs (x :: xs)) (intC.encs c) s (intC.encs c) c.length i = some [Q.one (.int .i64 (keptOn x xs c s (List.range' i d)))] := by
  have h0 : 0 < (x :: xs).length := by simp
  have hx0 : D.int? .i64 (cellD (intC.encs (x :: xs)) 0 0) = some x := intC_int' h0
  have hp : (0 : Int) < (((x :: xs).length : Nat) : Int) := by omega
  have hp1 : (1 : Int) ≤ (((x :: xs).length : Nat) : Int) := by omega
  have hd : intC.decs (List.take ((x :: xs).length - 1) (List.drop 1 (intC.encs (x :: xs)))) = some xs := by
    rw [Cod.encs_drop, Cod.encs_take, List.drop_succ_cons, List.drop_zero, List.take_of_length_le (by simp), Cod.decs_encs (by unfold LIM; omega)]
  intro d
  induction d with
  | zero =>
    intro i m s hi hm
    obtain ⟨m, rfl⟩ : ∃ m', m = m' + 1 := ⟨m - 1, by omega⟩
    have h1 : ¬ (i : Int) < c.length := by omega
    rw [cc6.l5_eq]
    simp only [h1, decide_false, cond_false]
    rfl
  | succ d ih =>
    intro i m s hi hm
    obtain ⟨m, rfl⟩ : ∃ m', m = m' + 1 := ⟨m - 1, by omega⟩
    have hlt : i < c.length := by omega
    have hset : (c.set i (IntKind.wrap .i64 (c[i] - x))).length ≤ LIM := by rw [List.length_set]; exact hc
    rw [cc6.l5_eq, List.range'_succ, keptOn_cons, getD_of_lt hlt]
    simp only [Cod.encs_len, Int.ofNat_lt, hlt, hp, hp1, decide_true, cond_true, Int.natCast_nonneg, Int.toNat_natCast, Int.toNat_zero, show Int.toNat (1 : Int) = 1 from rfl, intC_int' hlt, hx0, Option.bind_some, Cod.decs_encs hc, intC_set, Cod.decs_encs hset, hd, hq, wrap_succ (show i ≤ LIM by omega)]
    cases decide (c[i] ≥ x)
    · simp only [cond_false]; exact ih (i + 1) m s (by omega) (by omega)
    · simp only [cond_true]; exact ih (i + 1) m _ (by omega) (by omega)
def cc6.stub : Stub
  | [.one (.sl 1 es), .one (.sl 1 es')] => .any (intC.decs es) fun l => .any (intC.decs es') fun c => .gd (Sp.lenQ 6 l) (.ret [.one (.int .i64 (Sp.keptC l c))])
  | _ => .fail
theorem cc6.ok : StubOk Try.prog C0 11 cc6.stub := by
  intro args res h
  unfold cc6.stub at h
  split at h
  · obtain ⟨l, h1, h0⟩ := any_out h
    obtain ⟨rfl, hl⟩ := Cod.decs_inv h1
    obtain ⟨c, h1', h0'⟩ := any_out h0
    obtain ⟨rfl, hl'⟩ := Cod.decs_inv h1'
    obtain ⟨h2, h3⟩ := gd_out h0'
    have h2 : l.length = 6 := of_decide_eq_true h2
    cases h3
    refine cc6.ev (n := c.length + 1) ?_
    match l, h2 with
    | x :: xs, h2 =>
      have hq : xs.length = 5 := by simpa using h2
      have hne : (((((x :: xs).length : Nat) : Int)) == 0) = false := by rw [ieq, decide_eq_false_iff_not, List.length_cons]; omega
      have key := cc6.l5_run (n := c.length + 1) (x := x) (xs := xs) (c := c) (by unfold lenQ; rw [decide_eq_true_eq]; exact hq) (by omega) hl' c.length 0 (c.length + 1) 0 (by omega) (by omega)
      unfold cc6.res
      rw [Cod.encs_len, Cod.encs_len, hne, cond_false, keptC_cons]
      exact key
  · cases h
/-! kp0 -/
noncomputable def kp0.cfg : Cfg := { C0 with keep := fun | 5 => some [0, 1, 5, 11, 12, 13] | _ => none, nb := 2, M := tabM [], MM := tabB [] }
noncomputable def kp0.l5 (n : Nat) (m5 : Nat) (j0 : Nat) (j1 : Nat) (i2 : Int) (i3 : Int) (i4 : Int) (l5 : List (List D)) (l6 : List (List D)) : Option (List V × List Ob) :=
  loopAtB kp0.cfg n Try.f16 [1, 1, 1, 0, 1, 0] [] m5 (St.mk [V.rs (0 : Nat) j0 j1, V.rw (1 : Nat), V.undef, V.undef, V.undef, V.one true (D.int IntKind.i64 i2), V.undef, V.undef, V.undef, V.undef, V.undef, V.rw (1 : Nat), V.one true (D.int IntKind.i64 i3), V.one true (D.int IntKind.i64 i4), V.undef, V.undef, V.undef, V.undef, V.undef, V.undef, V.undef, V.undef, V.undef, V.undef, V.undef, V.undef, V.undef, V.undef, V.undef, V.undef, V.undef, V.undef, V.undef, V.undef, V.undef, V.undef, V.undef, V.undef, V.undef, V.undef, V.undef, V.undef, V.undef, V.undef] [Ob.row false (1 : Nat) l5, Ob.row false (1 : Nat) l6])
theorem kp0.l5_eq (n : Nat) (m5 : Nat) (j0 : Nat) (j1 : Nat) (i2 : Int) (i3 : Int) (i4 : Int) (l5 : List (List D)) (l6 : List (List D)) :
    kp0.l5 n (m5 + 1) j0 j1 i2 i3 i4 l5 l6 = bif decide (i4 < i3) then bif decide ((0 : Int) ≤ i4) then bif decide (i4 < (↑(List.length l6) : Int)) then Option.bind (Option.bind (some (cellD l6 (Int.toNat i4) (0 : Nat))) (D.int? IntKind.i64)) fun (i1 : Int) => bif decide ((0 : Int) < (↑j1 : Int)) then Option.bind (Option.bind (some (cellD l5 (j0 + Int.toNat (0 : Int)) (0 : Nat))) (D.int? IntKind.i64)) fun (i2_1 : Int) => bif decide (i1 ≥ i2_1) then bif decide ((0 : Int) ≤ i4) then bif decide (i4 < (↑(List.length l6) : Int)) then Option.bind (Option.bind (some (cellD l6 (Int.toNat i4) (0 : Nat))) (D.int? IntKind.i64)) fun (i3 : Int) => bif decide ((0 : Int) < (↑j1 : Int)) then Option.bind (Option.bind (some (cellD l5 (j0 + Int.toNat (0 : Int)) (0 : Nat))) (D.int? IntKind.i64)) fun (i4_1 : Int) => bif decide ((0 : Int) ≤ i4) then bif decide (i4 < (↑(List.length l6) : Int)) then bif decide ((1 : Int) ≤ (↑j1 : Int)) then none else none else none else none else none else none else none else kp0.l5 n m5 j0 j1 i2 i3 (IntKind.wrap IntKind.i64 (i4 + (1 : Int))) l5 l6 else none else none else none else some ([V.one true (D.int IntKind.i64 i2)], [Ob.row false (1 : Nat) l5, Ob.row false (1 : Nat) l6]) := by kernel_rfl
noncomputable def kp0.res (n : Nat) (es : List (List D)) (es' : List (List D)) (off : Nat) (len : Nat) : Option (List V × List Ob) :=
  bif (↑len : Int) == (0 : Int) then some ([V.one true (D.int IntKind.i64 (1 : Int))], [Ob.row false (1 : Nat) es, Ob.row false (1 : Nat) es']) else kp0.l5 n n off len (0 : Int) (↑(List.length es') : Int) (0 : Int) es es'
theorem kp0.run (n : Nat) (es : List (List D)) (es' : List (List D)) (off : Nat) (len : Nat) :
    (fun p : List V × List Ob => runB kp0.cfg n Try.f16 p.1 p.2) ([V.rs (0 : Nat) off len, V.rw (1 : Nat)], [Ob.row false (1 : Nat) es, Ob.row false (1 : Nat) es']) = kp0.res n es es' off len := by kernel_rfl
theorem kp0.ev {n : Nat} {es : List (List D)} {es' : List (List D)} {off : Nat} {len : Nat} {r : List V} {o : List Ob} (h : kp0.res n es es' off len = some (r, o)) : SndB Try.prog C0 16 [.rs 0 off len, .rw 1] [.row false 1 es, .row false 1 es'] r o :=
  sndB_ev (C := kp0.cfg) cfg0 mix rfl rfl rfl rfl rfl .nil .nil Try.func16 (by kernel_rfl) (by kernel_rfl) rfl ((kp0.run n es es' off len).trans h)

def kp0.stub : StubB
  | [.rs 0 off len, .rw 1], [.row false 1 es, .row false 1 es'] => .any (intC.decs es) fun L => .gd (Sp.inRow off len es.length) (.any (intC.decs ((es.drop off).take len)) fun l => .any (intC.decs es') fun c => .gd (Sp.lenQ 0 l) (.ret ([.one true (.int .i64 (Sp.keptC l c))], [.row false 1 es, .row false 1 (intC.encs c)])))
  | _, _ => .fail
theorem kp0.ok : StubBOk Try.prog C0 16 kp0.stub := by
  intro args objs res objs' h
  unfold kp0.stub at h
  split at h
  · rename_i off len es es'
    obtain ⟨L, h1, h0⟩ := any_out h
    obtain ⟨rfl, hl⟩ := Cod.decs_inv h1
    obtain ⟨hir, h0⟩ := gd_out h0
    have hir : off + len ≤ (intC.encs L).length := of_decide_eq_true hir
    rw [Cod.encs_len] at hir
    obtain ⟨l, h1a, h0a⟩ := any_out h0
    obtain ⟨c, h1', h0'⟩ := any_out h0a
    obtain ⟨rfl, hl'⟩ := Cod.decs_inv h1'
    obtain ⟨h2, h3⟩ := gd_out h0'
    have h2 : l.length = 0 := of_decide_eq_true h2
    cases h3
    rw [Cod.encs_drop, Cod.encs_take, Cod.decs_encs (by rw [List.length_take, List.length_drop]; omega)] at h1a
    have h1a := Option.some.inj h1a
    have hlen : len = 0 := by
      have := congrArg List.length h1a
      rw [List.length_take, List.length_drop] at this
      omega
    obtain rfl := List.eq_nil_of_length_eq_zero h2
    subst hlen
    exact kp0.ev (n := 0) rfl
  · cases h
/-! kp1 -/
noncomputable def kp1.cfg : Cfg := { C0 with keep := fun | 5 => some [0, 1, 5, 11, 12, 13] | _ => none, nb := 2, M := tabM [], MM := tabB [(16, kp0.stub)] }
noncomputable def kp1.l5 (n : Nat) (m5 : Nat) (j0 : Nat) (j1 : Nat) (i2 : Int) (i3 : Int) (i4 : Int) (l5 : List (List D)) (l6 : List (List D)) : Option (List V × List Ob) :=
  loopAtB kp1.cfg n Try.f16 [1, 1, 1, 0, 1, 0] [] m5 (St.mk [V.rs (0 : Nat) j0 j1, V.rw (1 : Nat), V.undef, V.undef, V.undef, V.one true (D.int IntKind.i64 i2), V.undef, V.undef, V.undef, V.undef, V.undef, V.rw (1 : Nat), V.one true (D.int IntKind.i64 i3), V.one true (D.int IntKind.i64 i4), V.undef, V.undef, V.undef, V.undef, V.undef, V.undef, V.undef, V.undef, V.undef, V.undef, V.undef, V.undef, V.undef, V.undef, V.undef, V.undef, V.undef, V.undef, V.undef, V.undef, V.undef, V.undef, V.undef, V.undef, V.undef, V.undef, V.undef, V.undef, V.undef, V.undef] [Ob.row false (1 : Nat) l5, Ob.row false (1 : Nat) l6])
theorem kp1.l5_eq (n : Nat) (m5 : Nat) (j0 : Nat) (j1 : Nat) (i2 : Int) (i3 : Int) (i4 : Int) (l5 : List (List D)) (l6 : List (List D)) :
    kp1.l5 n (m5 + 1) j0 j1 i2 i3 i4 l5 l6 = bif decide (i4 < i3) then bif decide ((0 : Int) ≤ i4) then bif decide (i4 < (↑(List.length l6) : Int)) then Option.bind (Option.bind (some (cellD l6 (Int.toNat i4) (0 : Nat))) (D.int? IntKind.i64)) fun (i1 : Int) => bif decide ((0 : Int) < (↑j1 : Int)) then Option.bind (Option.bind (some (cellD l5 (j0 + Int.toNat (0 : Int)) (0 : Nat))) (D.int? IntKind.i64)) fun (i2_1 : Int) => bif decide (i1 ≥ i2_1) then bif decide ((0 : Int) ≤ i4) then bif decide (i4 < (↑(List.length l6) : Int)) then Option.bind (Option.bind (some (cellD l6 (Int.toNat i4) (0 : Nat))) (D.int? IntKind.i64)) fun (i3_1 : Int) => bif decide ((0 : Int) < (↑j1 : Int)) then Option.bind (Option.bind (some (cellD l5 (j0 + Int.toNat (0 : Int)) (0 : Nat))) (D.int? IntKind.i64)) fun (i4_1 : Int) => bif decide ((0 : Int) ≤ i4) then bif decide (i4 < (↑(List.length l6) : Int)) then bif decide ((1 : Int) ≤ (↑j1 : Int)) then Option.bind (Cod.decs intC l5) fun (l5_1 : List Int) => bif inRow (j0 + Int.toNat (1 : Int)) (j1 - Int.toNat (1 : Int)) (List.length l5) then Option.bind (Cod.decs intC (List.take (j1 - Int.toNat (1 : Int)) (List.drop (j0 + Int.toNat (1 : Int)) l5))) fun (l6_1 : List Int) => Option.bind (Cod.decs intC (setRow (1 : Nat) l6 (Int.toNat i4) (0 : Nat) [D.int IntKind.i64 (IntKind.wrap IntKind.i64 (i3_1 - i4_1))])) fun (l7 : List Int) => bif lenQ (0 : Nat) l6_1 then bif decide ((0 : Int) ≤ i4) then bif decide (i4 < (↑(List.length (Cod.encs intC l7)) : Int)) then kp1.l5 n m5 j0 j1 (IntKind.wrap IntKind.i64 (i2 + keptC l6_1 l7)) i3 (IntKind.wrap IntKind.i64 (i4 + (1 : Int))) l5 (setRow (1 : Nat) (Cod.encs intC l7) (Int.toNat i4) (0 : Nat) [D.int IntKind.i64 i1]) else none else none else none else none else none else none else none else none else none else none else kp1.l5 n m5 j0 j1 i2 i3 (IntKind.wrap IntKind.i64 (i4 + (1 : Int))) l5 l6 else none else none else none else some ([V.one true (D.int IntKind.i64 i2)], [Ob.row false (1 : Nat) l5, Ob.row false (1 : Nat) l6]) := by kernel_rfl
noncomputable def kp1.res (n : Nat) (es : List (List D)) (es' : List (List D)) (off : Nat) (len : Nat) : Option (List V × List Ob) :=
  bif (↑len : Int) == (0 : Int) then some ([V.one true (D.int IntKind.i64 (1 : Int))], [Ob.row false (1 : Nat) es, Ob.row false (1 : Nat) es']) else kp1.l5 n n off len (0 : Int) (↑(List.length es') : Int) (0 : Int) es es'
theorem kp1.run (n : Nat) (es : List (List D)) (es' : List (List D)) (off : Nat) (len : Nat) :
    (fun p : List V × List Ob => runB kp1.cfg n Try.f16 p.1 p.2) ([V.rs (0 : Nat) off len, V.rw (1 : Nat)], [Ob.row false (1 : Nat) es, Ob.row false (1 : Nat) es']) = kp1.res n es es' off len := by kernel_rfl
theorem kp1.ev {n : Nat} {es : List (List D)} {es' : List (List D)} {off : Nat} {len : Nat} {r : List V} {o : List Ob} (h : kp1.res n es es' off len = some (r, o)) : SndB Try.prog C0 16 [.rs 0 off len, .rw 1] [.row false 1 es, .row false 1 es'] r o :=
  sndB_ev (C := kp1.cfg) cfg0 mix rfl rfl rfl rfl rfl .nil (.cons kp0.ok .nil) Try.func16 (by kernel_rfl) (by kernel_rfl) rfl ((kp1.run n es es' off len).trans h)

theorem kp1.l5_run {n : Nat} {L : List Int} {off len : Nat} {x : Int} {xs c : List Int} (hs : (L.drop off).take len = x :: xs) (hq : lenQ 0 xs = true) (hx : xs.length ≤ 100) (hc : c.length ≤ LIM) (hL : L.length ≤ LIM) (hr : off + len ≤ L.length) : ∀ (d i m : Nat) (s : Int), i + d = c.length → d < m →
    kp1.l5 n m off len s c.length i (intC.encs L) (intC.encs c) = some ([V.one true (.int .i64 (keptOn x xs c s (List.range' i d)))], [Ob.row false 1 (intC.encs L), Ob.row false 1 (intC.encs c)]) := by
  obtain ⟨hlen, ⟨hoff, hx1⟩, hxs⟩ := split_ok hs
  have hx0 : D.int? .i64 (cellD (intC.encs L) (off + 0) 0) = some x := by rw [Nat.add_zero, intC_int' hoff, hx1]
  have hp : (0 : Int) < ((len : Nat) : Int) := by omega
  have hp1 : (1 : Int) ≤ ((len : Nat) : Int) := by omega
  have hd : intC.decs (List.take (len - 1) (List.drop (off + 1) (intC.encs L))) = some xs := by
    rw [Cod.encs_drop, Cod.encs_take, hxs, Cod.decs_encs (by unfold LIM; omega)]
  have hr2 : inRow (off + 1) (len - 1) L.length = true := by unfold inRow; rw [decide_eq_true_eq]; omega
  intro d
  induction d with
  | zero =>
    intro i m s hi hm
    obtain ⟨m, rfl⟩ : ∃ m', m = m' + 1 := ⟨m - 1, by omega⟩
    have h1 : ¬ (i : Int) < c.length := by omega
    rw [kp1.l5_eq]
    simp only [h1, decide_false, cond_false]
    rfl
  | succ d ih =>
    intro i m s hi hm
    obtain ⟨m, rfl⟩ : ∃ m', m = m' + 1 := ⟨m - 1, by omega⟩
    have hlt : i < c.length := by omega
    have hset : (c.set i (IntKind.wrap .i64 (c[i] - x))).length ≤ LIM := by rw [List.length_set]; exact hc
    rw [kp1.l5_eq, List.range'_succ, keptOn_cons, getD_of_lt hlt]
    simp only [Cod.encs_len, List.length_set, Int.ofNat_lt, hlt, hp, hp1, decide_true, cond_true, Int.natCast_nonneg, Int.toNat_natCast, Int.toNat_zero, show Int.toNat (1 : Int) = 1 from rfl, intC_int' hlt, hx0, Option.bind_some, intC_set, Cod.decs_encs hset, hd, hq, hr2, Cod.decs_encs hL, set_back hlt, wrap_succ (show i ≤ LIM by omega)]
    cases decide (c[i] ≥ x)
    · simp only [cond_false]; exact ih (i + 1) m s (by omega) (by omega)
    · simp only [cond_true]; exact ih (i + 1) m _ (by omega) (by omega)
def kp1.stub : StubB
  | [.rs 0 off len, .rw 1], [.row false 1 es, .row false 1 es'] => .any (intC.decs es) fun L => .gd (Sp.inRow off len es.length) (.any (intC.decs ((es.drop off).take len)) fun l => .any (intC.decs es') fun c => .gd (Sp.lenQ 1 l) (.ret ([.one true (.int .i64 (Sp.keptC l c))], [.row false 1 es, .row false 1 (intC.encs c)])))
  | _, _ => .fail
theorem kp1.ok : StubBOk Try.prog C0 16 kp1.stub := by
  intro args objs res objs' h
  unfold kp1.stub at h
  split at h
  · rename_i off len es es'
    obtain ⟨L, h1, h0⟩ := any_out h
    obtain ⟨rfl, hl⟩ := Cod.decs_inv h1
    obtain ⟨hir, h0⟩ := gd_out h0
    have hir : off + len ≤ (intC.encs L).length := of_decide_eq_true hir
    rw [Cod.encs_len] at hir
    obtain ⟨l, h1a, h0a⟩ := any_out h0
    obtain ⟨c, h1', h0'⟩ := any_out h0a
    obtain ⟨rfl, hl'⟩ := Cod.decs_inv h1'
    obtain ⟨h2, h3⟩ := gd_out h0'
    have h2 : l.length = 1 := of_decide_eq_true h2
    cases h3
    rw [Cod.encs_drop, Cod.encs_take, Cod.decs_encs (by rw [List.length_take, List.length_drop]; omega)] at h1a
    have h1a := Option.some.inj h1a
    refine kp1.ev (n := c.length + 1) ?_
    match l, h2, h1a with
    | x :: xs, h2, h1a =>
      have hq : xs.length = 0 := by simpa using h2
      have hlen := (split_ok h1a).1
      have hne : (((len : Nat) : Int) == 0) = false := by rw [ieq, decide_eq_false_iff_not]; omega
      have key := kp1.l5_run (n := c.length + 1) (c := c) h1a (by unfold lenQ; rw [decide_eq_true_eq]; exact hq) (by omega) hl' hl hir c.length 0 (c.length + 1) 0 (by omega) (by omega)
      unfold kp1.res
      rw [Cod.encs_len, hne, cond_false, keptC_cons]
      exact key
  · cases h
/-! kp2 -/
noncomputable def kp2.cfg : Cfg := { C0 with keep := fun | 5 => some [0, 1, 5, 11, 12, 13] | _ => none, nb := 2, M := tabM [], MM := tabB [(16, kp1.stub)] }
noncomputable def kp2.l5 (n : Nat) (m5 : Nat) (j0 : Nat) (j1 : Nat) (i2 : Int) (i3 : Int) (i4 : Int) (l5 : List (List D)) (l6 : List (List D)) : Option (List V × List Ob) :=
  loopAtB kp2.cfg n Try.f16 [1, 1, 1, 0, 1, 0] [] m5 (St.mk [V.rs (0 : Nat) j0 j1, V.rw (1 : Nat), V.undef, V.undef, V.undef, V.one true (D.int IntKind.i64 i2), V.undef, V.undef, V.undef, V.undef, V.undef, V.rw (1 : Nat), V.one true (D.int IntKind.i64 i3), V.one true (D.int IntKind.i64 i4), V.undef, V.undef, V.undef, V.undef, V.undef, V.undef, V.undef, V.undef, V.undef, V.undef, V.undef, V.undef, V.undef, V.undef, V.undef, V.undef, V.undef, V.undef, V.undef, V.undef, V.undef, V.undef, V.undef, V.undef, V.undef, V.undef, V.undef, V.undef, V.undef, V.undef] [Ob.row false (1 : Nat) l5, Ob.row false (1 : Nat) l6])
theorem kp2.l5_eq (n : Nat) (m5 : Nat) (j0 : Nat) (j1 : Nat) (i2 : Int) (i3 : Int) (i4 : Int) (l5 : List (List D)) (l6 : List (List D)) :
    kp2.l5 n (m5 + 1) j0 j1 i2 i3 i4 l5 l6 = bif decide (i4 < i3) then bif decide ((0 : Int) ≤ i4) then bif decide (i4 < (↑(List.length l6) : Int)) then Option.bind (Option.bind (some (cellD l6 (Int.toNat i4) (0 : Nat))) (D.int? IntKind.i64)) fun (i1 : Int) => bif decide ((0 : Int) < (↑j1 : Int)) then Option.bind (Option.bind (some (cellD l5 (j0 + Int.toNat (0 : Int)) (0 : Nat))) (D.int? IntKind.i64)) fun (i2_1 : Int) => bif decide (i1 ≥ i2_1) then bif decide ((0 : Int) ≤ i4) then bif decide (i4 < (↑(List.length l6) : Int)) then Option.bind (Option.bind (some (cellD l6 (Int.toNat i4) (0 : Nat))) (D.int? IntKind.i64)) fun (i3_1 : Int) => bif decide ((0 : Int) < (↑j1 : Int)) then Option.bind (Option.bind (some (cellD l5 (j0 + Int.toNat (0 : Int)) (0 : Nat))) (D.int? IntKind.i64)) fun (i4_1 : Int) => bif decide ((0 : Int) ≤ i4) then bif decide (i4 < (↑(List.length l6) : Int)) then bif decide ((1 : Int) ≤ (↑j1 : Int)) then Option.bind (Cod.decs intC l5) fun (l5_1 : List Int) => bif inRow (j0 + Int.toNat (1 : Int)) (j1 - Int.toNat (1 : Int)) (List.length l5) then Option.bind (Cod.decs intC (List.take (j1 - Int.toNat (1 : Int)) (List.drop (j0 + Int.toNat (1 : Int)) l5))) fun (l6_1 : List Int) => Option.bind (Cod.decs intC (setRow (1 : Nat) l6 (Int.toNat i4) (0 : Nat) [D.int IntKind.i64 (IntKind.wrap IntKind.i64 (i3_1 - i4_1))])) fun (l7 : List Int) => bif lenQ (1 : Nat) l6_1 then bif decide ((0 : Int) ≤ i4) then bif decide (i4 < (↑(List.length (Cod.encs intC l7)) : Int)) then kp2.l5 n m5 j0 j1 (IntKind.wrap IntKind.i64 (i2 + keptC l6_1 l7)) i3 (IntKind.wrap IntKind.i64 (i4 + (1 : Int))) l5 (setRow (1 : Nat) (Cod.encs intC l7) (Int.toNat i4) (0 : Nat) [D.int IntKind.i64 i1]) else none else none else none else none else none else none else none else none else none else none else kp2.l5 n m5 j0 j1 i2 i3 (IntKind.wrap IntKind.i64 (i4 + (1 : Int))) l5 l6 else none else none else none else some ([V.one true (D.int IntKind.i64 i2)], [Ob.row false (1 : Nat) l5, Ob.row false (1 : Nat) l6]) := by kernel_rfl
noncomputable def kp2.res (n : Nat) (es : List (List D)) (es' : List (List D)) (off : Nat) (len : Nat) : Option (List V × List Ob) :=
  bif (↑len : Int) == (0 : Int) then some ([V.one true (D.int IntKind.i64 (1 : Int))], [Ob.row false (1 : Nat) es, Ob.row false (1 : Nat) es']) else kp2.l5 n n off len (0 : Int) (↑(List.length es') : Int) (0 : Int) es es'
theorem kp2.run (n : Nat) (es : List (List D)) (es' : List (List D)) (off : Nat) (len : Nat) :
    (fun p : List V × List Ob => runB kp2.cfg n Try.f16 p.1 p.2) ([V.rs (0 : Nat) off len, V.rw (1 : Nat)], [Ob.row false (1 : Nat) es, Ob.row false (1 : Nat) es']) = kp2.res n es es' off len := by kernel_rfl
theorem kp2.ev {n : Nat} {es : List (List D)} {es' : List (List D)} {off : Nat} {len : Nat} {r : List V} {o : List Ob} (h : kp2.res n es es' off len = some (r, o)) : SndB Try.prog C0 16 [.rs 0 off len, .rw 1] [.row false 1 es, .row false 1 es'] r o :=
  sndB_ev (C := kp2.cfg) cfg0 mix rfl rfl rfl rfl rfl .nil (.cons kp1.ok .nil) Try.func16 (by kernel_rfl) (by kernel_rfl) rfl ((kp2.run n es es' off len).trans h)

theorem kp2.l5_run {n : Nat} {L : List Int} {off len : Nat} {x : Int} {xs c : List Int} (hs : (L.drop off).take len = x :: xs) (hq : lenQ 1 xs = true) (hx : xs.length ≤ 100) (hc : c.length ≤ LIM) (hL : L.length ≤ LIM) (hr : off + len ≤ L.length) : ∀ (d i m : Nat) (s : Int), i + d = c.length → d < m →
    kp2.l5 n m off len s c.length i (intC.encs L) (intC.encs c) = some ([V.one true (.int .i64 (keptOn x xs c s (List.range' i d)))], [Ob.row false 1 (intC.encs L), Ob.row false 1 (intC.encs c)]) := by
  obtain ⟨hlen, ⟨hoff, hx1⟩, hxs⟩ := split_ok hs
  have hx0 : D.int? .i64 (cellD (intC.encs L) (off + 0) 0) = some x := by rw [Nat.add_zero, intC_int' hoff, hx1]
  have hp : (0 : Int) < ((len : Nat) : Int) := by omega
  have hp1 : (1 : Int) ≤ ((len : Nat) : Int) := by omega
  have hd : intC.decs (List.take (len - 1) (List.drop (off + 1) (intC.encs L))) = some xs := by
    rw [Cod.encs_drop, Cod.encs_take, hxs, Cod.decs_encs (by unfold LIM; omega)]
  have hr2 : inRow (off + 1) (len - 1) L.length = true := by unfold inRow; rw [decide_eq_true_eq]; omega
  intro d
  induction d with
  | zero =>
    intro i m s hi hm
    obtain ⟨m, rfl⟩ : ∃ m', m = m' + 1 := ⟨m - 1, by omega⟩
    have h1 : ¬ (i : Int) < c.length := by omega
    rw [kp2.l5_eq]
    simp only [h1, decide_false, cond_false]
    rfl
  | succ d ih =>
    intro i m s hi hm
    obtain ⟨m, rfl⟩ : ∃ m', m = m' + 1 := ⟨m - 1, by omega⟩
    have hlt : i < c.length := by omega
    have hset : (c.set i (IntKind.wrap .i64 (c[i] - x))).length ≤ LIM := by rw [List.length_set]; exact hc
    rw [kp2.l5_eq, List.range'_succ, keptOn_cons, getD_of_lt hlt]
    simp only [Cod.encs_len, List.length_set, Int.ofNat_lt, hlt, hp, hp1, decide_true, cond_true, Int.natCast_nonneg, Int.toNat_natCast, Int.toNat_zero, show Int.toNat (1 : Int) = 1 from rfl, intC_int' hlt, hx0, Option.bind_some, intC_set, Cod.decs_encs hset, hd, hq, hr2, Cod.decs_encs hL, set_back hlt, wrap_succ (show i ≤ LIM by omega)]
    cases decide (c[i] ≥ x)
    · simp only [cond_false]; exact ih (i + 1) m s (by omega) (by omega)
    · simp only [cond_true]; exact ih (i + 1) m _ (by omega) (by omega)
def kp2.stub : StubB
  | [.rs 0 off len, .rw 1], [.row false 1 es, .row false 1 es'] => .any (intC.decs es) fun L => .gd (Sp.inRow off len es.length) (.any (intC.decs ((es.drop off).take len)) fun l => .any (intC.decs es') fun c => .gd (Sp.lenQ 2 l) (.ret ([.one true (.int .i64 (Sp.keptC l c))], [.row false 1 es, .row false 1 (intC.encs c)])))
  | _, _ => .fail
theorem kp2.ok : StubBOk Try.prog C0 16 kp2.stub := by
  intro args objs res objs' h
  unfold kp2.stub at h
  split at h
  · rename_i off len es es'
    obtain ⟨L, h1, h0⟩ := any_out h
    obtain ⟨rfl, hl⟩ := Cod.decs_inv h1
    obtain ⟨hir, h0⟩ := gd_out h0
    have hir : off + len ≤ (intC.encs L).length := of_decide_eq_true hir
    rw [Cod.encs_len] at hir
    obtain ⟨l, h1a, h0a⟩ := any_out h0
    obtain ⟨c, h1', h0'⟩ := any_out h0a
    obtain ⟨rfl, hl'⟩ := Cod.decs_inv h1'
    obtain ⟨h2, h3⟩ := gd_out h0'
    have h2 : l.length = 2 := of_decide_eq_true h2
    cases h3
    rw [Cod.encs_drop, Cod.encs_take, Cod.decs_encs (by rw [List.length_take, List.length_drop]; omega)] at h1a
    have h1a := Option.some.inj h1a
    refine kp2.ev (n := c.length + 1) ?_
    match l, h2, h1a with
    | x :: xs, h2, h1a =>
      have hq : xs.length = 1 := by simpa using h2
      have hlen := (split_ok h1a).1
      have hne : (((len : Nat) : Int) == 0) = false := by rw [ieq, decide_eq_false_iff_not]; omega
      have key := kp2.l5_run (n := c.length + 1) (c := c) h1a (by unfold lenQ; rw [decide_eq_true_eq]; exact hq) (by omega) hl' hl hir c.length 0 (c.length + 1) 0 (by omega) (by omega)
      unfold kp2.res
      rw [Cod.encs_len, hne, cond_false, keptC_cons]
      exact key
  · cases h
/-! kp3 -/
noncomputable def kp3.cfg : Cfg := { C0 with keep := fun | 5 => some [0, 1, 5, 11, 12, 13] | _ => none, nb := 2, M := tabM [], MM := tabB [(16, kp2.stub)] }
noncomputable def kp3.l5 (n : Nat) (m5 : Nat) (j0 : Nat) (j1 : Nat) (i2 : Int) (i3 : Int) (i4 : Int) (l5 : List (List D)) (l6 : List (List D)) : Option (List V × List Ob) :=
  loopAtB kp3.cfg n Try.f16 [1, 1, 1, 0, 1, 0] [] m5 (St.mk [V.rs (0 : Nat) j0 j1, V.rw (1 : Nat), V.undef, V.undef, V.undef, V.one true (D.int IntKind.i64 i2), V.undef, V.undef, V.undef, V.undef, V.undef, V.rw (1 : Nat), V.one true (D.int IntKind.i64 i3), V.one true (D.int IntKind.i64 i4), V.undef, V.undef, V.undef, V.undef, V.undef, V.undef, V.undef, V.undef, V.undef, V.undef, V.undef, V.undef, V.undef, V.undef, V.undef, V.undef, V.undef, V.undef, V.undef, V.undef, V.undef, V.undef, V.undef, V.undef, V.undef, V.undef, V.undef, V.undef, V.undef, V.undef] [Ob.row false (1 : Nat) l5, Ob.row false (1 : Nat) l6])
theorem kp3.l5_eq (n : Nat) (m5 : Nat) (j0 : Nat) (j1 : Nat) (i2 : Int) (i3 : Int) (i4 : Int) (l5 : List (List D)) (l6 : List (List D)) :
    kp3.l5 n (m5 + 1) j0 j1 i2 i3 i4 l5 l6 = bif decide (i4 < i3) then bif decide ((0 : Int) ≤ i4) then bif decide (i4 < (↑(List.length l6) : Int)) then Option.bind (Option.bind (some (cellD l6 (Int.toNat i4) (0 : Nat))) (D.int? IntKind.i64)) fun (i1 : Int) => bif decide ((0 : Int) < (↑j1 : Int)) then Option.bind (Option.bind (some (cellD l5 (j0 + Int.toNat (0 : Int)) (0 : Nat))) (D.int? IntKind.i64)) fun (i2_1 : Int) => bif decide (i1 ≥ i2_1) then bif decide ((0 : Int) ≤ i4) then bif decide (i4 < (↑(List.length l6) : Int)) then Option.bind (Option.bind (some (cellD l6 (Int.toNat i4) (0 : Nat))) (D.int? IntKind.i64)) fun (i3_1 : Int) => bif decide ((0 : Int) < (↑j1 : Int)) then Option.bind (Option.bind (some (cellD l5 (j0 + Int.toNat (0 : Int)) (0 : Nat))) (D.int? IntKind.i64)) fun (i4_1 : Int) => bif decide ((0 : Int) ≤ i4) then bif decide (i4 < (↑(List.length l6) : Int)) then bif decide ((1 : Int) ≤ (↑j1 : Int)) then Option.bind (Cod.decs intC l5) fun (l5_1 : List Int) => bif inRow (j0 + Int.toNat (1 : Int)) (j1 - Int.toNat (1 : Int)) (List.length l5) then Option.bind (Cod.decs intC (List.take (j1 - Int.toNat (1 : Int)) (List.drop (j0 + Int.toNat (1 : Int)) l5))) fun (l6_1 : List Int) => Option.bind (Cod.decs intC (setRow (1 : Nat) l6 (Int.toNat i4) (0 : Nat) [D.int IntKind.i64 (IntKind.wrap IntKind.i64 (i3_1 - i4_1))])) fun (l7 : List Int) => bif lenQ (2 : Nat) l6_1 then bif decide ((0 : Int) ≤ i4) then bif decide (i4 < (↑(List.length (Cod.encs intC l7)) : Int)) then kp3.l5 n m5 j0 j1 (IntKind.wrap IntKind.i64 (i2 + keptC l6_1 l7)) i3 (IntKind.wrap IntKind.i64 (i4 + (1 : Int))) l5 (setRow (1 : Nat) (Cod.encs intC l7) (Int.toNat i4) (0 : Nat) [D.int IntKind.i64 i1]) else none else none else none else none else none else none else none else none else none else none else kp3.l5 n m5 j0 j1 i2 i3 (IntKind.wrap IntKind.i64 (i4 + (1 : Int))) l5 l6 else none else none else none else some ([V.one true (D.int IntKind.i64 i2)], [Ob.row false (1 : Nat) l5, Ob.row false (1 : Nat) l6]) := by kernel_rfl
noncomputable def kp3.res (n : Nat) (es : List (List D)) (es' : List (List D)) (off : Nat) (len : Nat) : Option (List V × List Ob) :=
  bif (↑len : Int) == (0 : Int) then some ([V.one true (D.int IntKind.i64 (1 : Int))], [Ob.row false (1 : Nat) es, Ob.row false (1 : Nat) es']) else kp3.l5 n n off len (0 : Int) (↑(List.length es') : Int) (0 : Int) es es'
theorem kp3.run (n : Nat) (es : List (List D)) (es' : List (List D)) (off : Nat) (len : Nat) :
    (fun p : List V × List Ob => runB kp3.cfg n Try.f16 p.1 p.2) ([V.rs (0 : Nat) off len, V.rw (1 : Nat)], [Ob.row false (1 : Nat) es, Ob.row false (1 : Nat) es']) = kp3.res n es es' off len := by kernel_rfl
theorem kp3.ev {n : Nat} {es : List (List D)} {es' : List (List D)} {off : Nat} {len : Nat} {r : List V} {o : List Ob} (h : kp3.res n es es' off len = some (r, o)) : SndB Try.prog C0 16 [.rs 0 off len, .rw 1] [.row false 1 es, .row false 1 es'] r o :=
  sndB_ev (C := kp3.cfg) cfg0 mix rfl rfl rfl rfl rfl .nil (.cons kp2.ok .nil) Try.func16 (by kernel_rfl) (by kernel_rfl) rfl ((kp3.run n es es' off len).trans h)

theorem kp3.l5_run {n : Nat} {L : List Int} {off len : Nat} {x : Int} {xs c : List Int} (hs : (L.drop off).take len = x :: xs) (hq : lenQ 2 xs = true) (hx : xs.length ≤ 100) (hc : c.length ≤ LIM) (hL : L.length ≤ LIM) (hr : off + len ≤ L.length) : ∀ (d i m : Nat) (s : Int), i + d = c.length → d < m →
    kp3.l5 n m off len s c.length i (intC.encs L) (intC.encs c) = some ([V.one true (.int .i64 (keptOn x xs c s (List.range' i d)))], [Ob.row false 1 (intC.encs L), Ob.row false 1 (intC.encs c)]) := by
  obtain ⟨hlen, ⟨hoff, hx1⟩, hxs⟩ := split_ok hs
  have hx0 : D.int? .i64 (cellD (intC.encs L) (off + 0) 0) = some x := by rw [Nat.add_zero, intC_int' hoff, hx1]
  have hp : (0 : Int) < ((len : Nat) : Int) := by omega
  have hp1 : (1 : Int) ≤ ((len : Nat) : Int) := by omega
  have hd : intC.decs (List.take (len - 1) (List.drop (off + 1) (intC.encs L))) = some xs := by
    rw [Cod.encs_drop, Cod.encs_take, hxs, Cod.decs_encs (by unfold LIM; omega)]
  have hr2 : inRow (off + 1) (len - 1) L.length = true := by unfold inRow; rw [decide_eq_true_eq]; omega
  intro d
  induction d with
  | zero =>
    intro i m s hi hm
    obtain ⟨m, rfl⟩ : ∃ m', m = m' + 1 := ⟨m - 1, by omega⟩
    have h1 : ¬ (i : Int) < c.length := by omega
    rw [kp3.l5_eq]
    simp only [h1, decide_false, cond_false]
    rfl
  | succ d ih =>
    intro i m s hi hm
    obtain ⟨m, rfl⟩ : ∃ m', m = m' + 1 := ⟨m - 1, by omega⟩
    have hlt : i < c.length := by omega
    have hset : (c.set i (IntKind.wrap .i64 (c[i] - x))).length ≤ LIM := by rw [List.length_set]; exact hc
    rw [kp3.l5_eq, List.range'_succ, keptOn_cons, getD_of_lt hlt]
    simp only [Cod.encs_len, List.length_set, Int.ofNat_lt, hlt, hp, hp1, decide_true, cond_true, Int.natCast_nonneg, Int.toNat_natCast, Int.toNat_zero, show Int.toNat (1 : Int) = 1 from rfl, intC_int' hlt, hx0, Option.bind_some, intC_set, Cod.decs_encs hset, hd, hq, hr2, Cod.decs_encs hL, set_back hlt, wrap_succ (show i ≤ LIM by omega)]
    cases decide (c[i] ≥ x)
    · simp only [cond_false]; exact ih (i + 1) m s (by omega) (by omega)
    · simp only [cond_true]; exact ih (i + 1) m _ (by omega) (by omega)
def kp3.stub : StubB
  | [.rs 0 off len, .rw 1], [.row false 1 es, .row false 1 es'] => .any (intC.decs es) fun L => .gd (Sp.inRow off len es.length) (.any (intC.decs ((es.drop off).take len)) fun l => .any (intC.decs es') fun c => .gd (Sp.lenQ 3 l) (.ret ([.one true (.int .i64 (Sp.keptC l c))], [.row false 1 es, .row false 1 (intC.encs c)])))
  | _, _ => .fail
theorem kp3.ok : StubBOk Try.prog C0 16 kp3.stub := by
  intro args objs res objs' h
  unfold kp3.stub at h
  split at h
  · rename_i off len es es'
    obtain ⟨L, h1, h0⟩ := any_out h
    obtain ⟨rfl, hl⟩ := Cod.decs_inv h1
    obtain ⟨hir, h0⟩ := gd_out h0
    have hir : off + len ≤ (intC.encs L).length := of_decide_eq_true hir
    rw [Cod.encs_len] at hir
    obtain ⟨l, h1a, h0a⟩ := any_out h0
    obtain ⟨c, h1', h0'⟩ := any_out h0a
    obtain ⟨rfl, hl'⟩ := Cod.decs_inv h1'
    obtain ⟨h2, h3⟩ := gd_out h0'
    have h2 : l.length = 3 := of_decide_eq_true h2
    cases h3
    rw [Cod.encs_drop, Cod.encs_take, Cod.decs_encs (by rw [List.length_take, List.length_drop]; omega)] at h1a
    have h1a := Option.some.inj h1a
    refine kp3.ev (n := c.length + 1) ?_
    match l, h2, h1a with
    | x :: xs, h2, h1a =>
      have hq : xs.length = 2 := by simpa using h2
      have hlen := (split_ok h1a).1
      have hne : (((len : Nat) : Int) == 0) = false := by rw [ieq, decide_eq_false_iff_not]; omega
      have key := kp3.l5_run (n := c.length + 1) (c := c) h1a (by unfold lenQ; rw [decide_eq_true_eq]; exact hq) (by omega) hl' hl hir c.length 0 (c.length + 1) 0 (by omega) (by omega)
      unfold kp3.res
      rw [Cod.encs_len, hne, cond_false, keptC_cons]
      exact key
  · cases h
/-! kp4 -/
noncomputable def kp4.cfg : Cfg := { C0 with keep := fun | 5 => some [0, 1, 5, 11, 12, 13] | _ => none, nb := 2, M := tabM [], MM := tabB [(16, kp3.stub)] }
noncomputable def kp4.l5 (n : Nat) (m5 : Nat) (j0 : Nat) (j1 : Nat) (i2 : Int) (i3 : Int) (i4 : Int) (l5 : List (List D)) (l6 : List (List D)) : Option (List V × List Ob) :=
  loopAtB kp4.cfg n Try.f16 [1, 1, 1, 0, 1, 0] [] m5 (St.mk [V.rs (0 : Nat) j0 j1, V.rw (1 : Nat), V.undef, V.undef, V.undef, V.one true (D.int IntKind.i64 i2), V.undef, V.undef, V.undef, V.undef, V.undef, V.rw (1 : Nat), V.one true (D.int IntKind.i64 i3), V.one true (D.int IntKind.i64 i4), V.undef, V.undef, V.undef, V.undef, V.undef, V.undef, V.undef, V.undef, V.undef, V.undef, V.undef, V.undef, V.undef, V.undef, V.undef, V.undef, V.undef, V.undef, V.undef, V.undef, V.undef, V.undef, V.undef, V.undef, V.undef, V.undef, V.undef, V.undef, V.undef, V.undef] [Ob.row false (1 : Nat) l5, Ob.row false (1 : Nat) l6])
theorem kp4.l5_eq (n : Nat) (m5 : Nat) (j0 : Nat) (j1 : Nat) (i2 : Int) (i3 : Int) (i4 : Int) (l5 : List (List D)) (l6 : List (List D)) :
    kp4.l5 n (m5 + 1) j0 j1 i2 i3 i4 l5 l6 = bif decide (i4 < i3) then bif decide ((0 : Int) ≤ i4) then bif decide (i4 < (↑(List.length l6) : Int)) then Option.bind (Option.bind (some (cellD l6 (Int.toNat i4) (0 : Nat))) (D.int? IntKind.i64)) fun (i1 : Int) => bif decide ((0 : Int) < (↑j1 : Int)) then Option.bind (Option.bind (some (cellD l5 (j0 + Int.toNat (0 : Int)) (0 : Nat))) (D.int? IntKind.i64)) fun (i2_1 : Int) => bif decide (i1 ≥ i2_1) then bif decide ((0 : Int) ≤ i4) then bif decide (i4 < (↑(List.length l6) : Int)) then Option.bind (Option.bind (some (cellD l6 (Int.toNat i4) (0 : Nat))) (D.int? IntKind.i64)) fun (i3_1 : Int) => bif decide ((0 : Int) < (↑j1 : Int)) then Option.bind (Option.bind (some (cellD l5 (j0 + Int.toNat (0 : Int)) (0 : Nat))) (D.int? IntKind.i64)) fun (i4_1 : Int) => bif decide ((0 : Int) ≤ i4) then bif decide (i4 < (↑(List.length l6) : Int)) then bif decide ((1 : Int) ≤ (↑j1 : Int)) then Option.bind (Cod.decs intC l5) fun (l5_1 : List Int) => bif inRow (j0 + Int.toNat (1 : Int)) (j1 - Int.toNat (1 : Int)) (List.length l5) then Option.bind (Cod.decs intC (List.take (j1 - Int.toNat (1 : Int)) (List.drop (j0 + Int.toNat (1 : Int)) l5))) fun (l6_1 : List Int) => Option.bind (Cod.decs intC (setRow (1 : Nat) l6 (Int.toNat i4) (0 : Nat) [D.int IntKind.i64 (IntKind.wrap IntKind.i64 (i3_1 - i4_1))])) fun (l7 : List Int) => bif lenQ (3 : Nat) l6_1 then bif decide ((0 : Int) ≤ i4) then bif decide (i4 < (↑(List.length (Cod.encs intC l7)) : Int)) then kp4.l5 n m5 j0 j1 (IntKind.wrap IntKind.i64 (i2 + keptC l6_1 l7)) i3 (IntKind.wrap IntKind.i64 (i4 + (1 : Int))) l5 (setRow (1 : Nat) (Cod.encs intC l7) (Int.toNat i4) (0 : Nat) [D.int IntKind.i64 i1]) else none else none else none else none else none else none else none else none else none else none else kp4.l5 n m5 j0 j1 i2 i3 (IntKind.wrap IntKind.i64 (i4 + (1 : Int))) l5 l6 else none else none else none else some ([V.one true (D.int IntKind.i64 i2)], [Ob.row false (1 : Nat) l5, Ob.row false (1 : Nat) l6]) := by kernel_rfl
noncomputable def kp4.res (n : Nat) (es : List (List D)) (es' : List (List D)) (off : Nat) (len : Nat) : Option (List V × List Ob) :=
  bif (↑len : Int) == (0 : Int) then some ([V.one true (D.int IntKind.i64 (1 : Int))], [Ob.row false (1 : Nat) es, Ob.row false (1 : Nat) es']) else kp4.l5 n n off len (0 : Int) (↑(List.length es') : Int) (0 : Int) es es'
theorem kp4.run (n : Nat) (es : List (List D)) (es' : List (List D)) (off : Nat) (len : Nat) :
    (fun p : List V × List Ob => runB kp4.cfg n Try.f16 p.1 p.2) ([V.rs (0 : Nat) off len, V.rw (1 : Nat)], [Ob.row false (1 : Nat) es, Ob.row false (1 : Nat) es']) = kp4.res n es es' off len := by kernel_rfl
theorem kp4.ev {n : Nat} {es : List (List D)} {es' : List (List D)} {off : Nat} {len : Nat} {r : List V} {o : List Ob} (h : kp4.res n es es' off len = some (r, o)) : SndB Try.prog C0 16 [.rs 0 off len, .rw 1] [.row false 1 es, .row false 1 es'] r o :=
  sndB_ev (C := kp4.cfg) cfg0 mix rfl rfl rfl rfl rfl .nil (.cons kp3.ok .nil) Try.func16 (by kernel_rfl) (by kernel_rfl) rfl ((kp4.run n es es' off len).trans h)

theorem kp4.l5_run {n : Nat} {L : List Int} {off len : Nat} {x : Int} {xs c : List Int} (hs : (L.drop off).take len = x :: xs) (hq : lenQ 3 xs = true) (hx : xs.length ≤ 100) (hc : c.length ≤ LIM) (hL : L.length ≤ LIM) (hr : off + len ≤ L.length) : ∀ (d i m : Nat) (s : Int), i + d = c.length → d < m →
    kp4.l5 n m off len s c.length i (intC.encs L) (intC.encs c) = some ([V.one true (.int .i64 (keptOn x xs c s (List.range' i d)))], [Ob.row false 1 (intC.encs L), Ob.row false 1 (intC.encs c)]) := by
  obtain ⟨hlen, ⟨hoff, hx1⟩, hxs⟩ := split_ok hs
  have hx0 : D.int? .i64 (cellD (intC.encs L) (off + 0) 0) = some x := by rw [Nat.add_zero, intC_int' hoff, hx1]
  have hp : (0 : Int) < ((len : Nat) : Int) := by omega
  have hp1 : (1 : Int) ≤ ((len : Nat) : Int) := by omega
  have hd : intC.decs (List.take (len - 1) (List.drop (off + 1) (intC.encs L))) = some xs := by
    rw [Cod.encs_drop, Cod.encs_take, hxs, Cod.decs_encs (by unfold LIM; omega)]
  have hr2 : inRow (off + 1) (len - 1) L.length = true := by unfold inRow; rw [decide_eq_true_eq]; omega
  intro d
  induction d with
  | zero =>
    intro i m s hi hm
    obtain ⟨m, rfl⟩ : ∃ m', m = m' + 1 := ⟨m - 1, by omega⟩
    have h1 : ¬ (i : Int) < c.length := by omega
    rw [kp4.l5_eq]
    simp only [h1, decide_false, cond_false]
    rfl
  | succ d ih =>
    intro i m s hi hm
    obtain ⟨m, rfl⟩ : ∃ m', m = m' + 1 := ⟨m - 1, by omega⟩
    have hlt : i < c.length := by omega
    have hset : (c.set i (IntKind.wrap .i64 (c[i] - x))).length ≤ LIM := by rw [List.length_set]; exact hc
    rw [kp4.l5_eq, List.range'_succ, keptOn_cons, getD_of_lt hlt]
    simp only [Cod.encs_len, List.length_set, Int.ofNat_lt, hlt, hp, hp1, decide_true, cond_true, Int.natCast_nonneg, Int.toNat_natCast, Int.toNat_zero, show Int.toNat (1 : Int) = 1 from rfl, intC_int' hlt, hx0, Option.bind_some, intC_set, Cod.decs_encs hset, hd, hq, hr2, Cod.decs_encs hL, set_back hlt, wrap_succ (show i ≤ LIM by omega)]
    cases decide (c[i] ≥ x)
    · simp only [cond_false]; exact ih (i + 1) m s (by omega) (by omega)
    · simp only [cond_true]; exact ih (i + 1) m _ (by omega) (by omega)
def kp4.stub : StubB
  | [.rs 0 off len, .rw 1], [.row false 1 es, .row false 1 es'] => .any (intC.decs es) fun L => .gd (Sp.inRow off len es.length) (.any (intC.decs ((es.drop off).take len)) fun l => .any (intC.decs es') fun c => .gd (Sp.lenQ 4 l) (.ret ([.one true (.int .i64 (Sp.keptC l c))], [.row false 1 es, .row false 1 (intC.encs c)])))
  | _, _ => .fail
theorem kp4.ok : StubBOk Try.prog C0 16 kp4.stub := by
  intro args objs res objs' h
  unfold kp4.stub at h
  split at h
  · rename_i off len es es'
    obtain ⟨L, h1, h0⟩ := any_out h
    obtain ⟨rfl, hl⟩ := Cod.decs_inv h1
    obtain ⟨hir, h0⟩ := gd_out h0
    have hir : off + len ≤ (intC.encs L).length := of_decide_eq_true hir
    rw [Cod.encs_len] at hir
    obtain ⟨l, h1a, h0a⟩ := any_out h0
    obtain ⟨c, h1', h0'⟩ := any_out h0a
    obtain ⟨rfl, hl'⟩ := Cod.decs_inv h1'
    obtain ⟨h2, h3⟩ := gd_out h0'
    have h2 : l.length = 4 := of_decide_eq_true h2
    cases h3
    rw [Cod.encs_drop, Cod.encs_take, Cod.decs_encs (by rw [List.length_take, List.length_drop]; omega)] at h1a
    have h1a := Option.some.inj h1a
    refine kp4.ev (n := c.length + 1) ?_
    match l, h2, h1a with
    | x :: xs, h2, h1a =>
      have hq : xs.length = 3 := by simpa using h2
      have hlen := (split_ok h1a).1
      have hne : (((len : Nat) : Int) == 0) = false := by rw [ieq, decide_eq_false_iff_not]; omega
      have key := kp4.l5_run (n := c.length + 1) (c := c) h1a (by unfold lenQ; rw [decide_eq_true_eq]; exact hq) (by omega) hl' hl hir c.length 0 (c.length + 1) 0 (by omega) (by omega)
      unfold kp4.res
      rw [Cod.encs_len, hne, cond_false, keptC_cons]
      exact key
  · cases h
/-! kp5 -/
noncomputable def kp5.cfg : Cfg := { C0 with keep := fun | 5 => some [0, 1, 5, 11, 12, 13] | _ => none, nb := 2, M := tabM [], MM := tabB [(16, kp4.stub)] }
noncomputable def kp5.l5 (n : Nat) (m5 : Nat) (j0 : Nat) (j1 : Nat) (i2 : Int) (i3 : Int) (i4 : Int) (l5 : List (List D)) (l6 : List (List D)) : Option (List V × List Ob) :=
  loopAtB kp5.cfg n Try.f16 [1, 1, 1, 0, 1, 0] [] m5 (St.mk [V.rs (0 : Nat) j0 j1, V.rw (1 : Nat), V.undef, V.undef, V.undef, V.one true (D.int IntKind.i64 i2), V.undef, V.undef, V.undef, V.undef, V.undef, V.rw (1 : Nat), V.one true (D.int IntKind.i64 i3), V.one true (D.int IntKind.i64 i4), V.undef, V.undef, V.undef, V.undef, V.undef, V.undef, V.undef, V.undef, V.undef, V.undef, V.undef, V.undef, V.undef, V.undef, V.undef, V.undef, V.undef, V.undef, V.undef, V.undef, V.undef, V.undef, V.undef, V.undef, V.undef, V.undef, V.undef, V.undef, V.undef, V.undef] [Ob.row false (1 : Nat) l5, Ob.row false (1 : Nat) l6])
theorem kp5.l5_eq (n : Nat) (m5 : Nat) (j0 : Nat) (j1 : Nat) (i2 : Int) (i3 : Int) (i4 : Int) (l5 : List (List D)) (l6 : List (List D)) :
    kp5.l5 n (m5 + 1) j0 j1 i2 i3 i4 l5 l6 = bif decide (i4 < i3) then bif decide ((0 : Int) ≤ i4) then bif decide (i4 < (↑(List.length l6) : Int)) then Option.bind (Option.bind (some (cellD l6 (Int.toNat i4) (0 : Nat))) (D.int? IntKind.i64)) fun (i1 : Int) => bif decide ((0 : Int) < (↑j1 : Int)) then Option.bind (Option.bind (some (cellD l5 (j0 + Int.toNat (0 : Int)) (0 : Nat))) (D.int? IntKind.i64)) fun (i2_1 : Int) => bif decide (i1 ≥ i2_1) then bif decide ((0 : Int) ≤ i4) then bif decide (i4 < (↑(List.length l6) : Int)) then Option.bind (Option.bind (some (cellD l6 (Int.toNat i4) (0 : Nat))) (D.int? IntKind.i64)) fun (i3_1 : Int) => bif decide ((0 : Int) < (↑j1 : Int)) then Option.bind (Option.bind (some (cellD l5 (j0 + Int.toNat (0 : Int)) (0 : Nat))) (D.int? IntKind.i64)) fun (i4_1 : Int) => bif decide ((0 : Int) ≤ i4) then bif decide (i4 < (↑(List.length l6) : Int)) then bif decide ((1 : Int) ≤ (↑j1 : Int)) then Option.bind (Cod.decs intC l5) fun (l5_1 : List Int) => bif inRow (j0 + Int.toNat (1 : Int)) (j1 - Int.toNat (1 : Int)) (List.length l5) then Option.bind (Cod.decs intC (List.take (j1 - Int.toNat (1 : Int)) (List.drop (j0 + Int.toNat (1 : Int)) l5))) fun (l6_1 : List Int) => Option.bind (Cod.decs intC (setRow (1 : Nat) l6 (Int.toNat i4) (0 : Nat) [D.int IntKind.i64 (IntKind.wrap IntKind.i64 (i3_1 - i4_1))])) fun (l7 : List Int) => bif lenQ (4 : Nat) l6_1 then bif decide ((0 : Int) ≤ i4) then bif decide (i4 < (↑(List.length (Cod.encs intC l7)) : Int)) then kp5.l5 n m5 j0 j1 (IntKind.wrap IntKind.i64 (i2 + keptC l6_1 l7)) i3 (IntKind.wrap IntKind.i64 (i4 + (1 : Int))) l5 (setRow (1 : Nat) (Cod.encs intC l7) (Int.toNat i4) (0 : Nat) [D.int IntKind.i64 i1]) else none else none else none else none else none else none else none else none else none else none else kp5.l5 n m5 j0 j1 i2 i3 (IntKind.wrap IntKind.i64 (i4 + (1 : Int))) l5 l6 else none else none else none else some ([V.one true (D.int IntKind.i64 i2)], [Ob.row false (1 : Nat) l5, Ob.row false (1 : Nat) l6]) := by kernel_rfl
noncomputable def kp5.res (n : Nat) (es : List (List D)) (es' : List (List D)) (off : Nat) (len : Nat) : Option (List V × List Ob) :=
  bif (↑len : Int) == (0 : Int) then some ([V.one true (D.int IntKind.i64 (1 : Int))], [Ob.row false (1 : Nat) es, Ob.row false (1 : Nat) es']) else kp5.l5 n n off len (0 : Int) (↑(List.length es') : Int) (0 : Int) es es'
theorem kp5.run (n : Nat) (es : List (List D)) (es' : List (List D)) (off : Nat) (len : Nat) :
    (fun p : List V × List Ob => runB kp5.cfg n Try.f16 p.1 p.2) ([V.rs (0 : Nat) off len, V.rw (1 : Nat)], [Ob.row false (1 : Nat) es, Ob.row false (1 : Nat) es']) = kp5.res n es es' off len := by kernel_rfl
theorem kp5.ev {n : Nat} {es : List (List D)} {es' : List (List D)} {off : Nat} {len : Nat} {r : List V} {o : List Ob} (h : kp5.res n es es' off len = some (r, o)) : SndB Try.prog C0 16 [.rs 0 off len, .rw 1] [.row false 1 es, .row false 1 es'] r o :=
  sndB_ev (C := kp5.cfg) cfg0 mix rfl rfl rfl rfl rfl .nil (.cons kp4.ok .nil) Try.func16 (by kernel_rfl) (by kernel_rfl) rfl ((kp5.run n es es' off len).trans h)

theorem kp5.l5_run {n : Nat} {L : List Int} {off len : Nat} {x : Int} {xs c : List Int} (hs : (L.drop off).take len = x :: xs) (hq : lenQ 4 xs = true) (hx : xs.length ≤ 100) (hc : c.length ≤ LIM) (hL : L.length ≤ LIM) (hr : off + len ≤ L.length) : ∀ (d i m : Nat) (s : Int), i + d = c.length → d < m →
    kp5.l5 n m off len s c.length i (intC.encs L) (intC.encs c) = some ([V.one true (.int .i64 (keptOn x xs c s (List.range' i d)))], [Ob.row false 1 (intC.encs L), Ob.row false 1 (intC.encs c)]) := by
  obtain ⟨hlen, ⟨hoff, hx1⟩, hxs⟩ := split_ok hs
  have hx0 : D.int? .i64 (cellD (intC.encs L) (off + 0) 0) = some x := by rw [Nat.add_zero, intC_int' hoff, hx1]
  have hp : (0 : Int) < ((len : Nat) : Int) := by omega
  have hp1 : (1 : Int) ≤ ((len : Nat) : Int) := by omega
  have hd : intC.decs (List.take (len - 1) (List.drop (off + 1) (intC.encs L))) = some xs := by
    rw [Cod.encs_drop, Cod.encs_take, hxs, Cod.decs_encs (by unfold LIM; omega)]
  have hr2 : inRow (off + 1) (len - 1) L.length = true := by unfold inRow; rw [decide_eq_true_eq]; omega
  intro d
  induction d with
  | zero =>
    intro i m s hi hm
    obtain ⟨m, rfl⟩ : ∃ m', m = m' + 1 := ⟨m - 1, by omega⟩
    have h1 : ¬ (i : Int) < c.length := by omega
    rw [kp5.l5_eq]
    simp only [h1, decide_false, cond_false]
    rfl
  | succ d ih =>
    intro i m s hi hm
    obtain ⟨m, rfl⟩ : ∃ m', m = m' + 1 := ⟨m - 1, by omega⟩
    have hlt : i < c.length := by omega
    have hset : (c.set i (IntKind.wrap .i64 (c[i] - x))).length ≤ LIM := by rw [List.length_set]; exact hc
    rw [kp5.l5_eq, List.range'_succ, keptOn_cons, getD_of_lt hlt]
    simp only [Cod.encs_len, List.length_set, Int.ofNat_lt, hlt, hp, hp1, decide_true, cond_true, Int.natCast_nonneg, Int.toNat_natCast, Int.toNat_zero, show Int.toNat (1 : Int) = 1 from rfl, intC_int' hlt, hx0, Option.bind_some, intC_set, Cod.decs_encs hset, hd, hq, hr2, Cod.decs_encs hL, set_back hlt, wrap_succ (show i ≤ LIM by omega)]
    cases decide (c[i] ≥ x)
    · simp only [cond_false]; exact ih (i + 1) m s (by omega) (by omega)
    · simp only [cond_true]; exact ih (i + 1) m _ (by omega) (by omega)
def kp5.stub : StubB
  | [.rs 0 off len, .rw 1], [.row false 1 es, .row false 1 es'] => .any (intC.decs es) fun L => .gd (Sp.inRow off len es.length) (.any (intC.decs ((es.drop off).take len)) fun l => .any (intC.decs es') fun c => .gd (Sp.lenQ 5 l) (.ret ([.one true (.int .i64 (Sp.keptC l c))], [.row false 1 es, .row false 1 (intC.encs c)])))
  | _, _ => .fail
theorem kp5.ok : StubBOk Try.prog C0 16 kp5.stub := by
  intro args objs res objs' h
  unfold kp5.stub at h
  split at h
  · rename_i off len es es'
    obtain ⟨L, h1, h0⟩ := any_out h
    obtain ⟨rfl, hl⟩ := Cod.decs_inv h1
    obtain ⟨hir, h0⟩ := gd_out h0
    have hir : off + len ≤ (intC.encs L).length := of_decide_eq_true hir
    rw [Cod.encs_len] at hir
    obtain ⟨l, h1a, h0a⟩ := any_out h0
    obtain ⟨c, h1', h0'⟩ := any_out h0a
    obtain ⟨rfl, hl'⟩ := Cod.decs_inv h1'
    obtain ⟨h2, h3⟩ := gd_out h0'
    have h2 : l.length = 5 := of_decide_eq_true h2
    cases h3
    rw [Cod.encs_drop, Cod.encs_take, Cod.decs_encs (by rw [List.length_take, List.length_drop]; omega)] at h1a
    have h1a := Option.some.inj h1a
    refine kp5.ev (n := c.length + 1) ?_
    match l, h2, h1a with
    | x :: xs, h2, h1a =>
      have hq : xs.length = 4 := by simpa using h2
      have hlen := (split_ok h1a).1
      have hne : (((len : Nat) : Int) == 0) = false := by rw [ieq, decide_eq_false_iff_not]; omega
      have key := kp5.l5_run (n := c.length + 1) (c := c) h1a (by unfold lenQ; rw [decide_eq_true_eq]; exact hq) (by omega) hl' hl hir c.length 0 (c.length + 1) 0 (by omega) (by omega)
      unfold kp5.res
      rw [Cod.encs_len, hne, cond_false, keptC_cons]
      exact key
  · cases h
def kpA.stub : StubB
  | [.rs 0 off len, .rw 1], [.row false 1 es, .row false 1 es'] => .any (intC.decs es) fun L => .gd (Sp.inRow off len es.length) (.any (intC.decs ((es.drop off).take len)) fun l => .any (intC.decs es') fun c => .gd (Sp.len5 l) (.ret ([.one true (.int .i64 (Sp.keptC l c))], [.row false 1 es, .row false 1 (intC.encs c)])))
  | _, _ => .fail
theorem kpA.ok : StubBOk Try.prog C0 16 kpA.stub := by
  intro args objs res objs' h
  unfold kpA.stub at h
  split at h
  · rename_i off len es es'
    obtain ⟨L, h1, h0⟩ := any_out h
    obtain ⟨hir, h0⟩ := gd_out h0
    obtain ⟨l, h1a, h0a⟩ := any_out h0
    obtain ⟨c, h1', h0'⟩ := any_out h0a
    obtain ⟨h2, h3⟩ := gd_out h0'
    have h2 : l.length ≤ 5 := of_decide_eq_true h2
    have hl : ∀ q, l.length = q → lenQ q l = true := fun q hq => by unfold lenQ; rw [decide_eq_true_eq]; exact hq
    rcases (show l.length = 0 ∨ l.length = 1 ∨ l.length = 2 ∨ l.length = 3 ∨ l.length = 4 ∨ l.length = 5 by omega) with e | e | e | e | e | e
    · refine kp0.ok _ _ _ _ ?_; simp only [kp0.stub, HM.out, h1, hir, h1a, h1', Option.bind_some, cond_true]; rw [hl 0 e, cond_true]; exact h3
    · refine kp1.ok _ _ _ _ ?_; simp only [kp1.stub, HM.out, h1, hir, h1a, h1', Option.bind_some, cond_true]; rw [hl 1 e, cond_true]; exact h3
    · refine kp2.ok _ _ _ _ ?_; simp only [kp2.stub, HM.out, h1, hir, h1a, h1', Option.bind_some, cond_true]; rw [hl 2 e, cond_true]; exact h3
    · refine kp3.ok _ _ _ _ ?_; simp only [kp3.stub, HM.out, h1, hir, h1a, h1', Option.bind_some, cond_true]; rw [hl 3 e, cond_true]; exact h3
    · refine kp4.ok _ _ _ _ ?_; simp only [kp4.stub, HM.out, h1, hir, h1a, h1', Option.bind_some, cond_true]; rw [hl 4 e, cond_true]; exact h3
    · refine kp5.ok _ _ _ _ ?_; simp only [kp5.stub, HM.out, h1, hir, h1a, h1', Option.bind_some, cond_true]; rw [hl 5 e, cond_true]; exact h3
  · cases h
/-! kpw -/
noncomputable def kpw.cfg : Cfg := { C0 with keep := fun | 5 => some [0, 1, 5, 11, 12, 13] | _ => none, nb := 2, M := tabM [], MM := tabB [(16, kpA.stub)] }
noncomputable def kpw.l5 (n : Nat) (m5 : Nat) (i0 : Int) (i1 : Int) (i2 : Int) (l3 : List (List D)) (l4 : List (List D)) : Option (List V × List Ob) :=
  loopAtB kpw.cfg n Try.f16 [1, 1, 1, 0, 1, 0] [] m5 (St.mk [V.rw (0 : Nat), V.rw (1 : Nat), V.undef, V.undef, V.undef, V.one true (D.int IntKind.i64 i0), V.undef, V.undef, V.undef, V.undef, V.undef, V.rw (1 : Nat), V.one true (D.int IntKind.i64 i1), V.one true (D.int IntKind.i64 i2), V.undef, V.undef, V.undef, V.undef, V.undef, V.undef, V.undef, V.undef, V.undef, V.undef, V.undef, V.undef, V.undef, V.undef, V.undef, V.undef, V.undef, V.undef, V.undef, V.undef, V.undef, V.undef, V.undef, V.undef, V.undef, V.undef, V.undef, V.undef, V.undef, V.undef] [Ob.row false (1 : Nat) l3, Ob.row false (1 : Nat) l4])
theorem kpw.l5_eq (n : Nat) (m5 : Nat) (i0 : Int) (i1 : Int) (i2 : Int) (l3 : List (List D)) (l4 : List (List D)) :
    kpw.l5 n (m5 + 1) i0 i1 i2 l3 l4 = bif decide (i2 < i1) then bif decide ((0 : Int) ≤ i2) then bif decide (i2 < (↑(List.length l4) : Int)) then Option.bind (Option.bind (some (cellD l4 (Int.toNat i2) (0 : Nat))) (D.int? IntKind.i64)) fun (i1_1 : Int) => bif decide ((0 : Int) < (↑(List.length l3) : Int)) then Option.bind (Option.bind (some (cellD l3 (Int.toNat (0 : Int)) (0 : Nat))) (D.int? IntKind.i64)) fun (i2_1 : Int) => bif decide (i1_1 ≥ i2_1) then bif decide ((0 : Int) ≤ i2) then bif decide (i2 < (↑(List.length l4) : Int)) then Option.bind (Option.bind (some (cellD l4 (Int.toNat i2) (0 : Nat))) (D.int? IntKind.i64)) fun (i3 : Int) => bif decide ((0 : Int) < (↑(List.length l3) : Int)) then Option.bind (Option.bind (some (cellD l3 (Int.toNat (0 : Int)) (0 : Nat))) (D.int? IntKind.i64)) fun (i4 : Int) => bif decide ((0 : Int) ≤ i2) then bif decide (i2 < (↑(List.length l4) : Int)) then bif decide ((1 : Int) ≤ (↑(List.length l3) : Int)) then Option.bind (Cod.decs intC l3) fun (l5 : List Int) => bif inRow (Int.toNat (1 : Int)) (List.length l3 - Int.toNat (1 : Int)) (List.length l3) then Option.bind (Cod.decs intC (List.take (List.length l3 - Int.toNat (1 : Int)) (List.drop (Int.toNat (1 : Int)) l3))) fun (l6 : List Int) => Option.bind (Cod.decs intC (setRow (1 : Nat) l4 (Int.toNat i2) (0 : Nat) [D.int IntKind.i64 (IntKind.wrap IntKind.i64 (i3 - i4))])) fun (l7 : List Int) => bif len5 l6 then bif decide ((0 : Int) ≤ i2) then bif decide (i2 < (↑(List.length (Cod.encs intC l7)) : Int)) then kpw.l5 n m5 (IntKind.wrap IntKind.i64 (i0 + keptC l6 l7)) i1 (IntKind.wrap IntKind.i64 (i2 + (1 : Int))) l3 (setRow (1 : Nat) (Cod.encs intC l7) (Int.toNat i2) (0 : Nat) [D.int IntKind.i64 i1_1]) else none else none else none else none else none else none else none else none else none else none else kpw.l5 n m5 i0 i1 (IntKind.wrap IntKind.i64 (i2 + (1 : Int))) l3 l4 else none else none else none else some ([V.one true (D.int IntKind.i64 i0)], [Ob.row false (1 : Nat) l3, Ob.row false (1 : Nat) l4]) := by kernel_rfl
noncomputable def kpw.res (n : Nat) (es : List (List D)) (es' : List (List D)) : Option (List V × List Ob) :=
  bif (↑(List.length es) : Int) == (0 : Int) then some ([V.one true (D.int IntKind.i64 (1 : Int))], [Ob.row false (1 : Nat) es, Ob.row false (1 : Nat) es']) else kpw.l5 n n (0 : Int) (↑(List.length es') : Int) (0 : Int) es es'
theorem kpw.run (n : Nat) (es : List (List D)) (es' : List (List D)) :
    (fun p : List V × List Ob => runB kpw.cfg n Try.f16 p.1 p.2) ([V.rw (0 : Nat), V.rw (1 : Nat)], [Ob.row false (1 : Nat) es, Ob.row false (1 : Nat) es']) = kpw.res n es es' := by kernel_rfl
theorem kpw.ev {n : Nat} {es : List (List D)} {es' : List (List D)} {r : List V} {o : List Ob} (h : kpw.res n es es' = some (r, o)) : SndB Try.prog C0 16 [.rw 0, .rw 1] [.row false 1 es, .row false 1 es'] r o :=
  sndB_ev (C := kpw.cfg) cfg0 mix rfl rfl rfl rfl rfl .nil (.cons kpA.ok .nil) Try.func16 (by kernel_rfl) (by kernel_rfl) rfl ((kpw.run n es es').trans h)

theorem kpw.l5_run {n : Nat} {x : Int} {xs c : List Int} (hq : len5 xs = true) (hx : (x :: xs).length ≤ LIM) (hc : c.length ≤ LIM) : ∀ (d i m : Nat) (s : Int), i + d = c.length → d < m →
    kpw.l5 n m s c.length i (intC.encs (x :: xs)) (intC.encs c) = some ([V.one true (.int .i64 (keptOn x xs c s (List.range' i d)))], [Ob.row false 1 (intC.encs (x :: xs)), Ob.row false 1 (intC.encs c)]) := by
  have h0 : 0 < (x :: xs).length := by simp
  have hx0 : D.int? .i64 (cellD (intC.encs (x :: xs)) 0 0) = some x := intC_int' h0
  have hp : (0 : Int) < (((x :: xs).length : Nat) : Int) := by omega
  have hp1 : (1 : Int) ≤ (((x :: xs).length : Nat) : Int) := by omega
  have hd : intC.decs (List.take ((x :: xs).length - 1) (List.drop 1 (intC.encs (x :: xs)))) = some xs := by
    rw [Cod.encs_drop, Cod.encs_take, List.drop_succ_cons, List.drop_zero, List.take_of_length_le (by simp), Cod.decs_encs (by rw [List.length_cons] at hx; omega)]
  have hr2 : inRow 1 ((x :: xs).length - 1) (x :: xs).length = true := by unfold inRow; rw [decide_eq_true_eq]; omega
  intro d
  induction d with
  | zero =>
    intro i m s hi hm
    obtain ⟨m, rfl⟩ : ∃ m', m = m' + 1 := ⟨m - 1, by omega⟩
    have h1 : ¬ (i : Int) < c.length := by omega
    rw [kpw.l5_eq]
    simp only [h1, decide_false, cond_false]
    rfl
  | succ d ih =>
    intro i m s hi hm
    obtain ⟨m, rfl⟩ : ∃ m', m = m' + 1 := ⟨m - 1, by omega⟩
    have hlt : i < c.length := by omega
    have hset : (c.set i (IntKind.wrap .i64 (c[i] - x))).length ≤ LIM := by rw [List.length_set]; exact hc
    rw [kpw.l5_eq, List.range'_succ, keptOn_cons, getD_of_lt hlt]
    simp only [Cod.encs_len, List.length_set, Int.ofNat_lt, hlt, hp, hp1, decide_true, cond_true, Int.natCast_nonneg, Int.toNat_natCast, Int.toNat_zero, show Int.toNat (1 : Int) = 1 from rfl, intC_int' hlt, hx0, Option.bind_some, intC_set, Cod.decs_encs hset, hd, hq, hr2, Cod.decs_encs hx, set_back hlt, wrap_succ (show i ≤ LIM by omega)]
    cases decide (c[i] ≥ x)
    · simp only [cond_false]; exact ih (i + 1) m s (by omega) (by omega)
    · simp only [cond_true]; exact ih (i + 1) m _ (by omega) (by omega)
def kpw.stub : StubB
  | [.rw 0, .rw 1], [.row false 1 es, .row false 1 es'] => .any (intC.decs es) fun l => .any (intC.decs es') fun c => .gd (Sp.len6 l) (.gd (decide (0 < l.length)) (.ret ([.one true (.int .i64 (Sp.keptC l c))], [.row false 1 es, .row false 1 (intC.encs c)])))
  | _, _ => .fail
theorem kpw.ok : StubBOk Try.prog C0 16 kpw.stub := by
  intro args objs res objs' h
  unfold kpw.stub at h
  split at h
  · rename_i es es'
    obtain ⟨l, h1, h0⟩ := any_out h
    obtain ⟨rfl, hl⟩ := Cod.decs_inv h1
    obtain ⟨c, h1', h0'⟩ := any_out h0
    obtain ⟨rfl, hl'⟩ := Cod.decs_inv h1'
    obtain ⟨h2, h3⟩ := gd_out h0'
    obtain ⟨h4, h5⟩ := gd_out h3
    have h2 : l.length ≤ 6 := of_decide_eq_true h2
    have h4 := of_decide_eq_true h4
    cases h5
    refine kpw.ev (n := c.length + 1) ?_
    match l, h2, h4, hl with
    | x :: xs, h2, _, hl =>
      have hne : (((((x :: xs).length : Nat) : Int)) == 0) = false := by rw [ieq, decide_eq_false_iff_not, List.length_cons]; omega
      have key := kpw.l5_run (n := c.length + 1) (x := x) (xs := xs) (c := c) (by unfold len5; rw [decide_eq_true_eq]; simp at h2; omega) hl hl' c.length 0 (c.length + 1) 0 (by omega) (by omega)
      unfold kpw.res
      rw [Cod.encs_len, Cod.encs_len, hne, cond_false, keptC_cons]
      exact key
  · cases h
end Go.Proofs.EV.PL
set_option linter.unusedVariables false
set_option linter.unusedSimpArgs false
/-! Colourings that a word keeps; cycles of a word. -/
namespace Go.Proofs.EV.PL
open Go Go.Proofs Go.Proofs.EV Sp
/-! laws_eqIntS -/
noncomputable def laws_eqIntS.cfg : Cfg := { C0 with keep := fun | 4 => some [0, 1, 5] | _ => none, nb := 0, M := tabM [], MM := tabB [] }
noncomputable def laws_eqIntS.l4 (n : Nat) (m4 : Nat) (l0 : List (List D)) (l1 : List (List D)) (i2 : Int) : Option (List Q) :=
  loopAt laws_eqIntS.cfg [RK.one LK.bool] n Try.f7 [1, 1, 0, 1, 0] [] m4 (St.mk [V.one false (D.sl (1 : Nat) l0), V.one false (D.sl (1 : Nat) l1), V.undef, V.undef, V.undef, V.one true (D.int IntKind.i64 i2), V.undef, V.undef, V.undef, V.undef, V.undef, V.undef, V.undef, V.undef, V.undef, V.undef, V.undef, V.undef, V.undef, V.undef, V.undef, V.undef, V.undef, V.undef, V.undef, V.undef] [])
theorem laws_eqIntS.l4_eq (n : Nat) (m4 : Nat) (l0 : List (List D)) (l1 : List (List D)) (i2 : Int) :
    laws_eqIntS.l4 n (m4 + 1) l0 l1 i2 = bif decide (i2 < (↑(List.length l0) : Int)) then bif decide ((0 : Int) ≤ i2) then bif decide (i2 < (↑(List.length l0) : Int)) then Option.bind (Option.bind (some (cellD l0 (Int.toNat i2) (0 : Nat))) (D.int? IntKind.i64)) fun (i1 : Int) => bif decide ((0 : Int) ≤ i2) then bif decide (i2 < (↑(List.length l1) : Int)) then Option.bind (Option.bind (some (cellD l1 (Int.toNat i2) (0 : Nat))) (D.int? IntKind.i64)) fun (i2_1 : Int) => bif i1 != i2_1 then some [Q.one (D.bool false)] else laws_eqIntS.l4 n m4 l0 l1 (IntKind.wrap IntKind.i64 (i2 + (1 : Int))) else none else none else none else none else some [Q.one (D.bool true)] := by kernel_rfl
noncomputable def laws_eqIntS.res (n : Nat) (a0 : List (List D)) (a1 : List (List D)) : Option (List Q) :=
  bif (↑(List.length a0) : Int) != (↑(List.length a1) : Int) then some [Q.one (D.bool false)] else laws_eqIntS.l4 n n a0 a1 (0 : Int)
theorem laws_eqIntS.run (n : Nat) (a0 : List (List D)) (a1 : List (List D)) :
    run1 laws_eqIntS.cfg [RK.one LK.bool] n Try.f7 [Q.one (D.sl (1 : Nat) a0), Q.one (D.sl (1 : Nat) a1)] = laws_eqIntS.res n a0 a1 := by kernel_rfl
theorem laws_eqIntS.ev {n : Nat} {a0 : List (List D)} {a1 : List (List D)} {r : List Q} (h : laws_eqIntS.res n a0 a1 = some r) : Snd Try.prog C0 7 [.one (.sl 1 a0), .one (.sl 1 a1)] r :=
  snd_ev (C := laws_eqIntS.cfg) cfg0 mix rfl rfl rfl rfl rfl .nil .nil rfl Try.func7 (by kernel_rfl) (by kernel_rfl) rfl ((laws_eqIntS.run n a0 a1).trans h)

theorem laws_eqIntS.l4_run {n : Nat} {a b : List Int} (hl : a.length ≤ LIM) (he : a.length = b.length) : ∀ (d i m : Nat), i + d = a.length → d < m →
    laws_eqIntS.l4 n m (intC.encs a) (intC.encs b) i = some [Q.one (.bool (decide (a.drop i = b.drop i)))] := by
  intro d
  induction d with
  | zero =>
    intro i m hi hm
    obtain ⟨m, rfl⟩ : ∃ m', m = m' + 1 := ⟨m - 1, by omega⟩
    have h1 : ¬ (i : Int) < a.length := by omega
    rw [laws_eqIntS.l4_eq, List.drop_of_length_le (by omega), List.drop_of_length_le (l := b) (by omega)]
    simp only [Cod.encs_len, h1, decide_false, cond_false]
    rfl
  | succ d ih =>
    intro i m hi hm
    obtain ⟨m, rfl⟩ : ∃ m', m = m' + 1 := ⟨m - 1, by omega⟩
    have hlt : i < a.length := by omega
    have hlt' : i < b.length := by omega
    rw [laws_eqIntS.l4_eq, List.drop_eq_getElem_cons hlt, List.drop_eq_getElem_cons hlt']
    simp only [Cod.encs_len, Int.ofNat_lt, hlt, hlt', decide_true, cond_true, Int.natCast_nonneg, Int.toNat_natCast, intC_int' hlt, intC_int' hlt', Option.bind_some, wrap_succ (show i ≤ LIM by omega), ih (i + 1) m (by omega) (by omega), ine, List.cons.injEq, Bool.decide_and]
    cases decide (a[i] = b[i]) <;> rfl
def laws_eqIntS.stub : Stub
  | [.one (.sl 1 es), .one (.sl 1 es')] => .any (intC.decs es) fun l => .any (intC.decs es') fun l' => .ret [.one (.bool (decide (l = l')))]
  | _ => .fail
theorem laws_eqIntS.ok : StubOk Try.prog C0 7 laws_eqIntS.stub := by
  intro args res h
  unfold laws_eqIntS.stub at h
  split at h
  · obtain ⟨a, h1, h0⟩ := any_out h
    obtain ⟨rfl, hl⟩ := Cod.decs_inv h1
    obtain ⟨b, h1', h2⟩ := any_out h0
    obtain ⟨rfl, hl'⟩ := Cod.decs_inv h1'
    cases h2
    refine laws_eqIntS.ev (n := a.length + 1) ?_
    unfold laws_eqIntS.res
    simp only [Cod.encs_len]
    by_cases he : a.length = b.length
    · rw [he, bne_self_eq_false, cond_false, ← he]
      have := laws_eqIntS.l4_run (n := a.length + 1) hl he a.length 0 (a.length + 1) (by omega) (by omega)
      exact this
    · have h3 : (((a.length : Nat) : Int) != ((b.length : Nat) : Int)) = true := by rw [ine]; simp; omega
      have h4 : ¬ a = b := fun e => he (by rw [e])
      rw [h3, decide_eq_false h4]
      rfl
  · cases h
end Go.Proofs.EV.PL
