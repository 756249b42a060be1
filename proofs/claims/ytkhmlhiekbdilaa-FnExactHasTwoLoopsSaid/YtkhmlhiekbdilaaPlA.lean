import Derived.Test.YtkhmlhiekbdilaaProg
import Derived.Test.YtkhmlhiekbdilaaEvC
set_option linter.unusedVariables false
/-! The seat's types. -/
namespace Go.Proofs.EV.PL
open Go Go.Proofs Go.Proofs.EV
def tyl : List (TypeId × TI) := [
  (1, ⟨.func, 1, [.nl .nilf], false⟩),
  (2, ⟨.int .i64, 1, [.int .i64], false⟩),
  (3, ⟨.int .i64, 1, [.int .i64], false⟩),
  (4, ⟨.bool, 1, [.bool], false⟩),
  (5, ⟨.int .u8, 1, [.int .u8], false⟩),
  (6, ⟨.int .u8, 1, [.int .u8], false⟩),
  (7, ⟨.struct [(0, 2), (1, 3), (2, 4), (3, 6)], 4, [.int .i64, .int .i64, .bool, .int .u8], true⟩),
  (8, ⟨.struct [(0, 2), (1, 3), (2, 4), (3, 6)], 4, [.int .i64, .int .i64, .bool, .int .u8], true⟩),
  (9, ⟨.string, 1, [.str], false⟩),
  (10, ⟨.string, 1, [.str], false⟩),
  (11, ⟨.string, 1, [.str], false⟩),
  (12, ⟨.int .u64, 1, [.int .u64], false⟩),
  (13, ⟨.struct [(0, 9), (1, 12)], 2, [.str, .int .u64], false⟩),
  (14, ⟨.struct [(0, 9), (1, 12)], 2, [.str, .int .u64], false⟩),
  (15, ⟨.pointer 77, 1, [.nl .nilp], false⟩),
  (16, ⟨.pointer 80, 1, [.nl .nilp], false⟩),
  (17, ⟨.pointer 90, 1, [.nl .nilp], false⟩),
  (18, ⟨.struct [(0, 17)], 1, [.nl .nilp], false⟩),
  (19, ⟨.struct [(0, 17)], 1, [.nl .nilp], false⟩),
  (20, ⟨.iface, 1, [.nl .nili], false⟩),
  (21, ⟨.int .i32, 1, [.int .i32], false⟩),
  (22, ⟨.struct [(0, 3), (1, 3), (2, 3), (3, 3), (4, 3), (5, 3)], 6, [.int .i64, .int .i64, .int .i64, .int .i64, .int .i64, .int .i64], true⟩),
  (23, ⟨.struct [(0, 3), (1, 3), (2, 3), (3, 3), (4, 3), (5, 3)], 6, [.int .i64, .int .i64, .int .i64, .int .i64, .int .i64, .int .i64], true⟩),
  (24, ⟨.struct [(0, 3), (1, 3), (2, 23)], 8, [.int .i64, .int .i64, .int .i64, .int .i64, .int .i64, .int .i64, .int .i64, .int .i64], true⟩),
  (25, ⟨.struct [(0, 3), (1, 3), (2, 23)], 8, [.int .i64, .int .i64, .int .i64, .int .i64, .int .i64, .int .i64, .int .i64, .int .i64], true⟩),
  (26, ⟨.struct [(0, 9), (1, 25)], 9, [.str, .int .i64, .int .i64, .int .i64, .int .i64, .int .i64, .int .i64, .int .i64, .int .i64], true⟩),
  (27, ⟨.struct [(0, 9), (1, 25)], 9, [.str, .int .i64, .int .i64, .int .i64, .int .i64, .int .i64, .int .i64, .int .i64, .int .i64], true⟩),
  (28, ⟨.func, 1, [.nl .nilf], false⟩),
  (29, ⟨.func, 1, [.nl .nilf], false⟩),
  (30, ⟨.func, 1, [.nl .nilf], false⟩),
  (31, ⟨.slice 51, 1, [.sl 6], false⟩),
  (32, ⟨.func, 1, [.nl .nilf], false⟩),
  (34, ⟨.func, 1, [.nl .nilf], false⟩),
  (35, ⟨.slice 23, 1, [.sl 6], false⟩),
  (36, ⟨.func, 1, [.nl .nilf], false⟩),
  (37, ⟨.func, 1, [.nl .nilf], false⟩),
  (38, ⟨.func, 1, [.nl .nilf], false⟩),
  (39, ⟨.slice 46, 1, [.sl 1], false⟩),
  (41, ⟨.func, 1, [.nl .nilf], false⟩),
  (42, ⟨.func, 1, [.nl .nilf], false⟩),
  (43, ⟨.func, 1, [.nl .nilf], false⟩),
  (44, ⟨.func, 1, [.nl .nilf], false⟩),
  (45, ⟨.func, 1, [.nl .nilf], false⟩),
  (46, ⟨.slice 3, 1, [.sl 1], false⟩),
  (47, ⟨.func, 1, [.nl .nilf], false⟩),
  (48, ⟨.func, 1, [.nl .nilf], false⟩),
  (49, ⟨.func, 1, [.nl .nilf], false⟩),
  (50, ⟨.func, 1, [.nl .nilf], false⟩),
  (51, ⟨.struct [(0, 3), (1, 3), (2, 3), (3, 3), (4, 3), (5, 3)], 6, [.int .i64, .int .i64, .int .i64, .int .i64, .int .i64, .int .i64], true⟩),
  (52, ⟨.func, 1, [.nl .nilf], false⟩),
  (53, ⟨.func, 1, [.nl .nilf], false⟩),
  (54, ⟨.func, 1, [.nl .nilf], false⟩),
  (55, ⟨.func, 1, [.nl .nilf], false⟩),
  (56, ⟨.func, 1, [.nl .nilf], false⟩),
  (57, ⟨.func, 1, [.nl .nilf], false⟩),
  (58, ⟨.func, 1, [.nl .nilf], false⟩),
  (59, ⟨.func, 1, [.nl .nilf], false⟩),
  (60, ⟨.func, 1, [.nl .nilf], false⟩),
  (61, ⟨.func, 1, [.nl .nilf], false⟩),
  (62, ⟨.array 10 3, 10, [.int .i64, .int .i64, .int .i64, .int .i64, .int .i64, .int .i64, .int .i64, .int .i64, .int .i64, .int .i64], false⟩),
  (63, ⟨.func, 1, [.nl .nilf], false⟩),
  (64, ⟨.func, 1, [.nl .nilf], false⟩),
  (65, ⟨.func, 1, [.nl .nilf], false⟩),
  (66, ⟨.func, 1, [.nl .nilf], false⟩),
  (67, ⟨.func, 1, [.nl .nilf], false⟩),
  (68, ⟨.func, 1, [.nl .nilf], false⟩),
  (69, ⟨.func, 1, [.nl .nilf], false⟩),
  (70, ⟨.func, 1, [.nl .nilf], false⟩),
  (71, ⟨.func, 1, [.nl .nilf], false⟩),
  (72, ⟨.array 2 3, 2, [.int .i64, .int .i64], false⟩),
  (73, ⟨.array 3 72, 6, [.int .i64, .int .i64, .int .i64, .int .i64, .int .i64, .int .i64], false⟩),
  (74, ⟨.func, 1, [.nl .nilf], false⟩),
  (75, ⟨.func, 1, [.nl .nilf], false⟩),
  (76, ⟨.struct [(0, 17), (1, 17), (2, 17), (3, 9)], 4, [.nl .nilp, .nl .nilp, .nl .nilp, .str], false⟩),
  (77, ⟨.struct [(0, 17), (1, 17), (2, 17), (3, 9)], 4, [.nl .nilp, .nl .nilp, .nl .nilp, .str], false⟩),
  (81, ⟨.func, 1, [.nl .nilf], false⟩),
  (82, ⟨.int .u32, 1, [.int .u32], false⟩),
  (83, ⟨.int .u8, 1, [.int .u8], false⟩),
  (84, ⟨.int .u8, 1, [.int .u8], false⟩),
  (85, ⟨.func, 1, [.nl .nilf], false⟩),
  (86, ⟨.pointer 5, 1, [.nl .nilp], false⟩),
  (87, ⟨.int .i32, 1, [.int .i32], false⟩),
  (88, ⟨.int .i32, 1, [.int .i32], false⟩),
  (89, ⟨.struct [(0, 12), (1, 12), (2, 82), (3, 83), (4, 5), (5, 5), (6, 84), (7, 85), (8, 86), (9, 87), (10, 88)], 11, [.int .u64, .int .u64, .int .u32, .int .u8, .int .u8, .int .u8, .int .u8, .nl .nilf, .nl .nilp, .int .i32, .int .i32], false⟩),
  (90, ⟨.struct [(0, 12), (1, 12), (2, 82), (3, 83), (4, 5), (5, 5), (6, 84), (7, 85), (8, 86), (9, 87), (10, 88)], 11, [.int .u64, .int .u64, .int .u32, .int .u8, .int .u8, .int .u8, .int .u8, .nl .nilf, .nl .nilp, .int .i32, .int .i32], false⟩)]
def sigF : Nat → List RK
  | 0 => []
  | 1 => []
  | 2 => []
  | 3 => [.one (.bool)]
  | 4 => [.one (.bool)]
  | 5 => [.one (.bool)]
  | 6 => [.agg [.str, .int .i64, .int .i64, .int .i64, .int .i64, .int .i64, .int .i64, .int .i64, .int .i64]]
  | 7 => [.agg [.str, .int .i64, .int .i64, .int .i64, .int .i64, .int .i64, .int .i64, .int .i64, .int .i64]]
  | 8 => [.one (.bool)]
  | 9 => [.one (.int .i64)]
  | 10 => [.one (.bool), .one (.bool)]
  | 11 => [.own 6]
  | 12 => [.one (.bool), .one (.bool)]
  | 13 => [.one (.bool)]
  | 14 => [.own 1, .one (.bool)]
  | 15 => [.own 1, .one (.bool)]
  | 16 => [.one (.bool)]
  | 17 => [.one (.int .i64)]
  | 18 => [.one (.int .i64)]
  | 19 => [.one (.int .i64)]
  | 20 => [.agg [.int .i64, .int .i64, .int .i64, .int .i64, .int .i64, .int .i64]]
  | 21 => [.one (.bool)]
  | 22 => [.one (.bool)]
  | 23 => [.own 1]
  | 24 => [.agg [.int .i64, .int .i64, .int .i64, .int .i64, .int .i64, .int .i64]]
  | 25 => [.one (.bool)]
  | 26 => [.own 1]
  | 27 => [.one (.bool)]
  | 28 => [.one (.bool)]
  | 29 => [.one (.bool)]
  | 30 => [.one (.bool)]
  | 31 => [.one (.bool)]
  | 32 => [.one (.bool)]
  | 33 => [.one (.int .i64)]
  | 34 => [.one (.int .i64)]
  | 35 => [.one (.bool)]
  | 36 => [.one (.bool)]
  | 37 => [.one (.int .i64)]
  | 38 => [.own 1]
  | 39 => [.one (.bool)]
  | 40 => [.one (.bool)]
  | 41 => [.one (.bool)]
  | 42 => [.one (.bool)]
  | 43 => [.one (.int .i64)]
  | 44 => [.own 1]
  | 45 => [.one (.int .i64)]
  | 46 => [.one (.bool)]
  | 47 => [.own 1]
  | 48 => [.own 1]
  | 49 => [.one (.int .i64)]
  | 50 => [.one (.bool)]
  | 51 => [.own 1]
  | 52 => [.one (.bool)]
  | 53 => [.one (.int .i64)]
  | 54 => [.one (.str)]
  | 55 => []
  | 56 => [.one (.str)]
  | 57 => []
  | 58 => [.one (.str)]
  | 59 => []
  | 60 => [.one (.str)]
  | 61 => []
  | 62 => [.one (.str)]
  | 63 => []
  | 64 => [.one (.str)]
  | 65 => []
  | 66 => [.one (.int .i64)]
  | 67 => [.one (.str)]
  | 68 => []
  | 69 => [.one (.bool)]
  | 70 => [.one (.str)]
  | 71 => [.one (.str)]
  | _ => []
def borF : Nat → Bool
  | 17 => true
  | 33 => true
  | _ => false
def newsF : Nat → Nat
  | _ => 0
def C0 : Cfg := { ty := tysOf tyl, M := fun _ _ => .fail, sig := sigF, glob := fun _ => .undef, keep := fun _ => none, nb := 0, bor := borF, news := newsF, MM := fun _ _ _ => .fail }
theorem cfg0 : CfgOk Try.prog C0 := cfgOk_tys rfl (by kernel_rfl)
theorem mix : Try.prog.follows .mixedOrders = true := by kernel_rfl
end Go.Proofs.EV.PL
set_option linter.unusedVariables false
set_option linter.unusedSimpArgs false
/-! Dice: what they are, in both packages. -/
namespace Go.Proofs.EV.PL
open Go Go.Proofs Go.Proofs.EV Sp
/-! spec_l1In -/
noncomputable def spec_l1In.cfg : Cfg := { C0 with keep := fun _ => none, nb := 0, M := tabM [], MM := tabB [] }
noncomputable def spec_l1In.res (n : Nat) (a0 : Int) (a1 : Int) (a2 : Int) : Option (List Q) :=
  bif decide (a0 ≥ a1) then some [Q.one (D.bool (decide (a0 ≤ a2)))] else some [Q.one (D.bool false)]
theorem spec_l1In.run (n : Nat) (a0 : Int) (a1 : Int) (a2 : Int) :
    run1 spec_l1In.cfg [RK.one LK.bool] n Try.f35 [Q.one (D.int IntKind.i64 a0), Q.one (D.int IntKind.i64 a1), Q.one (D.int IntKind.i64 a2)] = spec_l1In.res n a0 a1 a2 := by kernel_rfl
theorem spec_l1In.ev {n : Nat} {a0 : Int} {a1 : Int} {a2 : Int} {r : List Q} (h : spec_l1In.res n a0 a1 a2 = some r) : Snd Try.prog C0 35 [.one (.int .i64 a0), .one (.int .i64 a1), .one (.int .i64 a2)] r :=
  snd_ev (C := spec_l1In.cfg) cfg0 mix rfl rfl rfl rfl rfl .nil .nil rfl Try.func35 (by kernel_rfl) (by kernel_rfl) rfl ((spec_l1In.run n a0 a1 a2).trans h)

def spec_l1In.stub : Stub
  | [.one (.int .i64 a), .one (.int .i64 b), .one (.int .i64 c)] => .ret [.one (.bool (Sp.inR a b c))]
  | _ => .fail
theorem spec_l1In.ok : StubOk Try.prog C0 35 spec_l1In.stub := by
  intro args res h
  unfold spec_l1In.stub at h
  split at h
  · rename_i a b c
    cases h
    refine spec_l1In.ev (n := 0) ?_
    unfold spec_l1In.res Sp.inR
    by_cases h1 : b ≤ a <;> simp [h1]
  · cases h
/-! impl_in -/
noncomputable def impl_in.cfg : Cfg := { C0 with keep := fun _ => none, nb := 0, M := tabM [], MM := tabB [] }
noncomputable def impl_in.res (n : Nat) (a0 : Int) (a1 : Int) (a2 : Int) : Option (List Q) :=
  bif decide (a1 ≤ a0) then some [Q.one (D.bool (decide (a0 ≤ a2)))] else some [Q.one (D.bool false)]
theorem impl_in.run (n : Nat) (a0 : Int) (a1 : Int) (a2 : Int) :
    run1 impl_in.cfg [RK.one LK.bool] n Try.f39 [Q.one (D.int IntKind.i64 a0), Q.one (D.int IntKind.i64 a1), Q.one (D.int IntKind.i64 a2)] = impl_in.res n a0 a1 a2 := by kernel_rfl
theorem impl_in.ev {n : Nat} {a0 : Int} {a1 : Int} {a2 : Int} {r : List Q} (h : impl_in.res n a0 a1 a2 = some r) : Snd Try.prog C0 39 [.one (.int .i64 a0), .one (.int .i64 a1), .one (.int .i64 a2)] r :=
  snd_ev (C := impl_in.cfg) cfg0 mix rfl rfl rfl rfl rfl .nil .nil rfl Try.func39 (by kernel_rfl) (by kernel_rfl) rfl ((impl_in.run n a0 a1 a2).trans h)

def impl_in.stub : Stub
  | [.one (.int .i64 a), .one (.int .i64 b), .one (.int .i64 c)] => .ret [.one (.bool (Sp.inR a b c))]
  | _ => .fail
theorem impl_in.ok : StubOk Try.prog C0 39 impl_in.stub := by
  intro args res h
  unfold impl_in.stub at h
  split at h
  · rename_i a b c
    cases h
    refine impl_in.ev (n := 0) ?_
    unfold impl_in.res Sp.inR
    by_cases h1 : b ≤ a <;> simp [h1]
  · cases h
/-! spec_diFaces -/
noncomputable def spec_diFaces.cfg : Cfg := { C0 with keep := fun _ => none, nb := 0, M := tabM [], MM := tabB [] }
noncomputable def spec_diFaces.res (n : Nat) (a0_0 : Int) (a0_1 : Int) (a0_2 : Int) (a0_3 : Int) (a0_4 : Int) (a0_5 : Int) : Option (List Q) :=
  some [Q.one (D.sl 1 [[D.int IntKind.i64 a0_0], [D.int IntKind.i64 a0_1], [D.int IntKind.i64 a0_2], [D.int IntKind.i64 a0_3], [D.int IntKind.i64 a0_4], [D.int IntKind.i64 a0_5]])]
theorem spec_diFaces.run (n : Nat) (a0_0 : Int) (a0_1 : Int) (a0_2 : Int) (a0_3 : Int) (a0_4 : Int) (a0_5 : Int) :
    run1 spec_diFaces.cfg [RK.own 1] n Try.f47 [Q.agg [D.int IntKind.i64 a0_0, D.int IntKind.i64 a0_1, D.int IntKind.i64 a0_2, D.int IntKind.i64 a0_3, D.int IntKind.i64 a0_4, D.int IntKind.i64 a0_5]] = spec_diFaces.res n a0_0 a0_1 a0_2 a0_3 a0_4 a0_5 := by kernel_rfl
theorem spec_diFaces.ev {n : Nat} {a0_0 : Int} {a0_1 : Int} {a0_2 : Int} {a0_3 : Int} {a0_4 : Int} {a0_5 : Int} {r : List Q} (h : spec_diFaces.res n a0_0 a0_1 a0_2 a0_3 a0_4 a0_5 = some r) : Snd Try.prog C0 47 [.agg [.int .i64 a0_0, .int .i64 a0_1, .int .i64 a0_2, .int .i64 a0_3, .int .i64 a0_4, .int .i64 a0_5]] r :=
  snd_ev (C := spec_diFaces.cfg) cfg0 mix rfl rfl rfl rfl rfl .nil .nil rfl Try.func47 (by kernel_rfl) (by kernel_rfl) rfl ((spec_diFaces.run n a0_0 a0_1 a0_2 a0_3 a0_4 a0_5).trans h)

def spec_diFaces.stub : Stub
  | [.agg [.int .i64 t, .int .i64 n, .int .i64 e, .int .i64 s, .int .i64 w, .int .i64 b]] => .ret [.one (.sl 1 [[.int .i64 t], [.int .i64 n], [.int .i64 e], [.int .i64 s], [.int .i64 w], [.int .i64 b]])]
  | _ => .fail
theorem spec_diFaces.ok : StubOk Try.prog C0 47 spec_diFaces.stub := by
  intro args res h
  unfold spec_diFaces.stub at h
  split at h
  · cases h; exact spec_diFaces.ev (n := 0) rfl
  · cases h
/-! impl_Die_faces -/
noncomputable def impl_Die_faces.cfg : Cfg := { C0 with keep := fun _ => none, nb := 0, M := tabM [], MM := tabB [] }
noncomputable def impl_Die_faces.res (n : Nat) (a0_0 : Int) (a0_1 : Int) (a0_2 : Int) (a0_3 : Int) (a0_4 : Int) (a0_5 : Int) : Option (List Q) :=
  some [Q.one (D.sl 1 [[D.int IntKind.i64 a0_0], [D.int IntKind.i64 a0_1], [D.int IntKind.i64 a0_2], [D.int IntKind.i64 a0_3], [D.int IntKind.i64 a0_4], [D.int IntKind.i64 a0_5]])]
theorem impl_Die_faces.run (n : Nat) (a0_0 : Int) (a0_1 : Int) (a0_2 : Int) (a0_3 : Int) (a0_4 : Int) (a0_5 : Int) :
    run1 impl_Die_faces.cfg [RK.own 1] n Try.f51 [Q.agg [D.int IntKind.i64 a0_0, D.int IntKind.i64 a0_1, D.int IntKind.i64 a0_2, D.int IntKind.i64 a0_3, D.int IntKind.i64 a0_4, D.int IntKind.i64 a0_5]] = impl_Die_faces.res n a0_0 a0_1 a0_2 a0_3 a0_4 a0_5 := by kernel_rfl
theorem impl_Die_faces.ev {n : Nat} {a0_0 : Int} {a0_1 : Int} {a0_2 : Int} {a0_3 : Int} {a0_4 : Int} {a0_5 : Int} {r : List Q} (h : impl_Die_faces.res n a0_0 a0_1 a0_2 a0_3 a0_4 a0_5 = some r) : Snd Try.prog C0 51 [.agg [.int .i64 a0_0, .int .i64 a0_1, .int .i64 a0_2, .int .i64 a0_3, .int .i64 a0_4, .int .i64 a0_5]] r :=
  snd_ev (C := impl_Die_faces.cfg) cfg0 mix rfl rfl rfl rfl rfl .nil .nil rfl Try.func51 (by kernel_rfl) (by kernel_rfl) rfl ((impl_Die_faces.run n a0_0 a0_1 a0_2 a0_3 a0_4 a0_5).trans h)

def impl_Die_faces.stub : Stub
  | [.agg [.int .i64 t, .int .i64 n, .int .i64 e, .int .i64 s, .int .i64 w, .int .i64 b]] => .ret [.one (.sl 1 [[.int .i64 t], [.int .i64 n], [.int .i64 e], [.int .i64 s], [.int .i64 w], [.int .i64 b]])]
  | _ => .fail
theorem impl_Die_faces.ok : StubOk Try.prog C0 51 impl_Die_faces.stub := by
  intro args res h
  unfold impl_Die_faces.stub at h
  split at h
  · cases h; exact impl_Die_faces.ev (n := 0) rfl
  · cases h
/-! spec_l1All -/
noncomputable def spec_l1All.cfg : Cfg := { C0 with keep := fun | 2 => some [1, 2, 9, 10, 11] | _ => none, nb := 0, M := tabM [(35, spec_l1In.stub)], MM := tabB [] }
noncomputable def spec_l1All.l2 (n : Nat) (m2 : Nat) (i0 : Int) (i1 : Int) (l2 : List (List D)) (i3 : Int) (i4 : Int) : Option (List Q) :=
  loopAt spec_l1All.cfg [RK.one LK.bool] n Try.f46 [1, 0, 1, 0] [] m2 (St.mk [V.undef, V.one true (D.int IntKind.i64 i0), V.one true (D.int IntKind.i64 i1), V.undef, V.undef, V.undef, V.undef, V.undef, V.undef, V.one false (D.sl 1 l2), V.one true (D.int IntKind.i64 i3), V.one true (D.int IntKind.i64 i4), V.undef, V.undef, V.undef, V.undef, V.undef, V.undef, V.undef, V.undef, V.undef] [])
theorem spec_l1All.l2_eq (n : Nat) (m2 : Nat) (i0 : Int) (i1 : Int) (l2 : List (List D)) (i3 : Int) (i4 : Int) :
    spec_l1All.l2 n (m2 + 1) i0 i1 l2 i3 i4 = bif decide (i4 < i3) then bif decide (0 ≤ i4) then bif decide (i4 < (↑(List.length l2) : Int)) then Option.bind (Option.bind (some (cellD l2 (Int.toNat i4) 0)) (D.int? IntKind.i64)) fun (i1_1 : Int) => bif !inR i1_1 i0 i1 then some [Q.one (D.bool false)] else spec_l1All.l2 n m2 i0 i1 l2 i3 (IntKind.wrap IntKind.i64 (i4 + 1)) else none else none else some [Q.one (D.bool true)] := by kernel_rfl
noncomputable def spec_l1All.res (n : Nat) (a0 : List (List D)) (a1 : Int) (a2 : Int) : Option (List Q) :=
  spec_l1All.l2 n n a1 a2 a0 (↑(List.length a0) : Int) 0
theorem spec_l1All.run (n : Nat) (a0 : List (List D)) (a1 : Int) (a2 : Int) :
    run1 spec_l1All.cfg [RK.one LK.bool] n Try.f46 [Q.one (D.sl 1 a0), Q.one (D.int IntKind.i64 a1), Q.one (D.int IntKind.i64 a2)] = spec_l1All.res n a0 a1 a2 := by kernel_rfl
theorem spec_l1All.ev {n : Nat} {a0 : List (List D)} {a1 : Int} {a2 : Int} {r : List Q} (h : spec_l1All.res n a0 a1 a2 = some r) : Snd Try.prog C0 46 [.one (.sl 1 a0), .one (.int .i64 a1), .one (.int .i64 a2)] r :=
  snd_ev (C := spec_l1All.cfg) cfg0 mix rfl rfl rfl rfl rfl (.cons spec_l1In.ok .nil) .nil rfl Try.func46 (by kernel_rfl) (by kernel_rfl) rfl ((spec_l1All.run n a0 a1 a2).trans h)

theorem spec_l1All.loop {n : Nat} {lo hi : Int} {l : List Int} (hl : l.length ≤ LIM) : ∀ (d k m : Nat), k + d = l.length → d < m → spec_l1All.l2 n m lo hi (intC.encs l) l.length k = some [Q.one (.bool (Sp.allR (l.drop k) lo hi))] := by
  intro d
  induction d with
  | zero =>
    intro k m hk hm
    obtain ⟨m, rfl⟩ : ∃ m', m = m' + 1 := ⟨m - 1, by omega⟩
    obtain rfl : k = l.length := by omega
    simp [spec_l1All.l2_eq, Sp.allR]
  | succ d ih =>
    intro k m hk hm
    obtain ⟨m, rfl⟩ : ∃ m', m = m' + 1 := ⟨m - 1, by omega⟩
    have hlt : k < l.length := by omega
    rw [spec_l1All.l2_eq, List.drop_eq_getElem_cons hlt]
    simp only [Cod.encs_len, Int.ofNat_lt, hlt, decide_true, cond_true, Int.natCast_nonneg, Int.toNat_natCast, intC_int hlt, Option.bind_some, wrap_succ (show k ≤ LIM by omega), ih (k + 1) m (by omega) (by omega)]
    cases h : Sp.inR l[k] lo hi <;> simp only [Sp.allR, List.all_cons, h, Bool.not_true, Bool.not_false, cond_true, cond_false, Bool.true_and, Bool.false_and]
def spec_l1All.stub : Stub
  | [.one (.sl 1 es), .one (.int .i64 lo), .one (.int .i64 hi)] => .any (intC.decs es) fun l => .ret [.one (.bool (Sp.allR l lo hi))]
  | _ => .fail
theorem spec_l1All.ok : StubOk Try.prog C0 46 spec_l1All.stub := by
  intro args res h
  unfold spec_l1All.stub at h
  split at h
  · obtain ⟨l, h1, h2⟩ := any_out h
    obtain ⟨rfl, hl⟩ := Cod.decs_inv h1
    cases h2
    refine spec_l1All.ev (n := l.length + 1) ?_
    unfold spec_l1All.res
    simpa using spec_l1All.loop (n := l.length + 1) hl l.length 0 (l.length + 1) (by omega) (by omega)
  · cases h
/-! spec_diGood -/
noncomputable def spec_diGood.cfg : Cfg := { C0 with keep := fun _ => none, nb := 0, M := tabM [(47, spec_diFaces.stub), (46, spec_l1All.stub)], MM := tabB [] }
noncomputable def spec_diGood.res (n : Nat) (a0_0 : Int) (a0_1 : Int) (a0_2 : Int) (a0_3 : Int) (a0_4 : Int) (a0_5 : Int) : Option (List Q) :=
  some [Q.one (D.bool (allR [a0_0, a0_1, a0_2, a0_3, a0_4, a0_5] 0 9))]
theorem spec_diGood.run (n : Nat) (a0_0 : Int) (a0_1 : Int) (a0_2 : Int) (a0_3 : Int) (a0_4 : Int) (a0_5 : Int) :
    run1 spec_diGood.cfg [RK.one LK.bool] n Try.f36 [Q.agg [D.int IntKind.i64 a0_0, D.int IntKind.i64 a0_1, D.int IntKind.i64 a0_2, D.int IntKind.i64 a0_3, D.int IntKind.i64 a0_4, D.int IntKind.i64 a0_5]] = spec_diGood.res n a0_0 a0_1 a0_2 a0_3 a0_4 a0_5 := by kernel_rfl
theorem spec_diGood.ev {n : Nat} {a0_0 : Int} {a0_1 : Int} {a0_2 : Int} {a0_3 : Int} {a0_4 : Int} {a0_5 : Int} {r : List Q} (h : spec_diGood.res n a0_0 a0_1 a0_2 a0_3 a0_4 a0_5 = some r) : Snd Try.prog C0 36 [.agg [.int .i64 a0_0, .int .i64 a0_1, .int .i64 a0_2, .int .i64 a0_3, .int .i64 a0_4, .int .i64 a0_5]] r :=
  snd_ev (C := spec_diGood.cfg) cfg0 mix rfl rfl rfl rfl rfl (.cons spec_diFaces.ok (.cons spec_l1All.ok .nil)) .nil rfl Try.func36 (by kernel_rfl) (by kernel_rfl) rfl ((spec_diGood.run n a0_0 a0_1 a0_2 a0_3 a0_4 a0_5).trans h)

def spec_diGood.stub : Stub
  | [.agg [.int .i64 t, .int .i64 n, .int .i64 e, .int .i64 s, .int .i64 w, .int .i64 b]] => .ret [.one (.bool (Sp.Die.good ⟨t, n, e, s, w, b⟩))]
  | _ => .fail
theorem spec_diGood.ok : StubOk Try.prog C0 36 spec_diGood.stub := by
  intro args res h
  unfold spec_diGood.stub at h
  split at h
  · cases h; exact spec_diGood.ev (n := 0) rfl
  · cases h
/-! spec_clDice -/
noncomputable def spec_clDice.cfg : Cfg := { C0 with keep := fun | 4 => some [9, 10, 11] | _ => none, nb := 0, M := tabM [(35, spec_l1In.stub), (36, spec_diGood.stub)], MM := tabB [] }
noncomputable def spec_clDice.l4 (n : Nat) (m4 : Nat) (l0 : List (List D)) (i1 : Int) (i2 : Int) : Option (List Q) :=
  loopAt spec_clDice.cfg [RK.one LK.bool] n Try.f22 [1, 1, 0, 1, 0] [] m4 (St.mk [V.undef, V.undef, V.undef, V.undef, V.undef, V.undef, V.undef, V.undef, V.undef, V.one false (D.sl 6 l0), V.one true (D.int IntKind.i64 i1), V.one true (D.int IntKind.i64 i2), V.undef, V.undef, V.undef, V.undef, V.undef, V.undef, V.undef] [])
theorem spec_clDice.l4_eq (n : Nat) (m4 : Nat) (l0 : List (List D)) (i1 : Int) (i2 : Int) :
    spec_clDice.l4 n (m4 + 1) l0 i1 i2 = bif decide (i2 < i1) then bif decide (0 ≤ i2) then bif decide (i2 < (↑(List.length l0) : Int)) then Option.bind (Option.bind (some (cellD l0 (Int.toNat i2) 0)) (D.int? IntKind.i64)) fun (i1_1 : Int) => Option.bind (Option.bind (some (cellD l0 (Int.toNat i2) 1)) (D.int? IntKind.i64)) fun (i2_1 : Int) => Option.bind (Option.bind (some (cellD l0 (Int.toNat i2) 2)) (D.int? IntKind.i64)) fun (i3 : Int) => Option.bind (Option.bind (some (cellD l0 (Int.toNat i2) 3)) (D.int? IntKind.i64)) fun (i4 : Int) => Option.bind (Option.bind (some (cellD l0 (Int.toNat i2) 4)) (D.int? IntKind.i64)) fun (i5 : Int) => Option.bind (Option.bind (some (cellD l0 (Int.toNat i2) 5)) (D.int? IntKind.i64)) fun (i6 : Int) => bif !Die.good (Die.mk i1_1 i2_1 i3 i4 i5 i6) then some [Q.one (D.bool false)] else spec_clDice.l4 n m4 l0 i1 (IntKind.wrap IntKind.i64 (i2 + 1)) else none else none else some [Q.one (D.bool true)] := by kernel_rfl
noncomputable def spec_clDice.res (n : Nat) (a0 : List (List D)) : Option (List Q) :=
  bif !inR (↑(List.length a0) : Int) 1 4 then some [Q.one (D.bool false)] else spec_clDice.l4 n n a0 (↑(List.length a0) : Int) 0
theorem spec_clDice.run (n : Nat) (a0 : List (List D)) :
    run1 spec_clDice.cfg [RK.one LK.bool] n Try.f22 [Q.one (D.sl 6 a0)] = spec_clDice.res n a0 := by kernel_rfl
theorem spec_clDice.ev {n : Nat} {a0 : List (List D)} {r : List Q} (h : spec_clDice.res n a0 = some r) : Snd Try.prog C0 22 [.one (.sl 6 a0)] r :=
  snd_ev (C := spec_clDice.cfg) cfg0 mix rfl rfl rfl rfl rfl (.cons spec_l1In.ok (.cons spec_diGood.ok .nil)) .nil rfl Try.func22 (by kernel_rfl) (by kernel_rfl) rfl ((spec_clDice.run n a0).trans h)

theorem spec_clDice.loop {n : Nat} {l : List Die} (hl : l.length ≤ LIM) : ∀ (d k m : Nat), k + d = l.length → d < m → spec_clDice.l4 n m (dieC.encs l) l.length k = some [Q.one (.bool ((l.drop k).all Sp.Die.good))] := by
  intro d
  induction d with
  | zero =>
    intro k m hk hm
    obtain ⟨m, rfl⟩ : ∃ m', m = m' + 1 := ⟨m - 1, by omega⟩
    obtain rfl : k = l.length := by omega
    simp [spec_clDice.l4_eq]
  | succ d ih =>
    intro k m hk hm
    obtain ⟨m, rfl⟩ : ∃ m', m = m' + 1 := ⟨m - 1, by omega⟩
    have hlt : k < l.length := by omega
    rw [spec_clDice.l4_eq, List.drop_eq_getElem_cons hlt]
    simp only [Cod.encs_len, Int.ofNat_lt, hlt, decide_true, cond_true, Int.natCast_nonneg, Int.toNat_natCast, dieC_t hlt, dieC_n hlt, dieC_e hlt, dieC_s hlt, dieC_w hlt, dieC_b hlt, Option.bind_some, wrap_succ (show k ≤ LIM by omega), ih (k + 1) m (by omega) (by omega)]
    cases h : Sp.Die.good l[k] <;> simp only [List.all_cons, h, Bool.not_true, Bool.not_false, cond_true, cond_false, Bool.true_and, Bool.false_and]
def spec_clDice.stub : Stub
  | [.one (.sl 6 es)] => .any (dieC.decs es) fun l => .ret [.one (.bool (Sp.areDice l))]
  | _ => .fail
theorem spec_clDice.ok : StubOk Try.prog C0 22 spec_clDice.stub := by
  intro args res h
  unfold spec_clDice.stub at h
  split at h
  · obtain ⟨l, h1, h2⟩ := any_out h
    obtain ⟨rfl, hl⟩ := Cod.decs_inv h1
    cases h2
    refine spec_clDice.ev (n := l.length + 1) ?_
    unfold spec_clDice.res Sp.areDice
    have := spec_clDice.loop (n := l.length + 1) hl l.length 0 (l.length + 1) (by omega) (by omega)
    simp only [Cod.encs_len]
    cases h : Sp.inR l.length 1 4
    · simp
    · simpa using this
  · cases h
/-! impl_IsDie_1 -/
noncomputable def impl_IsDie_1.cfg : Cfg := { C0 with keep := fun _ => none, nb := 0, M := tabM [(39, impl_in.stub)], MM := tabB [] }
noncomputable def impl_IsDie_1.res (n : Nat) (a0 : Int) : Option (List Q) :=
  some [Q.one (D.bool !inR a0 0 9)]
theorem impl_IsDie_1.run (n : Nat) (a0 : Int) :
    run1 impl_IsDie_1.cfg [RK.one LK.bool] n Try.f52 [Q.one (D.int IntKind.i64 a0)] = impl_IsDie_1.res n a0 := by kernel_rfl
theorem impl_IsDie_1.ev {n : Nat} {a0 : Int} {r : List Q} (h : impl_IsDie_1.res n a0 = some r) : Snd Try.prog C0 52 [.one (.int .i64 a0)] r :=
  snd_ev (C := impl_IsDie_1.cfg) cfg0 mix rfl rfl rfl rfl rfl (.cons impl_in.ok .nil) .nil rfl Try.func52 (by kernel_rfl) (by kernel_rfl) rfl ((impl_IsDie_1.run n a0).trans h)

def impl_IsDie_1.stub : Stub
  | [.one (.int .i64 a)] => .ret [.one (.bool (!Sp.inR a 0 9))]
  | _ => .fail
theorem impl_IsDie_1.ok : StubOk Try.prog C0 52 impl_IsDie_1.stub := by
  intro args res h
  unfold impl_IsDie_1.stub at h
  split at h
  · cases h; exact impl_IsDie_1.ev (n := 0) rfl
  · cases h
/-! idx_isDie -/
noncomputable def idx_isDie.cfg : Cfg := { C0 with keep := fun | 2 => some [0, 1, 7, 8] | _ => none, nb := 0, M := tabM [(52, impl_IsDie_1.stub)], MM := tabB [] }
noncomputable def idx_isDie.l2 (n : Nat) (m2 : Nat) (l0 : List (List D)) (i1 : Int) (i2 : Int) : Option (List Q) :=
  loopAt idx_isDie.cfg [RK.one (LK.int IntKind.i64)] n Try.f53 [1, 0, 1, 0] [] m2 (St.mk [V.one false (D.sl 1 l0), V.one false (D.fn 52 [] []), V.undef, V.undef, V.undef, V.undef, V.undef, V.one true (D.int IntKind.i64 i1), V.one true (D.int IntKind.i64 i2), V.undef, V.undef, V.undef, V.undef, V.undef, V.undef, V.undef, V.undef, V.undef, V.undef] [])
theorem idx_isDie.l2_eq (n : Nat) (m2 : Nat) (l0 : List (List D)) (i1 : Int) (i2 : Int) :
    idx_isDie.l2 n (m2 + 1) l0 i1 i2 = bif decide (i2 < i1) then bif decide (0 ≤ i2) then bif decide (i2 < (↑(List.length l0) : Int)) then Option.bind (Option.bind (some (cellD l0 (Int.toNat i2) 0)) (D.int? IntKind.i64)) fun (i1_1 : Int) => bif !inR i1_1 0 9 then some [Q.one (D.int IntKind.i64 i2)] else idx_isDie.l2 n m2 l0 i1 (IntKind.wrap IntKind.i64 (i2 + 1)) else none else none else some [Q.one (D.int IntKind.i64 (-1))] := by kernel_rfl
noncomputable def idx_isDie.res (n : Nat) (a0 : List (List D)) : Option (List Q) :=
  idx_isDie.l2 n n a0 (↑(List.length a0) : Int) 0
theorem idx_isDie.run (n : Nat) (a0 : List (List D)) :
    run1 idx_isDie.cfg [RK.one (LK.int IntKind.i64)] n Try.f53 [Q.one (D.sl 1 a0), Q.one (D.fn 52 [] [])] = idx_isDie.res n a0 := by kernel_rfl
theorem idx_isDie.ev {n : Nat} {a0 : List (List D)} {r : List Q} (h : idx_isDie.res n a0 = some r) : Snd Try.prog C0 53 [.one (.sl 1 a0), .one (.fn 52 [] [])] r :=
  snd_ev (C := idx_isDie.cfg) cfg0 mix rfl rfl rfl rfl rfl (.cons impl_IsDie_1.ok .nil) .nil rfl Try.func53 (by kernel_rfl) (by kernel_rfl) rfl ((idx_isDie.run n a0).trans h)

theorem idx_isDie.loop {n : Nat} {l : List Int} (hl : l.length ≤ LIM) : ∀ (d k m : Nat), k + d = l.length → d < m → idx_isDie.l2 n m (intC.encs l) l.length k = some [Q.one (.int .i64 (Sp.idxFrom (fun x => !Sp.inR x 0 9) (l.drop k) k))] := by
  intro d
  induction d with
  | zero =>
    intro k m hk hm
    obtain ⟨m, rfl⟩ : ∃ m', m = m' + 1 := ⟨m - 1, by omega⟩
    obtain rfl : k = l.length := by omega
    simp [idx_isDie.l2_eq, Sp.idxFrom]
  | succ d ih =>
    intro k m hk hm
    obtain ⟨m, rfl⟩ : ∃ m', m = m' + 1 := ⟨m - 1, by omega⟩
    have hlt : k < l.length := by omega
    rw [idx_isDie.l2_eq, List.drop_eq_getElem_cons hlt]
    simp only [Cod.encs_len, Int.ofNat_lt, hlt, decide_true, cond_true, Int.natCast_nonneg, Int.toNat_natCast, intC_int hlt, Option.bind_some, wrap_succ (show k ≤ LIM by omega), ih (k + 1) m (by omega) (by omega), Sp.idxFrom]
    rcases Bool.eq_false_or_eq_true ((fun x => !Sp.inR x 0 9) l[k]) with h | h <;> (try dsimp only at h) <;> simp only [h, cond_true, cond_false, Die.eta]
def idx_isDie.stub : Stub
  | [.one (.sl 1 es), .one (.fn 52 [] [])] => .any (intC.decs es) fun l => .ret [.one (.int .i64 (Sp.idxFrom (fun x => !Sp.inR x 0 9) l 0))]
  | _ => .fail
theorem idx_isDie.ok : StubOk Try.prog C0 53 idx_isDie.stub := by
  intro args res h
  unfold idx_isDie.stub at h
  split at h
  · obtain ⟨l, h1, h2⟩ := any_out h
    obtain ⟨rfl, hl⟩ := Cod.decs_inv h1
    cases h2
    refine idx_isDie.ev (n := l.length + 1) ?_
    unfold idx_isDie.res
    simpa using idx_isDie.loop (n := l.length + 1) hl l.length 0 (l.length + 1) (by omega) (by omega)
  · cases h
/-! con_isDie -/
noncomputable def con_isDie.cfg : Cfg := { C0 with keep := fun _ => none, nb := 0, M := tabM [(53, idx_isDie.stub)], MM := tabB [] }
noncomputable def con_isDie.res (n : Nat) (a0 : List (List D)) : Option (List Q) :=
  Option.bind (Cod.decs intC a0) fun (l1 : List Int) => some [Q.one (D.bool (decide (idxFrom (fun (x : Int) => !inR x 0 9) l1 0 ≥ 0)))]
theorem con_isDie.run (n : Nat) (a0 : List (List D)) :
    run1 con_isDie.cfg [RK.one LK.bool] n Try.f50 [Q.one (D.sl 1 a0), Q.one (D.fn 52 [] [])] = con_isDie.res n a0 := by kernel_rfl
theorem con_isDie.ev {n : Nat} {a0 : List (List D)} {r : List Q} (h : con_isDie.res n a0 = some r) : Snd Try.prog C0 50 [.one (.sl 1 a0), .one (.fn 52 [] [])] r :=
  snd_ev (C := con_isDie.cfg) cfg0 mix rfl rfl rfl rfl rfl (.cons idx_isDie.ok .nil) .nil rfl Try.func50 (by kernel_rfl) (by kernel_rfl) rfl ((con_isDie.run n a0).trans h)

def con_isDie.stub : Stub
  | [.one (.sl 1 es), .one (.fn 52 [] [])] => .any (intC.decs es) fun l => .ret [.one (.bool (Sp.anyB (fun x => !Sp.inR x 0 9) l))]
  | _ => .fail
theorem con_isDie.ok : StubOk Try.prog C0 50 con_isDie.stub := by
  intro args res h
  unfold con_isDie.stub at h
  split at h
  · obtain ⟨l, h1, h2⟩ := any_out h
    obtain ⟨rfl, hl⟩ := Cod.decs_inv h1
    cases h2
    refine con_isDie.ev (n := 0) ?_
    unfold con_isDie.res
    simp only [Cod.decs_encs hl, Option.bind_some]
    rw [Sp.anyB, ← Sp.idxFrom_any l (fun x => !Sp.inR x 0 9) 0]
  · cases h
/-! impl_IsDie -/
noncomputable def impl_IsDie.cfg : Cfg := { C0 with keep := fun _ => none, nb := 0, M := tabM [(51, impl_Die_faces.stub), (50, con_isDie.stub)], MM := tabB [] }
noncomputable def impl_IsDie.res (n : Nat) (a0_0 : Int) (a0_1 : Int) (a0_2 : Int) (a0_3 : Int) (a0_4 : Int) (a0_5 : Int) : Option (List Q) :=
  some [Q.one (D.bool !anyB (fun (x : Int) => !inR x 0 9) [a0_0, a0_1, a0_2, a0_3, a0_4, a0_5])]
theorem impl_IsDie.run (n : Nat) (a0_0 : Int) (a0_1 : Int) (a0_2 : Int) (a0_3 : Int) (a0_4 : Int) (a0_5 : Int) :
    run1 impl_IsDie.cfg [RK.one LK.bool] n Try.f42 [Q.agg [D.int IntKind.i64 a0_0, D.int IntKind.i64 a0_1, D.int IntKind.i64 a0_2, D.int IntKind.i64 a0_3, D.int IntKind.i64 a0_4, D.int IntKind.i64 a0_5]] = impl_IsDie.res n a0_0 a0_1 a0_2 a0_3 a0_4 a0_5 := by kernel_rfl
theorem impl_IsDie.ev {n : Nat} {a0_0 : Int} {a0_1 : Int} {a0_2 : Int} {a0_3 : Int} {a0_4 : Int} {a0_5 : Int} {r : List Q} (h : impl_IsDie.res n a0_0 a0_1 a0_2 a0_3 a0_4 a0_5 = some r) : Snd Try.prog C0 42 [.agg [.int .i64 a0_0, .int .i64 a0_1, .int .i64 a0_2, .int .i64 a0_3, .int .i64 a0_4, .int .i64 a0_5]] r :=
  snd_ev (C := impl_IsDie.cfg) cfg0 mix rfl rfl rfl rfl rfl (.cons impl_Die_faces.ok (.cons con_isDie.ok .nil)) .nil rfl Try.func42 (by kernel_rfl) (by kernel_rfl) rfl ((impl_IsDie.run n a0_0 a0_1 a0_2 a0_3 a0_4 a0_5).trans h)

def impl_IsDie.stub : Stub
  | [.agg [.int .i64 t, .int .i64 n, .int .i64 e, .int .i64 s, .int .i64 w, .int .i64 b]] => .ret [.one (.bool (Sp.Die.good ⟨t, n, e, s, w, b⟩))]
  | _ => .fail
theorem impl_IsDie.ok : StubOk Try.prog C0 42 impl_IsDie.stub := by
  intro args res h
  unfold impl_IsDie.stub at h
  split at h
  · cases h
    refine impl_IsDie.ev (n := 0) ?_
    simp [impl_IsDie.res, Sp.Die.good, Sp.allR, Sp.Die.faces, Sp.anyB]
  · cases h
/-! impl_areTower_1 -/
noncomputable def impl_areTower_1.cfg : Cfg := { C0 with keep := fun _ => none, nb := 0, M := tabM [(42, impl_IsDie.stub)], MM := tabB [] }
noncomputable def impl_areTower_1.res (n : Nat) (a0_0 : Int) (a0_1 : Int) (a0_2 : Int) (a0_3 : Int) (a0_4 : Int) (a0_5 : Int) : Option (List Q) :=
  some [Q.one (D.bool !Die.good (Die.mk a0_0 a0_1 a0_2 a0_3 a0_4 a0_5))]
theorem impl_areTower_1.run (n : Nat) (a0_0 : Int) (a0_1 : Int) (a0_2 : Int) (a0_3 : Int) (a0_4 : Int) (a0_5 : Int) :
    run1 impl_areTower_1.cfg [RK.one LK.bool] n Try.f41 [Q.agg [D.int IntKind.i64 a0_0, D.int IntKind.i64 a0_1, D.int IntKind.i64 a0_2, D.int IntKind.i64 a0_3, D.int IntKind.i64 a0_4, D.int IntKind.i64 a0_5]] = impl_areTower_1.res n a0_0 a0_1 a0_2 a0_3 a0_4 a0_5 := by kernel_rfl
theorem impl_areTower_1.ev {n : Nat} {a0_0 : Int} {a0_1 : Int} {a0_2 : Int} {a0_3 : Int} {a0_4 : Int} {a0_5 : Int} {r : List Q} (h : impl_areTower_1.res n a0_0 a0_1 a0_2 a0_3 a0_4 a0_5 = some r) : Snd Try.prog C0 41 [.agg [.int .i64 a0_0, .int .i64 a0_1, .int .i64 a0_2, .int .i64 a0_3, .int .i64 a0_4, .int .i64 a0_5]] r :=
  snd_ev (C := impl_areTower_1.cfg) cfg0 mix rfl rfl rfl rfl rfl (.cons impl_IsDie.ok .nil) .nil rfl Try.func41 (by kernel_rfl) (by kernel_rfl) rfl ((impl_areTower_1.run n a0_0 a0_1 a0_2 a0_3 a0_4 a0_5).trans h)

def impl_areTower_1.stub : Stub
  | [.agg [.int .i64 t, .int .i64 n, .int .i64 e, .int .i64 s, .int .i64 w, .int .i64 b]] => .ret [.one (.bool (!Sp.Die.good ⟨t, n, e, s, w, b⟩))]
  | _ => .fail
theorem impl_areTower_1.ok : StubOk Try.prog C0 41 impl_areTower_1.stub := by
  intro args res h
  unfold impl_areTower_1.stub at h
  split at h
  · cases h; exact impl_areTower_1.ev (n := 0) rfl
  · cases h
/-! idx_tower -/
noncomputable def idx_tower.cfg : Cfg := { C0 with keep := fun | 2 => some [0, 1, 7, 8] | _ => none, nb := 0, M := tabM [(41, impl_areTower_1.stub)], MM := tabB [] }
noncomputable def idx_tower.l2 (n : Nat) (m2 : Nat) (l0 : List (List D)) (i1 : Int) (i2 : Int) : Option (List Q) :=
  loopAt idx_tower.cfg [RK.one (LK.int IntKind.i64)] n Try.f49 [1, 0, 1, 0] [] m2 (St.mk [V.one false (D.sl 6 l0), V.one false (D.fn 41 [] []), V.undef, V.undef, V.undef, V.undef, V.undef, V.one true (D.int IntKind.i64 i1), V.one true (D.int IntKind.i64 i2), V.undef, V.undef, V.undef, V.undef, V.undef, V.undef, V.undef, V.undef, V.undef, V.undef] [])
theorem idx_tower.l2_eq (n : Nat) (m2 : Nat) (l0 : List (List D)) (i1 : Int) (i2 : Int) :
    idx_tower.l2 n (m2 + 1) l0 i1 i2 = bif decide (i2 < i1) then bif decide (0 ≤ i2) then bif decide (i2 < (↑(List.length l0) : Int)) then Option.bind (Option.bind (some (cellD l0 (Int.toNat i2) 0)) (D.int? IntKind.i64)) fun (i1_1 : Int) => Option.bind (Option.bind (some (cellD l0 (Int.toNat i2) 1)) (D.int? IntKind.i64)) fun (i2_1 : Int) => Option.bind (Option.bind (some (cellD l0 (Int.toNat i2) 2)) (D.int? IntKind.i64)) fun (i3 : Int) => Option.bind (Option.bind (some (cellD l0 (Int.toNat i2) 3)) (D.int? IntKind.i64)) fun (i4 : Int) => Option.bind (Option.bind (some (cellD l0 (Int.toNat i2) 4)) (D.int? IntKind.i64)) fun (i5 : Int) => Option.bind (Option.bind (some (cellD l0 (Int.toNat i2) 5)) (D.int? IntKind.i64)) fun (i6 : Int) => bif !Die.good (Die.mk i1_1 i2_1 i3 i4 i5 i6) then some [Q.one (D.int IntKind.i64 i2)] else idx_tower.l2 n m2 l0 i1 (IntKind.wrap IntKind.i64 (i2 + 1)) else none else none else some [Q.one (D.int IntKind.i64 (-1))] := by kernel_rfl
noncomputable def idx_tower.res (n : Nat) (a0 : List (List D)) : Option (List Q) :=
  idx_tower.l2 n n a0 (↑(List.length a0) : Int) 0
theorem idx_tower.run (n : Nat) (a0 : List (List D)) :
    run1 idx_tower.cfg [RK.one (LK.int IntKind.i64)] n Try.f49 [Q.one (D.sl 6 a0), Q.one (D.fn 41 [] [])] = idx_tower.res n a0 := by kernel_rfl
theorem idx_tower.ev {n : Nat} {a0 : List (List D)} {r : List Q} (h : idx_tower.res n a0 = some r) : Snd Try.prog C0 49 [.one (.sl 6 a0), .one (.fn 41 [] [])] r :=
  snd_ev (C := idx_tower.cfg) cfg0 mix rfl rfl rfl rfl rfl (.cons impl_areTower_1.ok .nil) .nil rfl Try.func49 (by kernel_rfl) (by kernel_rfl) rfl ((idx_tower.run n a0).trans h)

theorem idx_tower.loop {n : Nat} {l : List Die} (hl : l.length ≤ LIM) : ∀ (d k m : Nat), k + d = l.length → d < m → idx_tower.l2 n m (dieC.encs l) l.length k = some [Q.one (.int .i64 (Sp.idxFrom (fun d => !Sp.Die.good d) (l.drop k) k))] := by
  intro d
  induction d with
  | zero =>
    intro k m hk hm
    obtain ⟨m, rfl⟩ : ∃ m', m = m' + 1 := ⟨m - 1, by omega⟩
    obtain rfl : k = l.length := by omega
    simp [idx_tower.l2_eq, Sp.idxFrom]
  | succ d ih =>
    intro k m hk hm
    obtain ⟨m, rfl⟩ : ∃ m', m = m' + 1 := ⟨m - 1, by omega⟩
    have hlt : k < l.length := by omega
    rw [idx_tower.l2_eq, List.drop_eq_getElem_cons hlt]
    simp only [Cod.encs_len, Int.ofNat_lt, hlt, decide_true, cond_true, Int.natCast_nonneg, Int.toNat_natCast, dieC_t hlt, dieC_n hlt, dieC_e hlt, dieC_s hlt, dieC_w hlt, dieC_b hlt, Option.bind_some, wrap_succ (show k ≤ LIM by omega), ih (k + 1) m (by omega) (by omega), Sp.idxFrom]
    rcases Bool.eq_false_or_eq_true ((fun d => !Sp.Die.good d) l[k]) with h | h <;> (try dsimp only at h) <;> simp only [h, cond_true, cond_false, Die.eta]
def idx_tower.stub : Stub
  | [.one (.sl 6 es), .one (.fn 41 [] [])] => .any (dieC.decs es) fun l => .ret [.one (.int .i64 (Sp.idxFrom (fun d => !Sp.Die.good d) l 0))]
  | _ => .fail
theorem idx_tower.ok : StubOk Try.prog C0 49 idx_tower.stub := by
  intro args res h
  unfold idx_tower.stub at h
  split at h
  · obtain ⟨l, h1, h2⟩ := any_out h
    obtain ⟨rfl, hl⟩ := Cod.decs_inv h1
    cases h2
    refine idx_tower.ev (n := l.length + 1) ?_
    unfold idx_tower.res
    simpa using idx_tower.loop (n := l.length + 1) hl l.length 0 (l.length + 1) (by omega) (by omega)
  · cases h
/-! con_tower -/
noncomputable def con_tower.cfg : Cfg := { C0 with keep := fun _ => none, nb := 0, M := tabM [(49, idx_tower.stub)], MM := tabB [] }
noncomputable def con_tower.res (n : Nat) (a0 : List (List D)) : Option (List Q) :=
  Option.bind (Cod.decs dieC a0) fun (l1 : List Die) => some [Q.one (D.bool (decide (idxFrom (fun (d : Die) => !Die.good d) l1 0 ≥ 0)))]
theorem con_tower.run (n : Nat) (a0 : List (List D)) :
    run1 con_tower.cfg [RK.one LK.bool] n Try.f40 [Q.one (D.sl 6 a0), Q.one (D.fn 41 [] [])] = con_tower.res n a0 := by kernel_rfl
theorem con_tower.ev {n : Nat} {a0 : List (List D)} {r : List Q} (h : con_tower.res n a0 = some r) : Snd Try.prog C0 40 [.one (.sl 6 a0), .one (.fn 41 [] [])] r :=
  snd_ev (C := con_tower.cfg) cfg0 mix rfl rfl rfl rfl rfl (.cons idx_tower.ok .nil) .nil rfl Try.func40 (by kernel_rfl) (by kernel_rfl) rfl ((con_tower.run n a0).trans h)

def con_tower.stub : Stub
  | [.one (.sl 6 es), .one (.fn 41 [] [])] => .any (dieC.decs es) fun l => .ret [.one (.bool (Sp.anyB (fun d => !Sp.Die.good d) l))]
  | _ => .fail
theorem con_tower.ok : StubOk Try.prog C0 40 con_tower.stub := by
  intro args res h
  unfold con_tower.stub at h
  split at h
  · obtain ⟨l, h1, h2⟩ := any_out h
    obtain ⟨rfl, hl⟩ := Cod.decs_inv h1
    cases h2
    refine con_tower.ev (n := 0) ?_
    unfold con_tower.res
    simp only [Cod.decs_encs hl, Option.bind_some]
    rw [Sp.anyB, ← Sp.idxFrom_any l (fun d => !Sp.Die.good d) 0]
  · cases h
/-! impl_areTower -/
noncomputable def impl_areTower.cfg : Cfg := { C0 with keep := fun _ => none, nb := 0, M := tabM [(39, impl_in.stub), (40, con_tower.stub)], MM := tabB [] }
noncomputable def impl_areTower.res (n : Nat) (a0 : List (List D)) : Option (List Q) :=
  bif inR (↑(List.length a0) : Int) 1 4 then Option.bind (Cod.decs dieC a0) fun (l1 : List Die) => some [Q.one (D.bool !anyB (fun (d : Die) => !Die.good d) l1)] else some [Q.one (D.bool false)]
theorem impl_areTower.run (n : Nat) (a0 : List (List D)) :
    run1 impl_areTower.cfg [RK.one LK.bool] n Try.f25 [Q.one (D.sl 6 a0)] = impl_areTower.res n a0 := by kernel_rfl
theorem impl_areTower.ev {n : Nat} {a0 : List (List D)} {r : List Q} (h : impl_areTower.res n a0 = some r) : Snd Try.prog C0 25 [.one (.sl 6 a0)] r :=
  snd_ev (C := impl_areTower.cfg) cfg0 mix rfl rfl rfl rfl rfl (.cons impl_in.ok (.cons con_tower.ok .nil)) .nil rfl Try.func25 (by kernel_rfl) (by kernel_rfl) rfl ((impl_areTower.run n a0).trans h)

def impl_areTower.stub : Stub
  | [.one (.sl 6 es)] => .any (dieC.decs es) fun l => .ret [.one (.bool (Sp.areDice l))]
  | _ => .fail
theorem impl_areTower.ok : StubOk Try.prog C0 25 impl_areTower.stub := by
  intro args res h
  unfold impl_areTower.stub at h
  split at h
  · obtain ⟨l, h1, h2⟩ := any_out h
    obtain ⟨rfl, hl⟩ := Cod.decs_inv h1
    cases h2
    refine impl_areTower.ev (n := 0) ?_
    simp only [impl_areTower.res, Cod.encs_len, Cod.decs_encs hl, Option.bind_some, Sp.areDice]
    cases h : Sp.inR l.length 1 4 <;> simp [List.all_eq_not_any_not, Sp.anyB]
  · cases h
end Go.Proofs.EV.PL
set_option linter.unusedVariables false
set_option linter.unusedSimpArgs false
/-! Lists of dice, as the laws handle them. -/
namespace Go.Proofs.EV.PL
open Go Go.Proofs Go.Proofs.EV Sp
/-! laws_toDie -/
noncomputable def laws_toDie.cfg : Cfg := { C0 with keep := fun _ => none, nb := 0, M := tabM [], MM := tabB [] }
noncomputable def laws_toDie.res (n : Nat) (a0_0 : Int) (a0_1 : Int) (a0_2 : Int) (a0_3 : Int) (a0_4 : Int) (a0_5 : Int) : Option (List Q) :=
  some [Q.agg [D.int IntKind.i64 a0_0, D.int IntKind.i64 a0_1, D.int IntKind.i64 a0_2, D.int IntKind.i64 a0_3, D.int IntKind.i64 a0_4, D.int IntKind.i64 a0_5]]
theorem laws_toDie.run (n : Nat) (a0_0 : Int) (a0_1 : Int) (a0_2 : Int) (a0_3 : Int) (a0_4 : Int) (a0_5 : Int) :
    run1 laws_toDie.cfg [RK.agg [LK.int IntKind.i64, LK.int IntKind.i64, LK.int IntKind.i64, LK.int IntKind.i64, LK.int IntKind.i64, LK.int IntKind.i64]] n Try.f24 [Q.agg [D.int IntKind.i64 a0_0, D.int IntKind.i64 a0_1, D.int IntKind.i64 a0_2, D.int IntKind.i64 a0_3, D.int IntKind.i64 a0_4, D.int IntKind.i64 a0_5]] = laws_toDie.res n a0_0 a0_1 a0_2 a0_3 a0_4 a0_5 := by kernel_rfl
theorem laws_toDie.ev {n : Nat} {a0_0 : Int} {a0_1 : Int} {a0_2 : Int} {a0_3 : Int} {a0_4 : Int} {a0_5 : Int} {r : List Q} (h : laws_toDie.res n a0_0 a0_1 a0_2 a0_3 a0_4 a0_5 = some r) : Snd Try.prog C0 24 [.agg [.int .i64 a0_0, .int .i64 a0_1, .int .i64 a0_2, .int .i64 a0_3, .int .i64 a0_4, .int .i64 a0_5]] r :=
  snd_ev (C := laws_toDie.cfg) cfg0 mix rfl rfl rfl rfl rfl .nil .nil rfl Try.func24 (by kernel_rfl) (by kernel_rfl) rfl ((laws_toDie.run n a0_0 a0_1 a0_2 a0_3 a0_4 a0_5).trans h)

def laws_toDie.stub : Stub
  | [.agg [.int .i64 t, .int .i64 n, .int .i64 e, .int .i64 s, .int .i64 w, .int .i64 b]] => .ret [.agg [.int .i64 t, .int .i64 n, .int .i64 e, .int .i64 s, .int .i64 w, .int .i64 b]]
  | _ => .fail
theorem laws_toDie.ok : StubOk Try.prog C0 24 laws_toDie.stub := by
  intro args res h
  unfold laws_toDie.stub at h
  split at h
  · cases h; exact laws_toDie.ev (n := 0) rfl
  · cases h
/-! laws_eqDie -/
noncomputable def laws_eqDie.cfg : Cfg := { C0 with keep := fun _ => none, nb := 0, M := tabM [], MM := tabB [] }
noncomputable def laws_eqDie.res (n : Nat) (a0_0 : Int) (a0_1 : Int) (a0_2 : Int) (a0_3 : Int) (a0_4 : Int) (a0_5 : Int) (a1_0 : Int) (a1_1 : Int) (a1_2 : Int) (a1_3 : Int) (a1_4 : Int) (a1_5 : Int) : Option (List Q) :=
  bif a0_0 != a1_0 then some [Q.one (D.bool false)] else bif a0_1 != a1_1 then some [Q.one (D.bool false)] else bif a0_2 != a1_2 then some [Q.one (D.bool false)] else bif a0_3 != a1_3 then some [Q.one (D.bool false)] else bif a0_4 != a1_4 then some [Q.one (D.bool false)] else bif a0_5 != a1_5 then some [Q.one (D.bool false)] else some [Q.one (D.bool true)]
theorem laws_eqDie.run (n : Nat) (a0_0 : Int) (a0_1 : Int) (a0_2 : Int) (a0_3 : Int) (a0_4 : Int) (a0_5 : Int) (a1_0 : Int) (a1_1 : Int) (a1_2 : Int) (a1_3 : Int) (a1_4 : Int) (a1_5 : Int) :
    run1 laws_eqDie.cfg [RK.one LK.bool] n Try.f31 [Q.agg [D.int IntKind.i64 a0_0, D.int IntKind.i64 a0_1, D.int IntKind.i64 a0_2, D.int IntKind.i64 a0_3, D.int IntKind.i64 a0_4, D.int IntKind.i64 a0_5], Q.agg [D.int IntKind.i64 a1_0, D.int IntKind.i64 a1_1, D.int IntKind.i64 a1_2, D.int IntKind.i64 a1_3, D.int IntKind.i64 a1_4, D.int IntKind.i64 a1_5]] = laws_eqDie.res n a0_0 a0_1 a0_2 a0_3 a0_4 a0_5 a1_0 a1_1 a1_2 a1_3 a1_4 a1_5 := by kernel_rfl
theorem laws_eqDie.ev {n : Nat} {a0_0 : Int} {a0_1 : Int} {a0_2 : Int} {a0_3 : Int} {a0_4 : Int} {a0_5 : Int} {a1_0 : Int} {a1_1 : Int} {a1_2 : Int} {a1_3 : Int} {a1_4 : Int} {a1_5 : Int} {r : List Q} (h : laws_eqDie.res n a0_0 a0_1 a0_2 a0_3 a0_4 a0_5 a1_0 a1_1 a1_2 a1_3 a1_4 a1_5 = some r) : Snd Try.prog C0 31 [.agg [.int .i64 a0_0, .int .i64 a0_1, .int .i64 a0_2, .int .i64 a0_3, .int .i64 a0_4, .int .i64 a0_5], .agg [.int .i64 a1_0, .int .i64 a1_1, .int .i64 a1_2, .int .i64 a1_3, .int .i64 a1_4, .int .i64 a1_5]] r :=
  snd_ev (C := laws_eqDie.cfg) cfg0 mix rfl rfl rfl rfl rfl .nil .nil rfl Try.func31 (by kernel_rfl) (by kernel_rfl) rfl ((laws_eqDie.run n a0_0 a0_1 a0_2 a0_3 a0_4 a0_5 a1_0 a1_1 a1_2 a1_3 a1_4 a1_5).trans h)

def laws_eqDie.stub : Stub
  | [.agg [.int .i64 t, .int .i64 n, .int .i64 e, .int .i64 s, .int .i64 w, .int .i64 b], .agg [.int .i64 t', .int .i64 n', .int .i64 e', .int .i64 s', .int .i64 w', .int .i64 b']] => .ret [.one (.bool (decide (Die.mk t n e s w b = Die.mk t' n' e' s' w' b')))]
  | _ => .fail
theorem laws_eqDie.ok : StubOk Try.prog C0 31 laws_eqDie.stub := by
  intro args res h
  unfold laws_eqDie.stub at h
  split at h
  · rename_i t n e s w b t' n' e' s' w' b'
    cases h
    refine laws_eqDie.ev (n := 0) ?_
    unfold laws_eqDie.res
    by_cases h1 : t = t' <;> by_cases h2 : n = n' <;> by_cases h3 : e = e' <;> by_cases h4 : s = s' <;> by_cases h5 : w = w' <;> by_cases h6 : b = b' <;> simp [ine, h1, h2, h3, h4, h5, h6]
  · cases h
/-! laws_toDieS -/
noncomputable def laws_toDieS.cfg : Cfg := { C0 with keep := fun | 3 => some [0, 3, 4] | _ => none, nb := 0, M := tabM [(24, laws_toDie.stub)], MM := tabB [] }
noncomputable def laws_toDieS.l3 (n : Nat) (m3 : Nat) (l0 : List (List D)) (i1 : Int) (l2 : List (List D)) : Option (List Q) :=
  loopAt laws_toDieS.cfg [RK.own (6 : Nat)] n Try.f11 [1, 1, 0, 1, 0] [] m3 (St.mk [V.one false (D.sl (nat_lit 6) l0), V.undef, V.undef, V.rw (nat_lit 0), V.one true (D.int IntKind.i64 i1), V.undef, V.undef, V.undef, V.undef, V.undef, V.undef, V.undef, V.undef, V.undef, V.undef, V.undef, V.undef, V.undef, V.undef, V.undef, V.undef, V.undef, V.undef] [Ob.row false (nat_lit 6) l2])
theorem laws_toDieS.l3_eq (n : Nat) (m3 : Nat) (l0 : List (List D)) (i1 : Int) (l2 : List (List D)) :
    laws_toDieS.l3 n (m3 + 1) l0 i1 l2 = bif decide (i1 < (↑(List.length l0) : Int)) then bif decide ((0 : Int) ≤ i1) then bif decide (i1 < (↑(List.length l0) : Int)) then Option.bind (Option.bind (some (cellD l0 (Int.toNat i1) (0 : Nat))) (D.int? IntKind.i64)) fun (i1_1 : Int) => Option.bind (Option.bind (some (cellD l0 (Int.toNat i1) (1 : Nat))) (D.int? IntKind.i64)) fun (i2 : Int) => Option.bind (Option.bind (some (cellD l0 (Int.toNat i1) (2 : Nat))) (D.int? IntKind.i64)) fun (i3 : Int) => Option.bind (Option.bind (some (cellD l0 (Int.toNat i1) (3 : Nat))) (D.int? IntKind.i64)) fun (i4 : Int) => Option.bind (Option.bind (some (cellD l0 (Int.toNat i1) (4 : Nat))) (D.int? IntKind.i64)) fun (i5 : Int) => Option.bind (Option.bind (some (cellD l0 (Int.toNat i1) (5 : Nat))) (D.int? IntKind.i64)) fun (i6 : Int) => bif decide ((0 : Int) ≤ i1) then bif decide (i1 < (↑(List.length l2) : Int)) then laws_toDieS.l3 n m3 l0 (IntKind.wrap IntKind.i64 (i1 + (1 : Int))) (setRow (nat_lit 6) l2 (Int.toNat i1) (0 : Nat) [D.int IntKind.i64 i1_1, D.int IntKind.i64 i2, D.int IntKind.i64 i3, D.int IntKind.i64 i4, D.int IntKind.i64 i5, D.int IntKind.i64 i6]) else none else none else none else none else some [Q.one (D.sl (nat_lit 6) l2)] := by kernel_rfl
noncomputable def laws_toDieS.res (n : Nat) (a0 : List (List D)) : Option (List Q) :=
  bif decide ((↑(List.length a0) : Int) ≤ (↑(List.length a0) : Int)) then bif decide ((↑(List.length a0) : Int) ≤ (17179869184 : Int)) then laws_toDieS.l3 n n a0 (0 : Int) (List.replicate (Int.toNat (↑(List.length a0) : Int)) [D.int IntKind.i64 (0 : Int), D.int IntKind.i64 (0 : Int), D.int IntKind.i64 (0 : Int), D.int IntKind.i64 (0 : Int), D.int IntKind.i64 (0 : Int), D.int IntKind.i64 (0 : Int)]) else none else none
theorem laws_toDieS.run (n : Nat) (a0 : List (List D)) :
    run1 laws_toDieS.cfg [RK.own (6 : Nat)] n Try.f11 [Q.one (D.sl (6 : Nat) a0)] = laws_toDieS.res n a0 := by kernel_rfl
theorem laws_toDieS.ev {n : Nat} {a0 : List (List D)} {r : List Q} (h : laws_toDieS.res n a0 = some r) : Snd Try.prog C0 11 [.one (.sl 6 a0)] r :=
  snd_ev (C := laws_toDieS.cfg) cfg0 mix rfl rfl rfl rfl rfl (.cons laws_toDie.ok .nil) .nil rfl Try.func11 (by kernel_rfl) (by kernel_rfl) rfl ((laws_toDieS.run n a0).trans h)

theorem laws_toDieS.loop {n : Nat} {l : List Die} (hl : l.length ≤ LIM) : ∀ (d k m : Nat) (rows : List (List D)), rows.length = l.length → rows.take k = dieC.encs (l.take k) → k + d = l.length → d < m → laws_toDieS.l3 n m (dieC.encs l) k rows = some [Q.one (.sl 6 (dieC.encs l))] := by
  intro d
  induction d with
  | zero =>
    intro k m rows hr ht hk hm
    obtain ⟨m, rfl⟩ : ∃ m', m = m' + 1 := ⟨m - 1, by omega⟩
    obtain rfl : k = l.length := by omega
    rw [List.take_of_length_le (by omega), List.take_of_length_le (by omega)] at ht
    simp [laws_toDieS.l3_eq, ht]
  | succ d ih =>
    intro k m rows hr ht hk hm
    obtain ⟨m, rfl⟩ : ∃ m', m = m' + 1 := ⟨m - 1, by omega⟩
    have hlt : k < l.length := by omega
    rw [laws_toDieS.l3_eq]
    simp only [Cod.encs_len, Int.ofNat_lt, hlt, hr, decide_true, cond_true, Int.natCast_nonneg, Int.toNat_natCast, dieC_t hlt, dieC_n hlt, dieC_e hlt, dieC_s hlt, dieC_w hlt, dieC_b hlt, Option.bind_some, wrap_succ (show k ≤ LIM by omega)]
    rw [setRow_full (by simp)]
    refine ih (k + 1) m _ (by simpa using hr) ?_ (by omega) (by omega)
    rw [take_set_succ _ _ _ (by omega), ht, List.take_succ_eq_append_getElem hlt, ← Cod.encs_snoc]
    rfl
def laws_toDieS.stub : Stub
  | [.one (.sl 6 es)] => .any (dieC.decs es) fun l => .ret [.one (.sl 6 (dieC.encs l))]
  | _ => .fail
theorem laws_toDieS.ok : StubOk Try.prog C0 11 laws_toDieS.stub := by
  intro args res h
  unfold laws_toDieS.stub at h
  split at h
  · obtain ⟨l, h1, h2⟩ := any_out h
    obtain ⟨rfl, hl⟩ := Cod.decs_inv h1
    cases h2
    refine laws_toDieS.ev (n := l.length + 1) ?_
    unfold laws_toDieS.res
    have := laws_toDieS.loop (n := l.length + 1) hl l.length 0 (l.length + 1) (List.replicate l.length [D.int .i64 0, D.int .i64 0, D.int .i64 0, D.int .i64 0, D.int .i64 0, D.int .i64 0]) (by simp) (by simp) (by omega) (by omega)
    have h3 : (l.length : Int) ≤ 17179869184 := by unfold LIM at hl; omega
    simpa [h3] using this
  · cases h
/-! laws_eqDieS -/
noncomputable def laws_eqDieS.cfg : Cfg := { C0 with keep := fun | 4 => some [0, 1, 5] | _ => none, nb := 0, M := tabM [(31, laws_eqDie.stub)], MM := tabB [] }
noncomputable def laws_eqDieS.l4 (n : Nat) (m4 : Nat) (l0 : List (List D)) (l1 : List (List D)) (i2 : Int) : Option (List Q) :=
  loopAt laws_eqDieS.cfg [RK.one LK.bool] n Try.f13 [1, 1, 0, 1, 0] [] m4 (St.mk [V.one false (D.sl (nat_lit 6) l0), V.one false (D.sl (nat_lit 6) l1), V.undef, V.undef, V.undef, V.one true (D.int IntKind.i64 i2), V.undef, V.undef, V.undef, V.undef, V.undef, V.undef, V.undef, V.undef, V.undef, V.undef, V.undef, V.undef, V.undef, V.undef, V.undef, V.undef, V.undef, V.undef, V.undef, V.undef, V.undef] [])
theorem laws_eqDieS.l4_eq (n : Nat) (m4 : Nat) (l0 : List (List D)) (l1 : List (List D)) (i2 : Int) :
    laws_eqDieS.l4 n (m4 + 1) l0 l1 i2 = bif decide (i2 < (↑(List.length l0) : Int)) then bif decide ((0 : Int) ≤ i2) then bif decide (i2 < (↑(List.length l0) : Int)) then Option.bind (Option.bind (some (cellD l0 (Int.toNat i2) (0 : Nat))) (D.int? IntKind.i64)) fun (i1 : Int) => Option.bind (Option.bind (some (cellD l0 (Int.toNat i2) (1 : Nat))) (D.int? IntKind.i64)) fun (i2_1 : Int) => Option.bind (Option.bind (some (cellD l0 (Int.toNat i2) (2 : Nat))) (D.int? IntKind.i64)) fun (i3 : Int) => Option.bind (Option.bind (some (cellD l0 (Int.toNat i2) (3 : Nat))) (D.int? IntKind.i64)) fun (i4 : Int) => Option.bind (Option.bind (some (cellD l0 (Int.toNat i2) (4 : Nat))) (D.int? IntKind.i64)) fun (i5 : Int) => Option.bind (Option.bind (some (cellD l0 (Int.toNat i2) (5 : Nat))) (D.int? IntKind.i64)) fun (i6 : Int) => bif decide ((0 : Int) ≤ i2) then bif decide (i2 < (↑(List.length l1) : Int)) then Option.bind (Option.bind (some (cellD l1 (Int.toNat i2) (0 : Nat))) (D.int? IntKind.i64)) fun (i7 : Int) => Option.bind (Option.bind (some (cellD l1 (Int.toNat i2) (1 : Nat))) (D.int? IntKind.i64)) fun (i8 : Int) => Option.bind (Option.bind (some (cellD l1 (Int.toNat i2) (2 : Nat))) (D.int? IntKind.i64)) fun (i9 : Int) => Option.bind (Option.bind (some (cellD l1 (Int.toNat i2) (3 : Nat))) (D.int? IntKind.i64)) fun (i10 : Int) => Option.bind (Option.bind (some (cellD l1 (Int.toNat i2) (4 : Nat))) (D.int? IntKind.i64)) fun (i11 : Int) => Option.bind (Option.bind (some (cellD l1 (Int.toNat i2) (5 : Nat))) (D.int? IntKind.i64)) fun (i12 : Int) => bif !decide (Die.mk i1 i2_1 i3 i4 i5 i6 = Die.mk i7 i8 i9 i10 i11 i12) then some [Q.one (D.bool false)] else laws_eqDieS.l4 n m4 l0 l1 (IntKind.wrap IntKind.i64 (i2 + (1 : Int))) else none else none else none else none else some [Q.one (D.bool true)] := by kernel_rfl
noncomputable def laws_eqDieS.res (n : Nat) (a0 : List (List D)) (a1 : List (List D)) : Option (List Q) :=
  bif (↑(List.length a0) : Int) != (↑(List.length a1) : Int) then some [Q.one (D.bool false)] else laws_eqDieS.l4 n n a0 a1 (0 : Int)
theorem laws_eqDieS.run (n : Nat) (a0 : List (List D)) (a1 : List (List D)) :
    run1 laws_eqDieS.cfg [RK.one LK.bool] n Try.f13 [Q.one (D.sl (6 : Nat) a0), Q.one (D.sl (6 : Nat) a1)] = laws_eqDieS.res n a0 a1 := by kernel_rfl
theorem laws_eqDieS.ev {n : Nat} {a0 : List (List D)} {a1 : List (List D)} {r : List Q} (h : laws_eqDieS.res n a0 a1 = some r) : Snd Try.prog C0 13 [.one (.sl 6 a0), .one (.sl 6 a1)] r :=
  snd_ev (C := laws_eqDieS.cfg) cfg0 mix rfl rfl rfl rfl rfl (.cons laws_eqDie.ok .nil) .nil rfl Try.func13 (by kernel_rfl) (by kernel_rfl) rfl ((laws_eqDieS.run n a0 a1).trans h)

theorem laws_eqDieS.loop {n : Nat} {l l' : List Die} (hl : l.length ≤ LIM) (he : l.length = l'.length) : ∀ (d k m : Nat), k + d = l.length → d < m → laws_eqDieS.l4 n m (dieC.encs l) (dieC.encs l') k = some [Q.one (.bool (decide (l.drop k = l'.drop k)))] := by
  intro d
  induction d with
  | zero =>
    intro k m hk hm
    obtain ⟨m, rfl⟩ : ∃ m', m = m' + 1 := ⟨m - 1, by omega⟩
    obtain rfl : k = l.length := by omega
    simp [laws_eqDieS.l4_eq, he]
  | succ d ih =>
    intro k m hk hm
    obtain ⟨m, rfl⟩ : ∃ m', m = m' + 1 := ⟨m - 1, by omega⟩
    have hlt : k < l.length := by omega
    have hlt' : k < l'.length := by omega
    rw [laws_eqDieS.l4_eq, List.drop_eq_getElem_cons hlt, List.drop_eq_getElem_cons hlt']
    simp only [Cod.encs_len, Int.ofNat_lt, hlt, hlt', decide_true, cond_true, Int.natCast_nonneg, Int.toNat_natCast, dieC_t hlt, dieC_n hlt, dieC_e hlt, dieC_s hlt, dieC_w hlt, dieC_b hlt, dieC_t hlt', dieC_n hlt', dieC_e hlt', dieC_s hlt', dieC_w hlt', dieC_b hlt', Option.bind_some, wrap_succ (show k ≤ LIM by omega), ih (k + 1) m (by omega) (by omega), Die.eta]
    by_cases h : l[k] = l'[k]
    · simp only [h, List.cons.injEq, true_and, decide_true, Bool.not_true, cond_false]
    · simp only [h, List.cons.injEq, false_and, decide_false, Bool.not_false, cond_true]
def laws_eqDieS.stub : Stub
  | [.one (.sl 6 es), .one (.sl 6 es')] => .any (dieC.decs es) fun l => .any (dieC.decs es') fun l' => .ret [.one (.bool (decide (l = l')))]
  | _ => .fail
theorem laws_eqDieS.ok : StubOk Try.prog C0 13 laws_eqDieS.stub := by
  intro args res h
  unfold laws_eqDieS.stub at h
  split at h
  · obtain ⟨l, h1, h⟩ := any_out h
    obtain ⟨l', h1', h2⟩ := any_out h
    obtain ⟨rfl, hl⟩ := Cod.decs_inv h1
    obtain ⟨rfl, hl'⟩ := Cod.decs_inv h1'
    cases h2
    refine laws_eqDieS.ev (n := l.length + 1) ?_
    unfold laws_eqDieS.res
    by_cases he : l.length = l'.length
    · have := laws_eqDieS.loop (n := l.length + 1) hl he l.length 0 (l.length + 1) (by omega) (by omega)
      simpa [ine, he] using this
    · have : l ≠ l' := fun e => he (by rw [e])
      have he' : (l.length : Int) ≠ l'.length := by omega
      simp [ine, he', this]
  · cases h
/-! laws_szDieS -/
noncomputable def laws_szDieS.cfg : Cfg := { C0 with keep := fun _ => none, nb := 0, M := tabM [], MM := tabB [] }
noncomputable def laws_szDieS.res (n : Nat) (a0 : List (List D)) (a1 : Int) : Option (List Q) :=
  bif decide (IntKind.wrap IntKind.i64 (a1 - (↑(List.length a0) : Int)) < (0 : Int)) then some [Q.one (D.int IntKind.i64 (-1 : Int))] else some [Q.one (D.int IntKind.i64 (IntKind.wrap IntKind.i64 (a1 - (↑(List.length a0) : Int))))]
theorem laws_szDieS.run (n : Nat) (a0 : List (List D)) (a1 : Int) :
    run1 laws_szDieS.cfg [RK.one (LK.int IntKind.i64)] n Try.f9 [Q.one (D.sl (6 : Nat) a0), Q.one (D.int IntKind.i64 a1)] = laws_szDieS.res n a0 a1 := by kernel_rfl
theorem laws_szDieS.ev {n : Nat} {a0 : List (List D)} {a1 : Int} {r : List Q} (h : laws_szDieS.res n a0 a1 = some r) : Snd Try.prog C0 9 [.one (.sl 6 a0), .one (.int .i64 a1)] r :=
  snd_ev (C := laws_szDieS.cfg) cfg0 mix rfl rfl rfl rfl rfl .nil .nil rfl Try.func9 (by kernel_rfl) (by kernel_rfl) rfl ((laws_szDieS.run n a0 a1).trans h)

def laws_szDieS.stub : Stub
  | [.one (.sl 6 es), .one (.int .i64 left)] => .gd (decide (0 ≤ left ∧ left ≤ 1048576 ∧ es.length ≤ 9223372036854775807)) (.ret [.one (.int .i64 (Sp.szL left es.length))])
  | _ => .fail
theorem laws_szDieS.ok : StubOk Try.prog C0 9 laws_szDieS.stub := by
  intro args res h
  unfold laws_szDieS.stub at h
  split at h
  · rename_i es left
    obtain ⟨h1, h2⟩ := gd_out h
    have h1 := of_decide_eq_true h1
    cases h2
    refine laws_szDieS.ev (n := 0) ?_
    unfold laws_szDieS.res Sp.szL
    rw [wrap_in (by omega) (by omega)]
    by_cases h3 : left - (es.length : Int) < 0 <;> simp [h3]
  · cases h
end Go.Proofs.EV.PL
set_option linter.unusedVariables false
set_option linter.unusedSimpArgs false
/-! Pairs of dice, and loops. -/
namespace Go.Proofs.EV.PL
open Go Go.Proofs Go.Proofs.EV Sp
/-! spec_clPower -/
noncomputable def spec_clPower.cfg : Cfg := { C0 with keep := fun | 2 => some [0, 1, 5] | _ => none, nb := 0, M := tabM [], MM := tabB [] }
noncomputable def spec_clPower.l2 (n : Nat) (m2 : Nat) (i0 : Int) (i1 : Int) (i2 : Int) : Option (List Q) :=
  loopAt spec_clPower.cfg [RK.one (LK.int IntKind.i64)] n Try.f37 [1, 1, 0, 0] [] m2 (St.mk [V.one true (D.int IntKind.i64 i0), V.one true (D.int IntKind.i64 i1), V.undef, V.undef, V.undef, V.one true (D.int IntKind.i64 i2), V.undef, V.undef, V.undef, V.undef, V.undef, V.undef, V.undef, V.undef] [])
theorem spec_clPower.l2_eq (n : Nat) (m2 : Nat) (i0 : Int) (i1 : Int) (i2 : Int) :
    spec_clPower.l2 n (m2 + 1) i0 i1 i2 = bif decide (i1 > (0 : Int)) then spec_clPower.l2 n m2 i0 (IntKind.wrap IntKind.i64 (i1 - (1 : Int))) (IntKind.wrap IntKind.i64 (i2 * i0)) else some [Q.one (D.int IntKind.i64 i2)] := by kernel_rfl
noncomputable def spec_clPower.res (n : Nat) (a0 : Int) (a1 : Int) : Option (List Q) :=
  spec_clPower.l2 n n a0 a1 (1 : Int)
theorem spec_clPower.run (n : Nat) (a0 : Int) (a1 : Int) :
    run1 spec_clPower.cfg [RK.one (LK.int IntKind.i64)] n Try.f37 [Q.one (D.int IntKind.i64 a0), Q.one (D.int IntKind.i64 a1)] = spec_clPower.res n a0 a1 := by kernel_rfl
theorem spec_clPower.ev {n : Nat} {a0 : Int} {a1 : Int} {r : List Q} (h : spec_clPower.res n a0 a1 = some r) : Snd Try.prog C0 37 [.one (.int .i64 a0), .one (.int .i64 a1)] r :=
  snd_ev (C := spec_clPower.cfg) cfg0 mix rfl rfl rfl rfl rfl .nil .nil rfl Try.func37 (by kernel_rfl) (by kernel_rfl) rfl ((spec_clPower.run n a0 a1).trans h)

def spec_clPower.stub : Stub
  | [.one (.int .i64 k), .one (.int .i64 n)] => .gd (Sp.okPow k n) (.ret [.one (.int .i64 (Sp.pow k n))])
  | _ => .fail
theorem spec_clPower.ok : StubOk Try.prog C0 37 spec_clPower.stub := by
  intro args res h
  unfold spec_clPower.stub at h
  split at h
  · rename_i k n
    obtain ⟨h1, h2⟩ := gd_out h
    have h1 := of_decide_eq_true h1
    cases h2
    refine spec_clPower.ev (n := 10) ?_
    obtain ⟨ha, hb, hc, hd⟩ := h1
    rcases (show k = 1 ∨ k = 2 ∨ k = 3 ∨ k = 4 ∨ k = 5 ∨ k = 6 ∨ k = 7 ∨ k = 8 ∨ k = 9 by omega) with rfl | rfl | rfl | rfl | rfl | rfl | rfl | rfl | rfl <;>
    rcases (show n = 0 ∨ n = 1 ∨ n = 2 ∨ n = 3 ∨ n = 4 ∨ n = 5 ∨ n = 6 by omega) with rfl | rfl | rfl | rfl | rfl | rfl | rfl <;> kernel_rfl
  · cases h
/-! impl_power -/
noncomputable def impl_power.cfg : Cfg := { C0 with keep := fun | 3 => some [0, 5, 6, 7] | _ => none, nb := 0, M := tabM [], MM := tabB [] }
noncomputable def impl_power.l3 (n : Nat) (m3 : Nat) (i0 : Int) (i1 : Int) (i2 : Int) (i3 : Int) : Option (List Q) :=
  loopAt impl_power.cfg [RK.one (LK.int IntKind.i64)] n Try.f43 [1, 1, 0, 1, 0] [] m3 (St.mk [V.one true (D.int IntKind.i64 i0), V.undef, V.undef, V.undef, V.undef, V.one true (D.int IntKind.i64 i1), V.one true (D.int IntKind.i64 i2), V.one true (D.int IntKind.i64 i3), V.undef, V.undef, V.undef, V.undef, V.undef, V.undef] [])
theorem impl_power.l3_eq (n : Nat) (m3 : Nat) (i0 : Int) (i1 : Int) (i2 : Int) (i3 : Int) :
    impl_power.l3 n (m3 + 1) i0 i1 i2 i3 = bif decide (i3 < i2) then impl_power.l3 n m3 i0 (IntKind.wrap IntKind.i64 (i1 * i0)) i2 (IntKind.wrap IntKind.i64 (i3 + (1 : Int))) else some [Q.one (D.int IntKind.i64 i1)] := by kernel_rfl
noncomputable def impl_power.res (n : Nat) (a0 : Int) (a1 : Int) : Option (List Q) :=
  impl_power.l3 n n a0 (1 : Int) a1 (0 : Int)
theorem impl_power.run (n : Nat) (a0 : Int) (a1 : Int) :
    run1 impl_power.cfg [RK.one (LK.int IntKind.i64)] n Try.f43 [Q.one (D.int IntKind.i64 a0), Q.one (D.int IntKind.i64 a1)] = impl_power.res n a0 a1 := by kernel_rfl
theorem impl_power.ev {n : Nat} {a0 : Int} {a1 : Int} {r : List Q} (h : impl_power.res n a0 a1 = some r) : Snd Try.prog C0 43 [.one (.int .i64 a0), .one (.int .i64 a1)] r :=
  snd_ev (C := impl_power.cfg) cfg0 mix rfl rfl rfl rfl rfl .nil .nil rfl Try.func43 (by kernel_rfl) (by kernel_rfl) rfl ((impl_power.run n a0 a1).trans h)

def impl_power.stub : Stub
  | [.one (.int .i64 k), .one (.int .i64 n)] => .gd (Sp.okPow k n) (.ret [.one (.int .i64 (Sp.pow k n))])
  | _ => .fail
theorem impl_power.ok : StubOk Try.prog C0 43 impl_power.stub := by
  intro args res h
  unfold impl_power.stub at h
  split at h
  · rename_i k n
    obtain ⟨h1, h2⟩ := gd_out h
    have h1 := of_decide_eq_true h1
    cases h2
    refine impl_power.ev (n := 10) ?_
    obtain ⟨ha, hb, hc, hd⟩ := h1
    rcases (show k = 1 ∨ k = 2 ∨ k = 3 ∨ k = 4 ∨ k = 5 ∨ k = 6 ∨ k = 7 ∨ k = 8 ∨ k = 9 by omega) with rfl | rfl | rfl | rfl | rfl | rfl | rfl | rfl | rfl <;>
    rcases (show n = 0 ∨ n = 1 ∨ n = 2 ∨ n = 3 ∨ n = 4 ∨ n = 5 ∨ n = 6 by omega) with rfl | rfl | rfl | rfl | rfl | rfl | rfl <;> kernel_rfl
  · cases h
/-! spec_clPair -/
noncomputable def spec_clPair.cfg : Cfg := { C0 with keep := fun _ => none, nb := 0, M := tabM [], MM := tabB [] }
noncomputable def spec_clPair.res (n : Nat) (a0 : Int) (a1 : Int) : Option (List Q) :=
  bif decide (a0 > a1) then some [Q.one (D.sl (nat_lit 1) [[D.int IntKind.i64 a1], [D.int IntKind.i64 a0]])] else some [Q.one (D.sl (nat_lit 1) [[D.int IntKind.i64 a0], [D.int IntKind.i64 a1]])]
theorem spec_clPair.run (n : Nat) (a0 : Int) (a1 : Int) :
    run1 spec_clPair.cfg [RK.own (1 : Nat)] n Try.f48 [Q.one (D.int IntKind.i64 a0), Q.one (D.int IntKind.i64 a1)] = spec_clPair.res n a0 a1 := by kernel_rfl
theorem spec_clPair.ev {n : Nat} {a0 : Int} {a1 : Int} {r : List Q} (h : spec_clPair.res n a0 a1 = some r) : Snd Try.prog C0 48 [.one (.int .i64 a0), .one (.int .i64 a1)] r :=
  snd_ev (C := spec_clPair.cfg) cfg0 mix rfl rfl rfl rfl rfl .nil .nil rfl Try.func48 (by kernel_rfl) (by kernel_rfl) rfl ((spec_clPair.run n a0 a1).trans h)

def spec_clPair.stub : Stub
  | [.one (.int .i64 a), .one (.int .i64 b)] => .ret [.one (.sl 1 [[.int .i64 (min a b)], [.int .i64 (max a b)]])]
  | _ => .fail
theorem spec_clPair.ok : StubOk Try.prog C0 48 spec_clPair.stub := by
  intro args res h
  unfold spec_clPair.stub at h
  split at h
  · rename_i a b
    cases h
    refine spec_clPair.ev (n := 0) ?_
    unfold spec_clPair.res
    by_cases h : a > b
    · have h1 : min a b = b := by omega
      have h2 : max a b = a := by omega
      simp [h, h1, h2]
    · have h1 : min a b = a := by omega
      have h2 : max a b = b := by omega
      simp [h, h1, h2]
  · cases h
/-! spec_clPairs -/
noncomputable def spec_clPairs.cfg : Cfg := { C0 with keep := fun _ => none, nb := 0, M := tabM [(48, spec_clPair.stub)], MM := tabB [] }
noncomputable def spec_clPairs.res (n : Nat) (a0_0 : Int) (a0_1 : Int) (a0_2 : Int) (a0_3 : Int) (a0_4 : Int) (a0_5 : Int) : Option (List Q) :=
  some [Q.one (D.sl (nat_lit 1) [[D.sl (1 : Nat) [[D.int IntKind.i64 (min a0_1 a0_3)], [D.int IntKind.i64 (max a0_1 a0_3)]]], [D.sl (1 : Nat) [[D.int IntKind.i64 (min a0_2 a0_4)], [D.int IntKind.i64 (max a0_2 a0_4)]]], [D.sl (1 : Nat) [[D.int IntKind.i64 (min a0_0 a0_5)], [D.int IntKind.i64 (max a0_0 a0_5)]]]])]
theorem spec_clPairs.run (n : Nat) (a0_0 : Int) (a0_1 : Int) (a0_2 : Int) (a0_3 : Int) (a0_4 : Int) (a0_5 : Int) :
    run1 spec_clPairs.cfg [RK.own (1 : Nat)] n Try.f38 [Q.agg [D.int IntKind.i64 a0_0, D.int IntKind.i64 a0_1, D.int IntKind.i64 a0_2, D.int IntKind.i64 a0_3, D.int IntKind.i64 a0_4, D.int IntKind.i64 a0_5]] = spec_clPairs.res n a0_0 a0_1 a0_2 a0_3 a0_4 a0_5 := by kernel_rfl
theorem spec_clPairs.ev {n : Nat} {a0_0 : Int} {a0_1 : Int} {a0_2 : Int} {a0_3 : Int} {a0_4 : Int} {a0_5 : Int} {r : List Q} (h : spec_clPairs.res n a0_0 a0_1 a0_2 a0_3 a0_4 a0_5 = some r) : Snd Try.prog C0 38 [.agg [.int .i64 a0_0, .int .i64 a0_1, .int .i64 a0_2, .int .i64 a0_3, .int .i64 a0_4, .int .i64 a0_5]] r :=
  snd_ev (C := spec_clPairs.cfg) cfg0 mix rfl rfl rfl rfl rfl (.cons spec_clPair.ok .nil) .nil rfl Try.func38 (by kernel_rfl) (by kernel_rfl) rfl ((spec_clPairs.run n a0_0 a0_1 a0_2 a0_3 a0_4 a0_5).trans h)

def spec_clPairs.stub : Stub
  | [.agg [.int .i64 t, .int .i64 n, .int .i64 e, .int .i64 s, .int .i64 w, .int .i64 b]] => .ret [.one (.sl 1 (rowC.encs (Sp.pairs ⟨t, n, e, s, w, b⟩)))]
  | _ => .fail
theorem spec_clPairs.ok : StubOk Try.prog C0 38 spec_clPairs.stub := by
  intro args res h
  unfold spec_clPairs.stub at h
  split at h
  · cases h; exact spec_clPairs.ev (n := 0) rfl
  · cases h
/-! impl_Die_pairs -/
noncomputable def impl_Die_pairs.cfg : Cfg := { C0 with keep := fun | 3 => some [3, 22, 23] | _ => none, nb := 0, M := tabM [], MM := tabB [] }
noncomputable def impl_Die_pairs.l3 (n : Nat) (m3 : Nat) (i0 : Int) (i1 : Int) (i2 : Int) (i3 : Int) (i4 : Int) (i5 : Int) (i6 : Int) (l7 : List (List D)) : Option (List Q) :=
  loopAt impl_Die_pairs.cfg [RK.own (1 : Nat)] n Try.f44 [1, 1, 0, 1, 0] [] m3 (St.mk [V.undef, V.undef, V.undef, V.rw (nat_lit 0), V.undef, V.undef, V.undef, V.undef, V.undef, V.undef, V.undef, V.undef, V.undef, V.undef, V.undef, V.undef, V.undef, V.undef, V.undef, V.undef, V.undef, V.undef, V.agg [V.one true (D.int IntKind.i64 i0), V.one true (D.int IntKind.i64 i1), V.one true (D.int IntKind.i64 i2), V.one true (D.int IntKind.i64 i3), V.one true (D.int IntKind.i64 i4), V.one true (D.int IntKind.i64 i5)], V.one true (D.int IntKind.i64 i6), V.undef, V.undef, V.undef, V.undef, V.undef, V.undef, V.undef, V.undef, V.undef, V.undef, V.undef, V.undef, V.undef, V.undef, V.undef, V.undef, V.undef, V.undef] [Ob.row false (nat_lit 1) l7])
theorem impl_Die_pairs.l3_eq (n : Nat) (m3 : Nat) (i0 : Int) (i1 : Int) (i2 : Int) (i3 : Int) (i4 : Int) (i5 : Int) (i6 : Int) (l7 : List (List D)) :
    impl_Die_pairs.l3 n (m3 + 1) i0 i1 i2 i3 i4 i5 i6 l7 = bif decide (i6 < (3 : Int)) then bif decide ((0 : Int) ≤ i6) then bif decide (i6 < (3 : Int)) then bif decide (List.length l7 + (1 : Nat) ≤ nat_lit 17179869184) then impl_Die_pairs.l3 n m3 i0 i1 i2 i3 i4 i5 (IntKind.wrap IntKind.i64 (i6 + (1 : Int))) (l7 ++ [[D.sl (nat_lit 1) [[D.int IntKind.i64 (min (List.getD [i0, i1, i2, i3, i4, i5] (Int.toNat i6 * nat_lit 2 + nat_lit 0) (0 : Int)) (List.getD [i0, i1, i2, i3, i4, i5] (Int.toNat i6 * nat_lit 2 + nat_lit 1) (0 : Int)))], [D.int IntKind.i64 (max (List.getD [i0, i1, i2, i3, i4, i5] (Int.toNat i6 * nat_lit 2 + nat_lit 0) (0 : Int)) (List.getD [i0, i1, i2, i3, i4, i5] (Int.toNat i6 * nat_lit 2 + nat_lit 1) (0 : Int)))]]]]) else none else none else none else some [Q.one (D.sl (nat_lit 1) l7)] := by kernel_rfl
noncomputable def impl_Die_pairs.res (n : Nat) (a0_0 : Int) (a0_1 : Int) (a0_2 : Int) (a0_3 : Int) (a0_4 : Int) (a0_5 : Int) : Option (List Q) :=
  impl_Die_pairs.l3 n n a0_1 a0_3 a0_2 a0_4 a0_0 a0_5 (0 : Int) []
theorem impl_Die_pairs.run (n : Nat) (a0_0 : Int) (a0_1 : Int) (a0_2 : Int) (a0_3 : Int) (a0_4 : Int) (a0_5 : Int) :
    run1 impl_Die_pairs.cfg [RK.own (1 : Nat)] n Try.f44 [Q.agg [D.int IntKind.i64 a0_0, D.int IntKind.i64 a0_1, D.int IntKind.i64 a0_2, D.int IntKind.i64 a0_3, D.int IntKind.i64 a0_4, D.int IntKind.i64 a0_5]] = impl_Die_pairs.res n a0_0 a0_1 a0_2 a0_3 a0_4 a0_5 := by kernel_rfl
theorem impl_Die_pairs.ev {n : Nat} {a0_0 : Int} {a0_1 : Int} {a0_2 : Int} {a0_3 : Int} {a0_4 : Int} {a0_5 : Int} {r : List Q} (h : impl_Die_pairs.res n a0_0 a0_1 a0_2 a0_3 a0_4 a0_5 = some r) : Snd Try.prog C0 44 [.agg [.int .i64 a0_0, .int .i64 a0_1, .int .i64 a0_2, .int .i64 a0_3, .int .i64 a0_4, .int .i64 a0_5]] r :=
  snd_ev (C := impl_Die_pairs.cfg) cfg0 mix rfl rfl rfl rfl rfl .nil .nil rfl Try.func44 (by kernel_rfl) (by kernel_rfl) rfl ((impl_Die_pairs.run n a0_0 a0_1 a0_2 a0_3 a0_4 a0_5).trans h)

def impl_Die_pairs.stub : Stub
  | [.agg [.int .i64 t, .int .i64 n, .int .i64 e, .int .i64 s, .int .i64 w, .int .i64 b]] => .ret [.one (.sl 1 (rowC.encs (Sp.pairs ⟨t, n, e, s, w, b⟩)))]
  | _ => .fail
theorem impl_Die_pairs.ok : StubOk Try.prog C0 44 impl_Die_pairs.stub := by
  intro args res h
  unfold impl_Die_pairs.stub at h
  split at h
  · rename_i t n e s w b
    cases h; refine impl_Die_pairs.ev (n := 5) ?_
    kernel_rfl
  · cases h
/-! spec_clLoops -/
noncomputable def spec_clLoops.cfg : Cfg := { C0 with keep := fun | 4 => some [0, 3, 4, 5] | 9 => some [0, 3, 4, 5, 6, 7, 8] | 16 => some [0, 3, 4, 5, 6, 9, 10, 44, 45, 46] | 19 => some [0, 3, 4, 5, 6, 9, 10, 44, 45, 46, 58, 59, 60] | 27 => some [0, 3, 4, 5, 6, 10, 77, 78, 79] | _ => none, nb := 0, M := tabM [(37, spec_clPower.stub), (38, spec_clPairs.stub), (35, spec_l1In.stub)], MM := tabB [] }
noncomputable def spec_clLoops.l4 (n : Nat) (m4 : Nat) (l0 : List (List D)) (i1 : Int) (i2 : Int) (l3 : List (List D)) : Option (List Q) :=
  loopAt spec_clLoops.cfg [RK.own (1 : Nat)] n Try.f23 [1, 1, 1, 0, 1, 0] [] m4 (St.mk [V.one false (D.sl (nat_lit 6) l0), V.undef, V.undef, V.one true (D.int IntKind.i64 i1), V.rw (nat_lit 0), V.one true (D.int IntKind.i64 i2), V.undef, V.undef, V.undef, V.undef, V.undef, V.undef, V.undef, V.undef, V.undef, V.undef, V.undef, V.undef, V.undef, V.undef, V.undef, V.undef, V.undef, V.undef, V.undef, V.undef, V.undef, V.undef, V.undef, V.undef, V.undef, V.undef, V.undef, V.undef, V.undef, V.undef, V.undef, V.undef, V.undef, V.undef, V.undef, V.undef, V.undef, V.undef, V.undef, V.undef, V.undef, V.undef, V.undef, V.undef, V.undef, V.undef, V.undef, V.undef, V.undef, V.undef, V.undef, V.undef, V.undef, V.undef, V.undef, V.undef, V.undef, V.undef, V.undef, V.undef, V.undef, V.undef, V.undef, V.undef, V.undef, V.undef, V.undef, V.undef, V.undef, V.undef, V.undef, V.undef, V.undef, V.undef, V.undef, V.undef, V.undef, V.undef, V.undef, V.undef, V.undef, V.undef, V.undef, V.undef, V.undef, V.undef, V.undef, V.undef, V.undef] [Ob.row false (nat_lit 1) l3])
noncomputable def spec_clLoops.l9 (n : Nat) (m4 : Nat) (m9 : Nat) (l0 : List (List D)) (i1 : Int) (i2 : Int) (i3 : Int) (i4 : Int) (l5 : List (List D)) (l6 : List (List D)) : Option (List Q) :=
  loopAt spec_clLoops.cfg [RK.own (1 : Nat)] n Try.f23 [1, 1, 1, 0, 1, 0, 0, 1, 0, 0, 1, 1, 0, 1, 0] [m4] m9 (St.mk [V.one false (D.sl (nat_lit 6) l0), V.undef, V.undef, V.one true (D.int IntKind.i64 i1), V.rw (nat_lit 0), V.one true (D.int IntKind.i64 i2), V.rw (nat_lit 1), V.one true (D.int IntKind.i64 i3), V.one true (D.int IntKind.i64 i4), V.undef, V.undef, V.undef, V.undef, V.undef, V.undef, V.undef, V.undef, V.undef, V.undef, V.undef, V.undef, V.undef, V.undef, V.undef, V.undef, V.undef, V.undef, V.undef, V.undef, V.undef, V.undef, V.undef, V.undef, V.undef, V.undef, V.undef, V.undef, V.undef, V.undef, V.undef, V.undef, V.undef, V.undef, V.undef, V.undef, V.undef, V.undef, V.undef, V.undef, V.undef, V.undef, V.undef, V.undef, V.undef, V.undef, V.undef, V.undef, V.undef, V.undef, V.undef, V.undef, V.undef, V.undef, V.undef, V.undef, V.undef, V.undef, V.undef, V.undef, V.undef, V.undef, V.undef, V.undef, V.undef, V.undef, V.undef, V.undef, V.undef, V.undef, V.undef, V.undef, V.undef, V.undef, V.undef, V.undef, V.undef, V.undef, V.undef, V.undef, V.undef, V.undef, V.undef, V.undef, V.undef, V.undef] [Ob.row false (nat_lit 1) l5, Ob.row false (nat_lit 1) l6])
noncomputable def spec_clLoops.l16 (n : Nat) (m4 : Nat) (m16 : Nat) (l0 : List (List D)) (i1 : Int) (i2 : Int) (b3 : Bool) (l4 : List (List D)) (i5 : Int) (i6 : Int) (l7 : List (List D)) (l8 : List (List D)) (l9 : List (List D)) : Option (List Q) :=
  loopAt spec_clLoops.cfg [RK.own (1 : Nat)] n Try.f23 [1, 1, 1, 0, 1, 0, 0, 1, 0, 0, 1, 1, 1, 1, 1, 0, 1, 0] [m4] m16 (St.mk [V.one false (D.sl (nat_lit 6) l0), V.undef, V.undef, V.one true (D.int IntKind.i64 i1), V.rw (nat_lit 0), V.one true (D.int IntKind.i64 i2), V.rw (nat_lit 1), V.undef, V.undef, V.rw (nat_lit 2), V.one true (D.bool b3), V.undef, V.undef, V.undef, V.undef, V.undef, V.undef, V.undef, V.undef, V.undef, V.undef, V.undef, V.undef, V.undef, V.undef, V.undef, V.undef, V.undef, V.undef, V.undef, V.undef, V.undef, V.undef, V.undef, V.undef, V.undef, V.undef, V.undef, V.undef, V.undef, V.undef, V.undef, V.undef, V.undef, V.one false (D.sl (nat_lit 6) l4), V.one true (D.int IntKind.i64 i5), V.one true (D.int IntKind.i64 i6), V.undef, V.undef, V.undef, V.undef, V.undef, V.undef, V.undef, V.undef, V.undef, V.undef, V.undef, V.undef, V.undef, V.undef, V.undef, V.undef, V.undef, V.undef, V.undef, V.undef, V.undef, V.undef, V.undef, V.undef, V.undef, V.undef, V.undef, V.undef, V.undef, V.undef, V.undef, V.undef, V.undef, V.undef, V.undef, V.undef, V.undef, V.undef, V.undef, V.undef, V.undef, V.undef, V.undef, V.undef, V.undef, V.undef, V.undef, V.undef] [Ob.row false (nat_lit 1) l7, Ob.row false (nat_lit 1) l8, Ob.row false (nat_lit 1) l9])
noncomputable def spec_clLoops.l19 (n : Nat) (m4 : Nat) (m16 : Nat) (m19 : Nat) (l0 : List (List D)) (i1 : Int) (i2 : Int) (b3 : Bool) (l4 : List (List D)) (i5 : Int) (i6 : Int) (l7 : List (List D)) (i8 : Int) (i9 : Int) (l10 : List (List D)) (l11 : List (List D)) (l12 : List (List D)) : Option (List Q) :=
  loopAt spec_clLoops.cfg [RK.own (1 : Nat)] n Try.f23 [1, 1, 1, 0, 1, 0, 0, 1, 0, 0, 1, 1, 1, 1, 1, 0, 1, 0, 0, 1, 1, 0, 0, 1, 1, 0] [m4, m16] m19 (St.mk [V.one false (D.sl (nat_lit 6) l0), V.undef, V.undef, V.one true (D.int IntKind.i64 i1), V.rw (nat_lit 0), V.one true (D.int IntKind.i64 i2), V.rw (nat_lit 1), V.undef, V.undef, V.rw (nat_lit 2), V.one true (D.bool b3), V.undef, V.undef, V.undef, V.undef, V.undef, V.undef, V.undef, V.undef, V.undef, V.undef, V.undef, V.undef, V.undef, V.undef, V.undef, V.undef, V.undef, V.undef, V.undef, V.undef, V.undef, V.undef, V.undef, V.undef, V.undef, V.undef, V.undef, V.undef, V.undef, V.undef, V.undef, V.undef, V.undef, V.one false (D.sl (nat_lit 6) l4), V.one true (D.int IntKind.i64 i5), V.one true (D.int IntKind.i64 i6), V.undef, V.undef, V.undef, V.undef, V.undef, V.undef, V.undef, V.undef, V.undef, V.undef, V.undef, V.one true (D.sl (nat_lit 1) l7), V.one true (D.int IntKind.i64 i8), V.one true (D.int IntKind.i64 i9), V.undef, V.undef, V.undef, V.undef, V.undef, V.undef, V.undef, V.undef, V.undef, V.undef, V.undef, V.undef, V.undef, V.undef, V.undef, V.undef, V.undef, V.undef, V.undef, V.undef, V.undef, V.undef, V.undef, V.undef, V.undef, V.undef, V.undef, V.undef, V.undef, V.undef, V.undef, V.undef, V.undef, V.undef] [Ob.row false (nat_lit 1) l10, Ob.row false (nat_lit 1) l11, Ob.row false (nat_lit 1) l12])
noncomputable def spec_clLoops.l27 (n : Nat) (m4 : Nat) (m27 : Nat) (l0 : List (List D)) (i1 : Int) (i2 : Int) (b3 : Bool) (j4 : Nat) (i5 : Int) (i6 : Int) (l7 : List (List D)) (l8 : List (List D)) (l9 : List (List D)) : Option (List Q) :=
  loopAt spec_clLoops.cfg [RK.own (1 : Nat)] n Try.f23 [1, 1, 1, 0, 1, 0, 0, 1, 0, 0, 1, 1, 1, 1, 1, 1, 0, 1, 0] [m4] m27 (St.mk [V.one false (D.sl (nat_lit 6) l0), V.undef, V.undef, V.one true (D.int IntKind.i64 i1), V.rw (nat_lit 0), V.one true (D.int IntKind.i64 i2), V.rw (nat_lit 1), V.undef, V.undef, V.undef, V.one true (D.bool b3), V.undef, V.undef, V.undef, V.undef, V.undef, V.undef, V.undef, V.undef, V.undef, V.undef, V.undef, V.undef, V.undef, V.undef, V.undef, V.undef, V.undef, V.undef, V.undef, V.undef, V.undef, V.undef, V.undef, V.undef, V.undef, V.undef, V.undef, V.undef, V.undef, V.undef, V.undef, V.undef, V.undef, V.undef, V.undef, V.undef, V.undef, V.undef, V.undef, V.undef, V.undef, V.undef, V.undef, V.undef, V.undef, V.undef, V.undef, V.undef, V.undef, V.undef, V.undef, V.undef, V.undef, V.undef, V.undef, V.undef, V.undef, V.undef, V.undef, V.undef, V.undef, V.undef, V.undef, V.undef, V.undef, V.undef, V.rs (nat_lit 2) (nat_lit 1) j4, V.one true (D.int IntKind.i64 i5), V.one true (D.int IntKind.i64 i6), V.undef, V.undef, V.undef, V.undef, V.undef, V.undef, V.undef, V.undef, V.undef, V.undef, V.undef, V.undef, V.undef, V.undef, V.undef] [Ob.row false (nat_lit 1) l7, Ob.row false (nat_lit 1) l8, Ob.row false (nat_lit 1) l9])
theorem spec_clLoops.l4_eq (n : Nat) (m4 : Nat) (l0 : List (List D)) (i1 : Int) (i2 : Int) (l3 : List (List D)) :
    spec_clLoops.l4 n (m4 + 1) l0 i1 i2 l3 = bif okPow (3 : Int) i1 then bif decide (i2 < pow (3 : Int) i1) then bif decide ((0 : Int) ≤ i1) then bif decide (i1 ≤ i1) then bif decide (i1 ≤ (17179869184 : Int)) then spec_clLoops.l9 n m4 n l0 i1 i2 i2 (IntKind.wrap IntKind.i64 (i1 - (1 : Int))) l3 (List.replicate (Int.toNat i1) [D.int IntKind.i64 (0 : Int)]) else none else none else none else some [Q.one (D.sl (nat_lit 1) l3)] else none := by kernel_rfl
theorem spec_clLoops.l9_eq (n : Nat) (m4 : Nat) (m9 : Nat) (l0 : List (List D)) (i1 : Int) (i2 : Int) (i3 : Int) (i4 : Int) (l5 : List (List D)) (l6 : List (List D)) :
    spec_clLoops.l9 n m4 (m9 + 1) l0 i1 i2 i3 i4 l5 l6 = bif decide (i4 ≥ (0 : Int)) then bif decide ((0 : Int) ≤ i4) then bif decide (i4 < (↑(List.length l6) : Int)) then spec_clLoops.l9 n m4 m9 l0 i1 i2 (IntKind.wrap IntKind.i64 (Int.tdiv i3 (3 : Int))) (IntKind.wrap IntKind.i64 (i4 - (1 : Int))) l5 (setRow (nat_lit 1) l6 (Int.toNat i4) (0 : Nat) [D.int IntKind.i64 (Int.tmod i3 (3 : Int))]) else none else none else bif decide ((0 : Int) ≤ IntKind.wrap IntKind.i64 (i1 + (1 : Int))) then bif decide (IntKind.wrap IntKind.i64 (i1 + (1 : Int)) ≤ IntKind.wrap IntKind.i64 (i1 + (1 : Int))) then bif decide (IntKind.wrap IntKind.i64 (i1 + (1 : Int)) ≤ (17179869184 : Int)) then spec_clLoops.l16 n m4 n l0 i1 i2 true l0 (↑(List.length l0) : Int) (0 : Int) l5 l6 (List.replicate (Int.toNat (IntKind.wrap IntKind.i64 (i1 + (1 : Int)))) [D.int IntKind.i64 (0 : Int)]) else none else none else none := by kernel_rfl
theorem spec_clLoops.l16_eq (n : Nat) (m4 : Nat) (m16 : Nat) (l0 : List (List D)) (i1 : Int) (i2 : Int) (b3 : Bool) (l4 : List (List D)) (i5 : Int) (i6 : Int) (l7 : List (List D)) (l8 : List (List D)) (l9 : List (List D)) :
    spec_clLoops.l16 n m4 (m16 + 1) l0 i1 i2 b3 l4 i5 i6 l7 l8 l9 = bif decide (i6 < i5) then bif decide ((0 : Int) ≤ i6) then bif decide (i6 < (↑(List.length l4) : Int)) then Option.bind (Option.bind (some (cellD l4 (Int.toNat i6) (0 : Nat))) (D.int? IntKind.i64)) fun (i1_1 : Int) => Option.bind (Option.bind (some (cellD l4 (Int.toNat i6) (1 : Nat))) (D.int? IntKind.i64)) fun (i2_1 : Int) => Option.bind (Option.bind (some (cellD l4 (Int.toNat i6) (2 : Nat))) (D.int? IntKind.i64)) fun (i3 : Int) => Option.bind (Option.bind (some (cellD l4 (Int.toNat i6) (3 : Nat))) (D.int? IntKind.i64)) fun (i4 : Int) => Option.bind (Option.bind (some (cellD l4 (Int.toNat i6) (4 : Nat))) (D.int? IntKind.i64)) fun (i5_1 : Int) => Option.bind (Option.bind (some (cellD l4 (Int.toNat i6) (5 : Nat))) (D.int? IntKind.i64)) fun (i6_1 : Int) => bif decide ((0 : Int) ≤ i6) then bif decide (i6 < (↑(List.length l8) : Int)) then Option.bind (Option.bind (some (cellD l8 (Int.toNat i6) (0 : Nat))) (D.int? IntKind.i64)) fun (i7 : Int) => bif decide ((0 : Int) ≤ i7) then bif decide (i7 < (3 : Int)) then Option.bind (Option.bind (some (cellD (Cod.encs rowC (pairs (Die.mk i1_1 i2_1 i3 i4 i5_1 i6_1))) (Int.toNat i7) (0 : Nat))) (D.sl? (1 : Nat))) fun (l8_1 : List (List D)) => spec_clLoops.l19 n m4 m16 n l0 i1 i2 b3 l4 i5 i6 l8_1 (↑(List.length l8_1) : Int) (0 : Int) l7 l8 l9 else none else none else none else none else none else none else bif decide ((1 : Int) ≤ (↑(List.length l9) : Int)) then spec_clLoops.l27 n m4 n l0 i1 i2 b3 (List.length l9 - Int.toNat (1 : Int)) (↑(List.length l9 - Int.toNat (1 : Int)) : Int) (0 : Int) l7 l8 l9 else none := by kernel_rfl
theorem spec_clLoops.l19_eq (n : Nat) (m4 : Nat) (m16 : Nat) (m19 : Nat) (l0 : List (List D)) (i1 : Int) (i2 : Int) (b3 : Bool) (l4 : List (List D)) (i5 : Int) (i6 : Int) (l7 : List (List D)) (i8 : Int) (i9 : Int) (l10 : List (List D)) (l11 : List (List D)) (l12 : List (List D)) :
    spec_clLoops.l19 n m4 m16 (m19 + 1) l0 i1 i2 b3 l4 i5 i6 l7 i8 i9 l10 l11 l12 = bif decide (i9 < i8) then bif decide ((0 : Int) ≤ i9) then bif decide (i9 < (↑(List.length l7) : Int)) then Option.bind (Option.bind (some (cellD l7 (Int.toNat i9) (0 : Nat))) (D.int? IntKind.i64)) fun (i9_1 : Int) => bif !inR i9_1 (1 : Int) i1 then spec_clLoops.l19 n m4 m16 m19 l0 i1 i2 false l4 i5 i6 l7 i8 (IntKind.wrap IntKind.i64 (i9 + (1 : Int))) l10 l11 l12 else bif decide ((0 : Int) ≤ i9_1) then bif decide (i9_1 < (↑(List.length l12) : Int)) then Option.bind (Option.bind (some (cellD l12 (Int.toNat i9_1) (0 : Nat))) (D.int? IntKind.i64)) fun (i10 : Int) => bif decide ((0 : Int) ≤ i9_1) then bif decide (i9_1 < (↑(List.length l12) : Int)) then spec_clLoops.l19 n m4 m16 m19 l0 i1 i2 b3 l4 i5 i6 l7 i8 (IntKind.wrap IntKind.i64 (i9 + (1 : Int))) l10 l11 (setRow (nat_lit 1) l12 (Int.toNat i9_1) (0 : Nat) [D.int IntKind.i64 (IntKind.wrap IntKind.i64 (i10 + (1 : Int)))]) else none else none else none else none else none else none else spec_clLoops.l16 n m4 m16 l0 i1 i2 b3 l4 i5 (IntKind.wrap IntKind.i64 (i6 + (1 : Int))) l10 l11 l12 := by kernel_rfl
theorem spec_clLoops.l27_eq (n : Nat) (m4 : Nat) (m27 : Nat) (l0 : List (List D)) (i1 : Int) (i2 : Int) (b3 : Bool) (j4 : Nat) (i5 : Int) (i6 : Int) (l7 : List (List D)) (l8 : List (List D)) (l9 : List (List D)) :
    spec_clLoops.l27 n m4 (m27 + 1) l0 i1 i2 b3 j4 i5 i6 l7 l8 l9 = bif decide (i6 < i5) then bif decide ((0 : Int) ≤ i6) then bif decide (i6 < (↑j4 : Int)) then Option.bind (Option.bind (some (cellD l9 (nat_lit 1 + Int.toNat i6) (0 : Nat))) (D.int? IntKind.i64)) fun (i11 : Int) => bif b3 then spec_clLoops.l27 n m4 m27 l0 i1 i2 (i11 == (2 : Int)) j4 i5 (IntKind.wrap IntKind.i64 (i6 + (1 : Int))) l7 l8 l9 else spec_clLoops.l27 n m4 m27 l0 i1 i2 false j4 i5 (IntKind.wrap IntKind.i64 (i6 + (1 : Int))) l7 l8 l9 else none else none else bif b3 then bif decide (List.length l7 + (1 : Nat) ≤ nat_lit 17179869184) then spec_clLoops.l4 n m4 l0 i1 (IntKind.wrap IntKind.i64 (i2 + (1 : Int))) (l7 ++ [[D.sl (nat_lit 1) l8]]) else none else spec_clLoops.l4 n m4 l0 i1 (IntKind.wrap IntKind.i64 (i2 + (1 : Int))) l7 := by kernel_rfl
noncomputable def spec_clLoops.res (n : Nat) (a0 : List (List D)) : Option (List Q) :=
  spec_clLoops.l4 n n a0 (↑(List.length a0) : Int) (0 : Int) []
theorem spec_clLoops.run (n : Nat) (a0 : List (List D)) :
    run1 spec_clLoops.cfg [RK.own (1 : Nat)] n Try.f23 [Q.one (D.sl (6 : Nat) a0)] = spec_clLoops.res n a0 := by kernel_rfl
theorem spec_clLoops.ev {n : Nat} {a0 : List (List D)} {r : List Q} (h : spec_clLoops.res n a0 = some r) : Snd Try.prog C0 23 [.one (.sl 6 a0)] r :=
  snd_ev (C := spec_clLoops.cfg) cfg0 mix rfl rfl rfl rfl rfl (.cons spec_clPower.ok (.cons spec_clPairs.ok (.cons spec_l1In.ok .nil))) .nil rfl Try.func23 (by kernel_rfl) (by kernel_rfl) rfl ((spec_clLoops.run n a0).trans h)

theorem td3 (c : Nat) : Int.tdiv (c : Int) 3 = ((c / 3 : Nat) : Int) := by
  rw [Int.tdiv_eq_ediv_of_nonneg (by omega)]; omega
theorem tm3 (c : Nat) : Int.tmod (c : Int) 3 = ((c % 3 : Nat) : Int) := by
  rw [Int.tmod_eq_emod_of_nonneg (by omega)]; omega
theorem set_mid {α : Type} (pre tl : List α) (x y : α) : (pre ++ [x] ++ tl).set pre.length y = pre ++ y :: tl := by
  rw [List.append_assoc, List.set_append_right _ _ (Nat.le_refl _), Nat.sub_self]; rfl
theorem digits_succ (k c : Nat) (tl : List Int) : digits (k + 1) c ++ tl = digits k (c / 3) ++ ((c % 3 : Nat) : Int) :: tl := by
  simp [digits]
theorem spec_clLoops.l9_run {n m4 N : Nat} {l0 out : List (List D)} {i2 : Int} (hN : N ≤ 1000) : ∀ (k m9 c : Nat) (pre tl : List Int), pre.length = k → pre.length + tl.length = N → k < m9 → c ≤ 1000 →
    spec_clLoops.l9 n m4 m9 l0 N i2 c ((k : Int) - 1) out (intC.encs (pre ++ tl)) = spec_clLoops.l16 n m4 n l0 N i2 true l0 l0.length 0 out (intC.encs (digits k c ++ tl)) (intC.encs (List.replicate (N + 1) 0)) := by
  intro k
  induction k with
  | zero =>
    intro m9 c pre tl hp hl hm hc
    obtain ⟨m, rfl⟩ : ∃ m', m9 = m' + 1 := ⟨m9 - 1, by omega⟩
    obtain rfl : pre = [] := List.eq_nil_of_length_eq_zero hp
    have h3 : (N : Int) + 1 ≤ 17179869184 := by omega
    have h4 : ((N : Int) + 1).toNat = N + 1 := by omega
    rw [spec_clLoops.l9_eq, wrap_in (x := (N : Int) + 1) (by omega) (by omega), intC_rep, h4]
    have g1 : ¬ (((0 : Nat) : Int) - 1 ≥ 0) := by omega
    have g2 : (0 : Int) ≤ (N : Int) + 1 := by omega
    simp only [g1, g2, h3, Int.le_refl, decide_true, decide_false, cond_true, cond_false, digits, List.nil_append]
  | succ k ih =>
    intro m9 c pre tl hp hl hm hc
    obtain ⟨m, rfl⟩ : ∃ m', m9 = m' + 1 := ⟨m9 - 1, by omega⟩
    rcases List.eq_nil_or_concat pre with rfl | ⟨pre, x, rfl⟩
    · cases hp
    rw [List.concat_eq_append] at hp hl ⊢
    have hp : pre.length = k := by simpa using hp
    have e1 : (((k + 1 : Nat) : Int)) - 1 = k := by omega
    have e2 : (k : Int) < (((pre ++ [x] ++ tl).length : Nat) : Int) := by simp; omega
    rw [spec_clLoops.l9_eq, e1, wrap_in (x := (k : Int) - 1) (by omega) (by omega), td3, tm3, wrap_in (x := ((c / 3 : Nat) : Int)) (by omega) (by omega)]
    simp only [Cod.encs_len, e2, ge_iff_le, Int.natCast_nonneg, decide_true, cond_true, Int.toNat_natCast, intC_set]
    have := set_mid pre tl x ((c % 3 : Nat) : Int)
    rw [hp] at this
    rw [this, ih m (c / 3) pre _ hp (by simp at hl ⊢; omega) (by omega) (by omega), digits_succ]
theorem inR_true {x : Int} {lo hi : Int} (h : inR x lo hi = true) : lo ≤ x ∧ x ≤ hi := by
  unfold inR at h
  simpa using h
theorem spec_clLoops.l19_run {n m4 m16 N : Nat} {l0 l4 out ch : List (List D)} {i2 i5 i6 : Int} {row : List Int} (hr : row.length ≤ LIM) : ∀ (d j m19 : Nat) (b : Bool) (L : List Int), L.length = N + 1 → j + d = row.length → d < m19 →
    spec_clLoops.l19 n m4 m16 m19 l0 N i2 b l4 i5 i6 (intC.encs row) row.length j out ch (intC.encs L) = spec_clLoops.l16 n m4 m16 l0 N i2 (tallyS N b L (row.drop j)).1 l4 i5 (IntKind.wrap .i64 (i6 + 1)) out ch (intC.encs (tallyS N b L (row.drop j)).2) := by
  intro d
  induction d with
  | zero =>
    intro j m19 b L hL hj hm
    obtain ⟨m, rfl⟩ : ∃ m', m19 = m' + 1 := ⟨m19 - 1, by omega⟩
    obtain rfl : j = row.length := by omega
    simp [spec_clLoops.l19_eq, tallyS]
  | succ d ih =>
    intro j m19 b L hL hj hm
    obtain ⟨m, rfl⟩ : ∃ m', m19 = m' + 1 := ⟨m19 - 1, by omega⟩
    have hlt : j < row.length := by omega
    rw [spec_clLoops.l19_eq, List.drop_eq_getElem_cons hlt, tallyS]
    simp only [Cod.encs_len, Int.ofNat_lt, hlt, decide_true, cond_true, Int.natCast_nonneg, Int.toNat_natCast, intC_int hlt, Option.bind_some, wrap_succ (show j ≤ LIM by omega)]
    cases h : inR row[j] 1 N with
    | false =>
      simp only [Bool.not_false, cond_true, cond_false]
      exact ih (j + 1) m false L hL (by omega) (by omega)
    | true =>
      obtain ⟨h1, h2⟩ := inR_true h
      have h3 : row[j].toNat < L.length := by omega
      have h4 : row[j] < (L.length : Int) := by omega
      have h5 : 0 ≤ row[j] := by omega
      simp only [Bool.not_true, cond_true, cond_false, h4, h5, decide_true, intC_int' h3, Option.bind_some, intC_set]
      have h6 : L.set row[j].toNat (IntKind.wrap .i64 (L[row[j].toNat] + 1)) = bump L row[j] := by
        unfold bump; rw [getD_of_lt h3]
      rw [h6]
      exact ih (j + 1) m b _ (by rw [bump_len]; exact hL) (by omega) (by omega)
theorem nums_drop {dice : List Die} {ch : List Int} {k : Nat} (h : k < dice.length) (h' : k < ch.length) : nums (dice.drop k) (ch.drop k) = Sp.rowAt dice[k] ch[k] ++ nums (dice.drop (k + 1)) (ch.drop (k + 1)) := by
  unfold nums
  rw [List.drop_eq_getElem_cons h, List.drop_eq_getElem_cons h', List.zipWith_cons_cons, List.flatten_cons]
theorem rowAt_eq (d : Die) {c : Int} (h : 0 ≤ c ∧ c < 3) : D.sl? 1 (cellD (rowC.encs (pairs d)) c.toNat 0) = some (intC.encs (Sp.rowAt d c)) := by
  rw [show D.sl? 1 (cellD (rowC.encs (pairs d)) c.toNat 0) = _ from rowC_cell (show c.toNat < (pairs d).length from by show c.toNat < 3; omega)]
  unfold Sp.rowAt
  rw [getD_of_lt]
theorem spec_clLoops.l16_run {n m4 N : Nat} {l0 out : List (List D)} {i2 : Int} {dice : List Die} {ch : List Int} (hl : dice.length ≤ LIM) (hc : ch.length = dice.length) (hi : ∀ x ∈ ch, 0 ≤ x ∧ x < 3) (hn : 2 < n) : ∀ (d k m16 : Nat) (b : Bool) (L : List Int), L.length = N + 1 → k + d = dice.length → d < m16 →
    spec_clLoops.l16 n m4 m16 l0 N i2 b (dieC.encs dice) dice.length k out (intC.encs ch) (intC.encs L) = spec_clLoops.l27 n m4 n l0 N i2 (tallyS N b L (nums (dice.drop k) (ch.drop k))).1 N N 0 out (intC.encs ch) (intC.encs (tallyS N b L (nums (dice.drop k) (ch.drop k))).2) := by
  intro d
  induction d with
  | zero =>
    intro k m16 b L hL hk hm
    obtain ⟨m, rfl⟩ : ∃ m', m16 = m' + 1 := ⟨m16 - 1, by omega⟩
    obtain rfl : k = dice.length := by omega
    have h1 : ¬ (dice.length : Int) < dice.length := by omega
    have h2 : (1 : Int) ≤ (L.length : Int) := by omega
    have h3 : L.length - Int.toNat 1 = N := by rw [hL]; rfl
    rw [spec_clLoops.l16_eq]
    simp only [h1, decide_false, cond_false, Cod.encs_len, h2, decide_true, cond_true, h3, List.drop_length, nums, List.zipWith_nil_left, List.flatten_nil, tallyS]
  | succ d ih =>
    intro k m16 b L hL hk hm
    obtain ⟨m, rfl⟩ : ∃ m', m16 = m' + 1 := ⟨m16 - 1, by omega⟩
    have hlt : k < dice.length := by omega
    have hlt' : k < ch.length := by omega
    have hc3 := hi ch[k] (List.getElem_mem hlt')
    rw [spec_clLoops.l16_eq, nums_drop hlt hlt', tallyS_append]
    simp only [Cod.encs_len, Int.ofNat_lt, hlt, hlt', decide_true, cond_true, Int.natCast_nonneg, Int.toNat_natCast, dieC_t hlt, dieC_n hlt, dieC_e hlt, dieC_s hlt, dieC_w hlt, dieC_b hlt, Option.bind_some, Die.eta, intC_int hlt', hc3.1, hc3.2, rowAt_eq dice[k] hc3]
    rw [show (0 : Int) = ((0 : Nat) : Int) from rfl, spec_clLoops.l19_run (row := Sp.rowAt dice[k] ch[k]) (by rw [rowAt_len _ hc3]; decide) 2 0 n b L hL (by rw [rowAt_len _ hc3]) hn, wrap_succ (by omega), List.drop_zero]
    exact ih (k + 1) m _ _ (by rw [tallyS_eq]; simpa using hL) (by omega) (by omega)
theorem spec_clLoops.l27_run {n m4 N : Nat} {l0 out ch : List (List D)} {i2 : Int} {L : List Int} (hL : L.length = N + 1) (hN : N ≤ 1000) : ∀ (d j m : Nat) (b : Bool), j + d = N → d < m →
    spec_clLoops.l27 n m4 m l0 N i2 b N N j out ch (intC.encs L) = bif b && (L.drop (1 + j)).all (fun x => decide (x = 2)) then (bif decide (out.length + 1 ≤ 17179869184) then spec_clLoops.l4 n m4 l0 N (IntKind.wrap .i64 (i2 + 1)) (out ++ [[D.sl 1 ch]]) else none) else spec_clLoops.l4 n m4 l0 N (IntKind.wrap .i64 (i2 + 1)) out := by
  intro d
  induction d with
  | zero =>
    intro j m b hj hm
    obtain ⟨m, rfl⟩ : ∃ m', m = m' + 1 := ⟨m - 1, by omega⟩
    obtain rfl : j = N := by omega
    have h1 : ¬ (j : Int) < j := by omega
    rw [spec_clLoops.l27_eq, List.drop_of_length_le (by omega)]
    simp only [h1, decide_false, cond_false, List.all_nil, Bool.and_true]
  | succ d ih =>
    intro j m b hj hm
    obtain ⟨m, rfl⟩ : ∃ m', m = m' + 1 := ⟨m - 1, by omega⟩
    have hlt : j < N := by omega
    have hlt' : 1 + j < L.length := by omega
    rw [spec_clLoops.l27_eq, List.drop_eq_getElem_cons hlt']
    simp only [Int.ofNat_lt, hlt, decide_true, cond_true, Int.natCast_nonneg, Int.toNat_natCast, intC_int hlt', Option.bind_some, wrap_succ (show j ≤ LIM by unfold LIM; omega)]
    rw [ih (j + 1) m _ (by omega) (by omega), ih (j + 1) m _ (by omega) (by omega), List.all_cons, show 1 + j + 1 = 1 + (j + 1) by omega]
    cases b
    · simp only [Bool.false_and, cond_false]
    · simp only [cond_true, Bool.true_and, ieq]
theorem count_filter_in (xs : List Int) (N v : Nat) (h : v < N) : (xs.filter fun x => inR x 1 N).count ((v + 1 : Nat) : Int) = xs.count ((v + 1 : Nat) : Int) := by
  rw [List.count_filter]
  unfold inR
  simp
  omega
theorem spec_good {dice : List Die} {ch : List Int} (h1 : 1 ≤ dice.length) (h4 : dice.length ≤ 4) (hl : (nums dice ch).length = 2 * dice.length) :
    ((tallyS dice.length true (List.replicate (dice.length + 1) 0) (nums dice ch)).1 && ((tallyS dice.length true (List.replicate (dice.length + 1) 0) (nums dice ch)).2.drop 1).all fun x => decide (x = 2)) = isLoop dice.length (nums dice ch) := by
  rw [tallyS_eq]
  dsimp only
  rw [all_range_drop _ dice.length (by simp)]
  have : ((List.range dice.length).all fun v => decide ((tallyI (List.replicate (dice.length + 1) 0) ((nums dice ch).filter fun x => inR x 1 dice.length)).getD (v + 1) 0 = 2)) = isLoop dice.length (nums dice ch) := by
    unfold isLoop
    rw [Bool.eq_iff_iff, List.all_eq_true, List.all_eq_true]
    refine forall_congr' fun v => forall_congr' fun hv => ?_
    have hv := List.mem_range.1 hv
    have h7 : ∀ x ∈ (nums dice ch).filter fun x => inR x 1 dice.length, 0 ≤ x ∧ x.toNat < (List.replicate (dice.length + 1) (0 : Int)).length := by
      intro x hx
      have := inR_true (List.mem_filter.1 hx).2
      simp; omega
    have h8 := List.length_filter_le (fun x => inR x 1 dice.length) (nums dice ch)
    rw [tallyI_get _ _ 0 h7 (fun u => by rw [getD_rep]; omega) (by omega) (v + 1) (by simp; omega), getD_rep, count_filter_in _ _ _ hv]
    simp; omega
  rw [this, Bool.true_and]
  cases h : isLoop dice.length (nums dice ch)
  · simp
  · rw [loop_range h1 h4 hl h]; rfl
theorem nums_len : ∀ (dice : List Die) (ch : List Int), ch.length = dice.length → (∀ x ∈ ch, 0 ≤ x ∧ x < 3) → (nums dice ch).length = 2 * dice.length
  | [], _, _, _ => by simp [nums]
  | d :: dice, c :: ch, h, hi => by
    have := nums_len dice ch (by simpa using h) (fun x hx => hi x (List.mem_cons_of_mem _ hx))
    have h2 := rowAt_len d (hi c List.mem_cons_self)
    unfold nums at this ⊢
    rw [List.zipWith_cons_cons, List.flatten_cons, List.length_append, this, h2, List.length_cons]
    omega
theorem pow3 (N : Nat) : pow 3 N = ((3 ^ N : Nat) : Int) := by
  unfold pow
  simp
theorem spec_clLoops.l4_run {n : Nat} {dice : List Die} (h1 : 1 ≤ dice.length) (h4 : dice.length ≤ 4) (hn : 10 ≤ n) : ∀ (d c m4 : Nat) (out : List (List Int)), c + d = 3 ^ dice.length → d < m4 → out.length ≤ c →
    spec_clLoops.l4 n m4 (dieC.encs dice) dice.length c (rowC.encs out) = some [Q.one (.sl 1 (rowC.encs (out ++ ((List.range' c d).map (digits dice.length)).filter fun ch => isLoop dice.length (nums dice ch))))] := by
  have h81 : 3 ^ dice.length ≤ 81 := Nat.le_trans (Nat.pow_le_pow_right (by decide) h4) (by decide)
  intro d
  induction d with
  | zero =>
    intro c m4 out hc hm ho
    obtain ⟨m, rfl⟩ : ∃ m', m4 = m' + 1 := ⟨m4 - 1, by omega⟩
    have hg : okPow 3 dice.length = true := by unfold okPow; simp; omega
    have h2 : ¬ (c : Int) < ((3 ^ dice.length : Nat) : Int) := by omega
    rw [spec_clLoops.l4_eq, pow3]
    simp only [hg, h2, decide_true, cond_true, decide_false, cond_false, List.range'_zero, List.map_nil, List.filter_nil, List.append_nil, true_and, and_self]
  | succ d ih =>
    intro c m4 out hc hm ho
    obtain ⟨m, rfl⟩ : ∃ m', m4 = m' + 1 := ⟨m4 - 1, by omega⟩
    have hg : okPow 3 dice.length = true := by unfold okPow; simp; omega
    have h2 : (c : Int) < ((3 ^ dice.length : Nat) : Int) := by omega
    have h3 : (dice.length : Int) ≤ 17179869184 := by omega
    rw [spec_clLoops.l4_eq, pow3, wrap_in (x := (dice.length : Int) - 1) (by omega) (by omega), intC_rep]
    simp only [hg, h2, h3, decide_true, cond_true, Int.natCast_nonneg, Int.le_refl, Int.toNat_natCast, true_and, and_self]
    have e := spec_clLoops.l9_run (n := n) (m4 := m) (N := dice.length) (l0 := dieC.encs dice) (out := rowC.encs out) (i2 := c) (by omega) dice.length n c (List.replicate dice.length 0) [] (by simp) (by simp) (by omega) (by omega)
    rw [List.append_nil, List.append_nil] at e
    rw [e]
    have hd : (digits dice.length c).length = dice.length := digits_len _ _
    have hdi := digits_in dice.length c
    have hnl := nums_len dice _ hd hdi
    rw [Cod.encs_len]
    have e2 := spec_clLoops.l16_run (n := n) (m4 := m) (N := dice.length) (l0 := dieC.encs dice) (out := rowC.encs out) (i2 := c) (dice := dice) (ch := digits dice.length c) (by unfold LIM; omega) hd hdi (by omega) dice.length 0 n true (List.replicate (dice.length + 1) 0) (by simp) (by omega) (by omega)
    rw [List.drop_zero, List.drop_zero] at e2
    rw [show ((0 : Nat) : Int) = 0 from rfl] at e2
    rw [e2]
    have e3 := spec_clLoops.l27_run (n := n) (m4 := m) (N := dice.length) (l0 := dieC.encs dice) (out := rowC.encs out) (ch := intC.encs (digits dice.length c)) (i2 := c) (L := (tallyS dice.length true (List.replicate (dice.length + 1) 0) (nums dice (digits dice.length c))).2) (by rw [tallyS_eq]; simp) (by omega) dice.length 0 n (tallyS dice.length true (List.replicate (dice.length + 1) 0) (nums dice (digits dice.length c))).1 (by omega) (by omega)
    rw [show ((0 : Nat) : Int) = 0 from rfl] at e3
    rw [e3, Nat.add_zero, spec_good h1 h4 hnl, wrap_succ (by unfold LIM; omega), List.range'_succ, List.map_cons, List.filter_cons]
    have h5 : out.length + 1 ≤ 17179869184 := by omega
    cases hg2 : isLoop dice.length (nums dice (digits dice.length c))
    · simp only [cond_false, Bool.false_eq_true, if_false]
      exact ih (c + 1) m out (by omega) (by omega) (by omega)
    · simp only [cond_true, if_true, Cod.encs_len, h5, decide_true, rowC_snoc]
      rw [ih (c + 1) m _ (by omega) (by omega) (by simp; omega)]
      simp
def spec_clLoops.stub : Stub
  | [.one (.sl 6 es)] => .any (dieC.decs es) fun l => .gd (Sp.areDice l) (.ret [.one (.sl 1 (rowC.encs (Sp.loops l)))])
  | _ => .fail
theorem spec_clLoops.ok : StubOk Try.prog C0 23 spec_clLoops.stub := by
  intro args res h
  unfold spec_clLoops.stub at h
  split at h
  · obtain ⟨l, h1, h0⟩ := any_out h
    obtain ⟨rfl, hl⟩ := Cod.decs_inv h1
    obtain ⟨h2, h3⟩ := gd_out h0
    cases h3
    unfold areDice at h2
    rw [Bool.and_eq_true] at h2
    obtain ⟨h5, h6⟩ := inR_true h2.1
    refine spec_clLoops.ev (n := 100) ?_
    unfold spec_clLoops.res
    have h81 : 3 ^ l.length ≤ 81 := Nat.le_trans (Nat.pow_le_pow_right (by decide) (show l.length ≤ 4 by omega)) (by decide)
    have := spec_clLoops.l4_run (n := 100) (dice := l) (by omega) (by omega) (by omega) (3 ^ l.length) 0 100 [] (by omega) (by omega) (by simp)
    rw [Cod.encs_len, show (0 : Int) = ((0 : Nat) : Int) from rfl, show ([] : List (List D)) = rowC.encs [] from rfl, this, ← List.range_eq_range', List.nil_append]
    rfl
  · cases h
end Go.Proofs.EV.PL
set_option linter.unusedVariables false
set_option linter.unusedSimpArgs false
/-! Loops, the program's. -/
namespace Go.Proofs.EV.PL
open Go Go.Proofs Go.Proofs.EV Sp
/-! impl_loops -/
noncomputable def impl_loops.cfg : Cfg := { C0 with keep := fun | 3 => some [0, 3, 16, 17] | 7 => some [0, 3, 5, 6, 7, 8, 16, 17] | 11 => some [0, 3, 5, 6, 7, 8, 16, 17, 49, 50, 51] | 17 => some [0, 3, 5, 6, 11, 12, 16, 17] | _ => none, nb := 0, M := tabM [(43, impl_power.stub), (44, impl_Die_pairs.stub)], MM := tabB [] }
noncomputable def impl_loops.l3 (n : Nat) (m3 : Nat) (l0 : List (List D)) (i1 : Int) (i2 : Int) (l3 : List (List D)) : Option (List Q) :=
  loopAt impl_loops.cfg [RK.own (1 : Nat)] n Try.f26 [1, 1, 0, 1, 0] [] m3 (St.mk [V.one false (D.sl (nat_lit 6) l0), V.undef, V.undef, V.rw (nat_lit 0), V.undef, V.undef, V.undef, V.undef, V.undef, V.undef, V.undef, V.undef, V.undef, V.undef, V.undef, V.undef, V.one true (D.int IntKind.i64 i1), V.one true (D.int IntKind.i64 i2), V.undef, V.undef, V.undef, V.undef, V.undef, V.undef, V.undef, V.undef, V.undef, V.undef, V.undef, V.undef, V.undef, V.undef, V.undef, V.undef, V.undef, V.undef, V.undef, V.undef, V.undef, V.undef, V.undef, V.undef, V.undef, V.undef, V.undef, V.undef, V.undef, V.undef, V.undef, V.undef, V.undef, V.undef, V.undef, V.undef, V.undef, V.undef, V.undef, V.undef, V.undef, V.undef, V.undef, V.undef, V.undef, V.undef, V.undef, V.undef, V.undef, V.undef, V.undef, V.undef, V.undef, V.undef, V.undef, V.undef, V.undef, V.undef, V.undef, V.undef, V.undef, V.undef, V.undef] [Ob.row false (nat_lit 1) l3])
noncomputable def impl_loops.l7 (n : Nat) (m3 : Nat) (m7 : Nat) (l0 : List (List D)) (i1 : Int) (i2 : Int) (i3 : Int) (i4 : Int) (l5 : List (List D)) (l6 : List (List D)) (l7 : List (List D)) : Option (List Q) :=
  loopAt impl_loops.cfg [RK.own (1 : Nat)] n Try.f26 [1, 1, 0, 1, 0, 0, 1, 1, 0, 0, 1, 1, 0, 1, 0] [m3] m7 (St.mk [V.one false (D.sl (nat_lit 6) l0), V.undef, V.undef, V.rw (nat_lit 0), V.undef, V.rw (nat_lit 1), V.re (nat_lit 2) (nat_lit 0) (nat_lit 0), V.one true (D.int IntKind.i64 i1), V.one true (D.int IntKind.i64 i2), V.undef, V.undef, V.undef, V.undef, V.undef, V.undef, V.undef, V.one true (D.int IntKind.i64 i3), V.one true (D.int IntKind.i64 i4), V.undef, V.undef, V.undef, V.undef, V.undef, V.undef, V.undef, V.undef, V.undef, V.undef, V.undef, V.undef, V.undef, V.undef, V.undef, V.undef, V.undef, V.undef, V.undef, V.undef, V.undef, V.undef, V.undef, V.undef, V.undef, V.undef, V.undef, V.undef, V.undef, V.undef, V.undef, V.undef, V.undef, V.undef, V.undef, V.undef, V.undef, V.undef, V.undef, V.undef, V.undef, V.undef, V.undef, V.undef, V.undef, V.undef, V.undef, V.undef, V.undef, V.undef, V.undef, V.undef, V.undef, V.undef, V.undef, V.undef, V.undef, V.undef, V.undef, V.undef, V.undef, V.undef, V.undef] [Ob.row false (nat_lit 1) l5, Ob.row false (nat_lit 1) l6, Ob.row true (nat_lit 1) l7])
noncomputable def impl_loops.l11 (n : Nat) (m3 : Nat) (m7 : Nat) (m11 : Nat) (l0 : List (List D)) (i1 : Int) (i2 : Int) (i3 : Int) (i4 : Int) (l5 : List (List D)) (i6 : Int) (i7 : Int) (l8 : List (List D)) (l9 : List (List D)) (l10 : List (List D)) : Option (List Q) :=
  loopAt impl_loops.cfg [RK.own (1 : Nat)] n Try.f26 [1, 1, 0, 1, 0, 0, 1, 1, 0, 0, 1, 1, 0, 1, 0, 0, 1, 0, 0, 1, 1, 0] [m3, m7] m11 (St.mk [V.one false (D.sl (nat_lit 6) l0), V.undef, V.undef, V.rw (nat_lit 0), V.undef, V.rw (nat_lit 1), V.re (nat_lit 2) (nat_lit 0) (nat_lit 0), V.one true (D.int IntKind.i64 i1), V.one true (D.int IntKind.i64 i2), V.undef, V.undef, V.undef, V.undef, V.undef, V.undef, V.undef, V.one true (D.int IntKind.i64 i3), V.one true (D.int IntKind.i64 i4), V.undef, V.undef, V.undef, V.undef, V.undef, V.undef, V.undef, V.undef, V.undef, V.undef, V.undef, V.undef, V.undef, V.undef, V.undef, V.undef, V.undef, V.undef, V.undef, V.undef, V.undef, V.undef, V.undef, V.undef, V.undef, V.undef, V.undef, V.undef, V.undef, V.undef, V.undef, V.one true (D.sl (nat_lit 1) l5), V.one true (D.int IntKind.i64 i6), V.one true (D.int IntKind.i64 i7), V.undef, V.undef, V.undef, V.undef, V.undef, V.undef, V.undef, V.undef, V.undef, V.undef, V.undef, V.undef, V.undef, V.undef, V.undef, V.undef, V.undef, V.undef, V.undef, V.undef, V.undef, V.undef, V.undef, V.undef, V.undef, V.undef, V.undef, V.undef, V.undef] [Ob.row false (nat_lit 1) l8, Ob.row false (nat_lit 1) l9, Ob.row true (nat_lit 1) l10])
noncomputable def impl_loops.l17 (n : Nat) (m3 : Nat) (m17 : Nat) (l0 : List (List D)) (b1 : Bool) (i2 : Int) (i3 : Int) (i4 : Int) (l5 : List (List D)) (l6 : List (List D)) (l7 : List (List D)) : Option (List Q) :=
  loopAt impl_loops.cfg [RK.own (1 : Nat)] n Try.f26 [1, 1, 0, 1, 0, 0, 1, 1, 0, 0, 1, 1, 1, 1, 0, 1, 0] [m3] m17 (St.mk [V.one false (D.sl (nat_lit 6) l0), V.undef, V.undef, V.rw (nat_lit 0), V.undef, V.rw (nat_lit 1), V.re (nat_lit 2) (nat_lit 0) (nat_lit 0), V.undef, V.undef, V.undef, V.undef, V.one true (D.bool b1), V.one true (D.int IntKind.i64 i2), V.undef, V.undef, V.undef, V.one true (D.int IntKind.i64 i3), V.one true (D.int IntKind.i64 i4), V.undef, V.undef, V.undef, V.undef, V.undef, V.undef, V.undef, V.undef, V.undef, V.undef, V.undef, V.undef, V.undef, V.undef, V.undef, V.undef, V.undef, V.undef, V.undef, V.undef, V.undef, V.undef, V.undef, V.undef, V.undef, V.undef, V.undef, V.undef, V.undef, V.undef, V.undef, V.undef, V.undef, V.undef, V.undef, V.undef, V.undef, V.undef, V.undef, V.undef, V.undef, V.undef, V.undef, V.undef, V.undef, V.undef, V.undef, V.undef, V.undef, V.undef, V.undef, V.undef, V.undef, V.undef, V.undef, V.undef, V.undef, V.undef, V.undef, V.undef, V.undef, V.undef, V.undef] [Ob.row false (nat_lit 1) l5, Ob.row false (nat_lit 1) l6, Ob.row true (nat_lit 1) l7])
theorem impl_loops.l3_eq (n : Nat) (m3 : Nat) (l0 : List (List D)) (i1 : Int) (i2 : Int) (l3 : List (List D)) :
    impl_loops.l3 n (m3 + 1) l0 i1 i2 l3 = bif decide (i2 < i1) then bif decide ((↑(List.length l0) : Int) ≤ (↑(List.length l0) : Int)) then bif decide ((↑(List.length l0) : Int) ≤ (17179869184 : Int)) then impl_loops.l7 n m3 n l0 (IntKind.wrap IntKind.i64 ((↑(List.length l0) : Int) - (1 : Int))) i2 i1 i2 l3 (List.replicate (Int.toNat (↑(List.length l0) : Int)) [D.int IntKind.i64 (0 : Int)]) [[D.int IntKind.i64 (0 : Int)], [D.int IntKind.i64 (0 : Int)], [D.int IntKind.i64 (0 : Int)], [D.int IntKind.i64 (0 : Int)], [D.int IntKind.i64 (0 : Int)], [D.int IntKind.i64 (0 : Int)], [D.int IntKind.i64 (0 : Int)], [D.int IntKind.i64 (0 : Int)], [D.int IntKind.i64 (0 : Int)], [D.int IntKind.i64 (0 : Int)]] else none else none else some [Q.one (D.sl (nat_lit 1) l3)] := by kernel_rfl
theorem impl_loops.l7_eq (n : Nat) (m3 : Nat) (m7 : Nat) (l0 : List (List D)) (i1 : Int) (i2 : Int) (i3 : Int) (i4 : Int) (l5 : List (List D)) (l6 : List (List D)) (l7 : List (List D)) :
    impl_loops.l7 n m3 (m7 + 1) l0 i1 i2 i3 i4 l5 l6 l7 = bif decide (i1 ≥ (0 : Int)) then bif decide ((0 : Int) ≤ i1) then bif decide (i1 < (↑(List.length l6) : Int)) then bif decide ((0 : Int) ≤ i1) then bif decide (i1 < (↑(List.length l0) : Int)) then Option.bind (Option.bind (some (cellD l0 (Int.toNat i1) (0 : Nat))) (D.int? IntKind.i64)) fun (i1_1 : Int) => Option.bind (Option.bind (some (cellD l0 (Int.toNat i1) (1 : Nat))) (D.int? IntKind.i64)) fun (i2_1 : Int) => Option.bind (Option.bind (some (cellD l0 (Int.toNat i1) (2 : Nat))) (D.int? IntKind.i64)) fun (i3_1 : Int) => Option.bind (Option.bind (some (cellD l0 (Int.toNat i1) (3 : Nat))) (D.int? IntKind.i64)) fun (i4_1 : Int) => Option.bind (Option.bind (some (cellD l0 (Int.toNat i1) (4 : Nat))) (D.int? IntKind.i64)) fun (i5 : Int) => Option.bind (Option.bind (some (cellD l0 (Int.toNat i1) (5 : Nat))) (D.int? IntKind.i64)) fun (i6 : Int) => bif decide ((0 : Int) ≤ i1) then bif decide (i1 < (↑(List.length (setRow (nat_lit 1) l6 (Int.toNat i1) (0 : Nat) [D.int IntKind.i64 (Int.tmod i2 (3 : Int))])) : Int)) then Option.bind (Option.bind (some (cellD (setRow (nat_lit 1) l6 (Int.toNat i1) (0 : Nat) [D.int IntKind.i64 (Int.tmod i2 (3 : Int))]) (Int.toNat i1) (0 : Nat))) (D.int? IntKind.i64)) fun (i7 : Int) => bif decide ((0 : Int) ≤ i7) then bif decide (i7 < (3 : Int)) then Option.bind (Option.bind (some (cellD (Cod.encs rowC (pairs (Die.mk i1_1 i2_1 i3_1 i4_1 i5 i6))) (Int.toNat i7) (0 : Nat))) (D.sl? (1 : Nat))) fun (l8 : List (List D)) => impl_loops.l11 n m3 m7 n l0 i1 i2 i3 i4 l8 (↑(List.length l8) : Int) (0 : Int) l5 (setRow (nat_lit 1) l6 (Int.toNat i1) (0 : Nat) [D.int IntKind.i64 (Int.tmod i2 (3 : Int))]) l7 else none else none else none else none else none else none else none else none else impl_loops.l17 n m3 n l0 true (1 : Int) i3 i4 l5 l6 l7 := by kernel_rfl
theorem impl_loops.l11_eq (n : Nat) (m3 : Nat) (m7 : Nat) (m11 : Nat) (l0 : List (List D)) (i1 : Int) (i2 : Int) (i3 : Int) (i4 : Int) (l5 : List (List D)) (i6 : Int) (i7 : Int) (l8 : List (List D)) (l9 : List (List D)) (l10 : List (List D)) :
    impl_loops.l11 n m3 m7 (m11 + 1) l0 i1 i2 i3 i4 l5 i6 i7 l8 l9 l10 = bif decide (i7 < i6) then bif decide ((0 : Int) ≤ i7) then bif decide (i7 < (↑(List.length l5) : Int)) then Option.bind (Option.bind (some (cellD l5 (Int.toNat i7) (0 : Nat))) (D.int? IntKind.i64)) fun (i9 : Int) => bif decide ((0 : Int) ≤ i9) then bif decide (i9 < (10 : Int)) then bif decide (Int.toNat i9 < List.length l10) then Option.bind (Option.bind (some (cellD l10 (Int.toNat i9) (0 : Nat))) (D.int? IntKind.i64)) fun (i10 : Int) => bif decide ((0 : Int) ≤ i9) then bif decide (i9 < (10 : Int)) then bif decide (Int.toNat i9 < List.length l10) then impl_loops.l11 n m3 m7 m11 l0 i1 i2 i3 i4 l5 i6 (IntKind.wrap IntKind.i64 (i7 + (1 : Int))) l8 l9 (setRow (nat_lit 1) l10 (Int.toNat i9) (0 : Nat) [D.int IntKind.i64 (IntKind.wrap IntKind.i64 (i10 + (1 : Int)))]) else none else none else none else none else none else none else none else none else impl_loops.l7 n m3 m7 l0 (IntKind.wrap IntKind.i64 (i1 - (1 : Int))) (IntKind.wrap IntKind.i64 (Int.tdiv i2 (3 : Int))) i3 i4 l8 l9 l10 := by kernel_rfl
theorem impl_loops.l17_eq (n : Nat) (m3 : Nat) (m17 : Nat) (l0 : List (List D)) (b1 : Bool) (i2 : Int) (i3 : Int) (i4 : Int) (l5 : List (List D)) (l6 : List (List D)) (l7 : List (List D)) :
    impl_loops.l17 n m3 (m17 + 1) l0 b1 i2 i3 i4 l5 l6 l7 = bif decide (i2 ≤ (↑(List.length l0) : Int)) then bif b1 then bif decide ((0 : Int) ≤ i2) then bif decide (i2 < (10 : Int)) then bif decide (Int.toNat i2 < List.length l7) then Option.bind (Option.bind (some (cellD l7 (Int.toNat i2) (0 : Nat))) (D.int? IntKind.i64)) fun (i11 : Int) => impl_loops.l17 n m3 m17 l0 (i11 == (2 : Int)) (IntKind.wrap IntKind.i64 (i2 + (1 : Int))) i3 i4 l5 l6 l7 else none else none else none else impl_loops.l17 n m3 m17 l0 false (IntKind.wrap IntKind.i64 (i2 + (1 : Int))) i3 i4 l5 l6 l7 else bif b1 then bif decide (List.length l5 + (1 : Nat) ≤ nat_lit 17179869184) then impl_loops.l3 n m3 l0 i3 (IntKind.wrap IntKind.i64 (i4 + (1 : Int))) (l5 ++ [[D.sl (nat_lit 1) l6]]) else none else impl_loops.l3 n m3 l0 i3 (IntKind.wrap IntKind.i64 (i4 + (1 : Int))) l5 := by kernel_rfl
noncomputable def impl_loops.res (n : Nat) (a0 : List (List D)) : Option (List Q) :=
  bif okPow (3 : Int) (↑(List.length a0) : Int) then impl_loops.l3 n n a0 (pow (3 : Int) (↑(List.length a0) : Int)) (0 : Int) [] else none
theorem impl_loops.run (n : Nat) (a0 : List (List D)) :
    run1 impl_loops.cfg [RK.own (1 : Nat)] n Try.f26 [Q.one (D.sl (6 : Nat) a0)] = impl_loops.res n a0 := by kernel_rfl
theorem impl_loops.ev {n : Nat} {a0 : List (List D)} {r : List Q} (h : impl_loops.res n a0 = some r) : Snd Try.prog C0 26 [.one (.sl 6 a0)] r :=
  snd_ev (C := impl_loops.cfg) cfg0 mix rfl rfl rfl rfl rfl (.cons impl_power.ok (.cons impl_Die_pairs.ok .nil)) .nil rfl Try.func26 (by kernel_rfl) (by kernel_rfl) rfl ((impl_loops.run n a0).trans h)

/-- The numbers that the program counts, in its order. -/
def revNums (dice : List Die) : Nat → Nat → List Int
  | 0, _ => []
  | k + 1, c => Sp.rowAt (dice.getD k default) ((c % 3 : Nat) : Int) ++ revNums dice k (c / 3)
theorem good_rows {d : Die} (h : d.good = true) {c : Int} (hc : 0 ≤ c ∧ c < 3) : ∀ x ∈ Sp.rowAt d c, 0 ≤ x ∧ x ≤ 9 := by
  have h' : ∀ x ∈ d.faces, 0 ≤ x ∧ x ≤ 9 := fun x hx => inR_true (List.all_eq_true.1 h x hx)
  have e : Sp.rowAt d c = [[min d.n d.s, max d.n d.s], [min d.e d.w, max d.e d.w], [min d.t d.b, max d.t d.b]].getD c.toNat [] := rfl
  obtain ⟨h1, h2⟩ := hc
  have hn := h' d.n (by simp [Die.faces])
  have hs := h' d.s (by simp [Die.faces])
  have he := h' d.e (by simp [Die.faces])
  have hw := h' d.w (by simp [Die.faces])
  have ht := h' d.t (by simp [Die.faces])
  have hb := h' d.b (by simp [Die.faces])
  rw [e]
  intro x hx
  rcases (show c = 0 ∨ c = 1 ∨ c = 2 by omega) with rfl | rfl | rfl
  · have : x = min d.n d.s ∨ x = max d.n d.s := by simpa using hx
    omega
  · have : x = min d.e d.w ∨ x = max d.e d.w := by simpa using hx
    omega
  · have : x = min d.t d.b ∨ x = max d.t d.b := by simpa using hx
    omega
theorem impl_loops.l11_run {n m3 m7 : Nat} {l0 out ch : List (List D)} {i1 i2 i3 i4 : Int} {row : List Int} (hr : row.length ≤ LIM) (hx : ∀ x ∈ row, 0 ≤ x ∧ x ≤ 9) : ∀ (d j m : Nat) (L : List Int), L.length = 10 → j + d = row.length → d < m →
    impl_loops.l11 n m3 m7 m l0 i1 i2 i3 i4 (intC.encs row) row.length j out ch (intC.encs L) = impl_loops.l7 n m3 m7 l0 (IntKind.wrap .i64 (i1 - 1)) (IntKind.wrap .i64 (Int.tdiv i2 3)) i3 i4 out ch (intC.encs (tallyI L (row.drop j))) := by
  intro d
  induction d with
  | zero =>
    intro j m L hL hj hm
    obtain ⟨m, rfl⟩ : ∃ m', m = m' + 1 := ⟨m - 1, by omega⟩
    obtain rfl : j = row.length := by omega
    simp [impl_loops.l11_eq, tallyI]
  | succ d ih =>
    intro j m L hL hj hm
    obtain ⟨m, rfl⟩ : ∃ m', m = m' + 1 := ⟨m - 1, by omega⟩
    have hlt : j < row.length := by omega
    obtain ⟨h1, h2⟩ := hx row[j] (List.getElem_mem hlt)
    have h3 : row[j].toNat < L.length := by omega
    have h4 : row[j] < 10 := by omega
    rw [impl_loops.l11_eq, List.drop_eq_getElem_cons hlt]
    have h6 : L.set row[j].toNat (IntKind.wrap .i64 (L[row[j].toNat] + 1)) = bump L row[j] := by
      unfold bump; rw [getD_of_lt h3]
    simp only [Cod.encs_len, Int.ofNat_lt, hlt, decide_true, cond_true, Int.natCast_nonneg, Int.toNat_natCast, intC_int' hlt, Option.bind_some, wrap_succ (show j ≤ LIM by omega), h1, h4, h3, intC_int' h3, intC_set, h6]
    rw [ih (j + 1) m _ (by rw [bump_len]; exact hL) (by omega) (by omega)]
    rfl
theorem impl_loops.l7_run {n m3 : Nat} {out : List (List D)} {i3 i4 : Int} {dice : List Die} (hd : dice.length ≤ 4) (hg : ∀ d ∈ dice, d.good = true) (hn : 2 < n) : ∀ (k m c : Nat) (pre tl L : List Int), pre.length = k → pre.length + tl.length = dice.length → k < m → c ≤ 1000 → L.length = 10 →
    impl_loops.l7 n m3 m (dieC.encs dice) ((k : Int) - 1) c i3 i4 out (intC.encs (pre ++ tl)) (intC.encs L) = impl_loops.l17 n m3 n (dieC.encs dice) true 1 i3 i4 out (intC.encs (digits k c ++ tl)) (intC.encs (tallyI L (revNums dice k c))) := by
  intro k
  induction k with
  | zero =>
    intro m c pre tl L hp hl hm hc hL
    obtain ⟨m, rfl⟩ : ∃ m', m = m' + 1 := ⟨m - 1, by omega⟩
    obtain rfl : pre = [] := List.eq_nil_of_length_eq_zero hp
    have g1 : ¬ (((0 : Nat) : Int) - 1 ≥ 0) := by omega
    rw [impl_loops.l7_eq]
    simp only [g1, decide_false, cond_false, digits, List.nil_append, revNums, tallyI, List.foldl_nil]
  | succ k ih =>
    intro m c pre tl L hp hl hm hc hL
    obtain ⟨m, rfl⟩ : ∃ m', m = m' + 1 := ⟨m - 1, by omega⟩
    rcases List.eq_nil_or_concat pre with rfl | ⟨pre, x, rfl⟩
    · cases hp
    rw [List.concat_eq_append] at hp hl ⊢
    have hp : pre.length = k := by simpa using hp
    have e1 : (((k + 1 : Nat) : Int)) - 1 = k := by omega
    have hlt : k < dice.length := by simp at hl; omega
    have hm1 := set_mid pre tl x ((c % 3 : Nat) : Int)
    rw [hp] at hm1
    have e2 : (k : Int) < (((pre ++ [x] ++ tl).length : Nat) : Int) := by simp; omega
    have e3 : (k : Int) < (((pre ++ ((c % 3 : Nat) : Int) :: tl).length : Nat) : Int) := by simp; omega
    have e4 : k < (pre ++ ((c % 3 : Nat) : Int) :: tl).length := by omega
    have e5 : (pre ++ ((c % 3 : Nat) : Int) :: tl)[k] = ((c % 3 : Nat) : Int) := by
      rw [List.getElem_append_right (by omega)]
      simp [hp]
    have hc3 : 0 ≤ ((c % 3 : Nat) : Int) ∧ ((c % 3 : Nat) : Int) < 3 := by omega
    have hgd := hg dice[k] (List.getElem_mem hlt)
    rw [impl_loops.l7_eq, e1, tm3, Int.toNat_natCast, intC_set, hm1]
    simp only [Cod.encs_len, e2, e3, ge_iff_le, Int.natCast_nonneg, decide_true, cond_true, Int.toNat_natCast, Int.ofNat_lt, hlt, dieC_t hlt, dieC_n hlt, dieC_e hlt, dieC_s hlt, dieC_w hlt, dieC_b hlt, Option.bind_some, Die.eta, intC_int' e4, e5, hc3.2]
    have e6 := rowAt_eq dice[k] hc3
    rw [Int.toNat_natCast] at e6
    rw [e6, Option.bind_some, Cod.encs_len, show (0 : Int) = ((0 : Nat) : Int) from rfl, impl_loops.l11_run (row := Sp.rowAt dice[k] ((c % 3 : Nat) : Int)) (by rw [rowAt_len _ hc3]; decide) (good_rows hgd hc3) 2 0 n L hL (by rw [rowAt_len _ hc3]) hn, List.drop_zero,
      wrap_in (x := (k : Int) - 1) (by omega) (by omega), td3, wrap_in (x := ((c / 3 : Nat) : Int)) (by omega) (by omega),
      ih m (c / 3) pre _ _ hp (by simp at hl ⊢; omega) (by omega) (by omega) (by simpa using hL), digits_succ, revNums, getD_of_lt hlt, tallyI_append]
theorem revNums_count (dice : List Die) (v : Int) : ∀ k c, k ≤ dice.length → (revNums dice k c).count v = (nums (dice.take k) (digits k c)).count v
  | 0, c, _ => by simp [revNums, nums]
  | k + 1, c, h => by
    have hlt : k < dice.length := h
    have e : nums (dice.take (k + 1)) (digits (k + 1) c) = nums (dice.take k) (digits k (c / 3)) ++ Sp.rowAt dice[k] ((c % 3 : Nat) : Int) := by
      unfold nums
      rw [List.take_succ_eq_append_getElem hlt, digits, List.zipWith_append (by simp; omega), List.flatten_append]
      simp
    rw [e, revNums, List.count_append, List.count_append, revNums_count dice v k (c / 3) (by omega), getD_of_lt hlt]
    omega
theorem revNums_in {dice : List Die} (hg : ∀ d ∈ dice, d.good = true) : ∀ k c, k ≤ dice.length → ∀ x ∈ revNums dice k c, 0 ≤ x ∧ x ≤ 9
  | 0, c, _, x, hx => by cases hx
  | k + 1, c, h, x, hx => by
    have hlt : k < dice.length := h
    rw [revNums, List.mem_append] at hx
    rcases hx with hx | hx
    · rw [getD_of_lt hlt] at hx
      exact good_rows (hg _ (List.getElem_mem hlt)) (by omega) x hx
    · exact revNums_in hg k _ (by omega) x hx
theorem revNums_len (dice : List Die) : ∀ k c, (revNums dice k c).length = 2 * k
  | 0, c => rfl
  | k + 1, c => by
    rw [revNums, List.length_append, revNums_len dice k, rowAt_len _ (by omega)]
    omega
theorem impl_loops.l17_run {n m3 : Nat} {out ch : List (List D)} {i3 i4 : Int} {dice : List Die} {L : List Int} (hd : dice.length ≤ 4) (hL : L.length = 10) : ∀ (d v m : Nat) (b : Bool), v + d = dice.length + 1 → d < m →
    impl_loops.l17 n m3 m (dieC.encs dice) b v i3 i4 out ch (intC.encs L) = bif b && (List.range' v d).all (fun u => decide (L.getD u 0 = 2)) then (bif decide (out.length + 1 ≤ 17179869184) then impl_loops.l3 n m3 (dieC.encs dice) i3 (IntKind.wrap .i64 (i4 + 1)) (out ++ [[D.sl 1 ch]]) else none) else impl_loops.l3 n m3 (dieC.encs dice) i3 (IntKind.wrap .i64 (i4 + 1)) out := by
  intro d
  induction d with
  | zero =>
    intro v m b hv hm
    obtain ⟨m, rfl⟩ : ∃ m', m = m' + 1 := ⟨m - 1, by omega⟩
    have h1 : ¬ (v : Int) ≤ dice.length := by omega
    rw [impl_loops.l17_eq]
    simp only [Cod.encs_len, h1, decide_false, cond_false, List.range'_zero, List.all_nil, Bool.and_true]
  | succ d ih =>
    intro v m b hv hm
    obtain ⟨m, rfl⟩ : ∃ m', m = m' + 1 := ⟨m - 1, by omega⟩
    have h1 : (v : Int) ≤ dice.length := by omega
    have h2 : (v : Int) < 10 := by omega
    have h3 : v < L.length := by omega
    rw [impl_loops.l17_eq]
    simp only [Cod.encs_len, h1, h2, h3, decide_true, cond_true, Int.natCast_nonneg, Int.toNat_natCast, intC_int' h3, Option.bind_some, wrap_succ (show v ≤ LIM by unfold LIM; omega)]
    rw [ih (v + 1) m _ (by omega) (by omega), ih (v + 1) m _ (by omega) (by omega), List.range'_succ, List.all_cons, getD_of_lt h3]
    cases b
    · simp only [Bool.false_and, cond_false]
    · simp only [cond_true, Bool.true_and, ieq]
theorem impl_good {dice : List Die} (hd : dice.length ≤ 4) (hg : ∀ d ∈ dice, d.good = true) (c : Nat) :
    ((List.range' 1 dice.length).all fun u => decide ((tallyI (List.replicate 10 0) (revNums dice dice.length c)).getD u 0 = 2)) = isLoop dice.length (nums dice (digits dice.length c)) := by
  unfold isLoop
  rw [List.range'_eq_map_range, List.all_map, Bool.eq_iff_iff, List.all_eq_true, List.all_eq_true]
  refine forall_congr' fun v => forall_congr' fun hv => ?_
  have hv := List.mem_range.1 hv
  have h1 : ∀ x ∈ revNums dice dice.length c, 0 ≤ x ∧ x.toNat < (List.replicate 10 (0 : Int)).length := by
    intro x hx
    have := revNums_in hg _ _ (Nat.le_refl _) x hx
    simp; omega
  have h2 := revNums_len dice dice.length c
  show decide _ = true ↔ _
  rw [tallyI_get _ _ 0 h1 (fun u => by rw [getD_rep]; omega) (by omega) _ (by simp; omega), getD_rep, revNums_count dice _ _ _ (Nat.le_refl _), List.take_length]
  rw [show (fun x => 1 + x) v = v + 1 from Nat.add_comm 1 v]
  simp; omega
theorem impl_loops.l3_run {n : Nat} {dice : List Die} (h1 : 1 ≤ dice.length) (h4 : dice.length ≤ 4) (hg : ∀ d ∈ dice, d.good = true) (hn : 10 ≤ n) : ∀ (d c m : Nat) (out : List (List Int)), c + d = 3 ^ dice.length → d < m → out.length ≤ c →
    impl_loops.l3 n m (dieC.encs dice) ((3 ^ dice.length : Nat) : Int) c (rowC.encs out) = some [Q.one (.sl 1 (rowC.encs (out ++ ((List.range' c d).map (digits dice.length)).filter fun ch => isLoop dice.length (nums dice ch))))] := by
  have h81 : 3 ^ dice.length ≤ 81 := Nat.le_trans (Nat.pow_le_pow_right (by decide) h4) (by decide)
  intro d
  induction d with
  | zero =>
    intro c m out hc hm ho
    obtain ⟨m, rfl⟩ : ∃ m', m = m' + 1 := ⟨m - 1, by omega⟩
    have h2 : ¬ (c : Int) < ((3 ^ dice.length : Nat) : Int) := by omega
    rw [impl_loops.l3_eq]
    simp only [h2, decide_false, cond_false, List.range'_zero, List.map_nil, List.filter_nil, List.append_nil]
  | succ d ih =>
    intro c m out hc hm ho
    obtain ⟨m, rfl⟩ : ∃ m', m = m' + 1 := ⟨m - 1, by omega⟩
    have h2 : (c : Int) < ((3 ^ dice.length : Nat) : Int) := by omega
    have h3 : (dice.length : Int) ≤ 17179869184 := by omega
    have e0 : [[D.int .i64 0], [D.int .i64 0], [D.int .i64 0], [D.int .i64 0], [D.int .i64 0], [D.int .i64 0], [D.int .i64 0], [D.int .i64 0], [D.int .i64 0], [D.int .i64 0]] = intC.encs (List.replicate 10 0) := rfl
    rw [impl_loops.l3_eq, e0, intC_rep]
    simp only [h2, h3, Cod.encs_len, decide_true, cond_true, Int.le_refl, Int.toNat_natCast]
    rw [wrap_in (x := (dice.length : Int) - 1) (by omega) (by omega)]
    have e := impl_loops.l7_run (n := n) (m3 := m) (out := rowC.encs out) (i3 := ((3 ^ dice.length : Nat) : Int)) (i4 := c) h4 hg (by omega) dice.length n c (List.replicate dice.length 0) [] (List.replicate 10 0) (by simp) (by simp) (by omega) (by omega) (by simp)
    rw [List.append_nil, List.append_nil] at e
    rw [e]
    have e3 := impl_loops.l17_run (n := n) (m3 := m) (out := rowC.encs out) (ch := intC.encs (digits dice.length c)) (i3 := ((3 ^ dice.length : Nat) : Int)) (i4 := c) (dice := dice) (L := tallyI (List.replicate 10 0) (revNums dice dice.length c)) h4 (by simp) dice.length 1 n true (by omega) (by omega)
    rw [show ((1 : Nat) : Int) = 1 from rfl] at e3
    rw [e3, impl_good h4 hg, Bool.true_and, wrap_succ (by unfold LIM; omega), List.range'_succ, List.map_cons, List.filter_cons]
    have h5 : out.length + 1 ≤ 17179869184 := by omega
    cases hg2 : isLoop dice.length (nums dice (digits dice.length c))
    · simp only [cond_false, Bool.false_eq_true, if_false]
      exact ih (c + 1) m out (by omega) (by omega) (by omega)
    · simp only [cond_true, if_true, Cod.encs_len, h5, decide_true, rowC_snoc]
      rw [ih (c + 1) m _ (by omega) (by omega) (by simp; omega)]
      simp
def impl_loops.stub : Stub
  | [.one (.sl 6 es)] => .any (dieC.decs es) fun l => .gd (Sp.areDice l) (.ret [.one (.sl 1 (rowC.encs (Sp.loops l)))])
  | _ => .fail
theorem impl_loops.ok : StubOk Try.prog C0 26 impl_loops.stub := by
  intro args res h
  unfold impl_loops.stub at h
  split at h
  · obtain ⟨l, h1, h0⟩ := any_out h
    obtain ⟨rfl, hl⟩ := Cod.decs_inv h1
    obtain ⟨h2, h3⟩ := gd_out h0
    cases h3
    unfold areDice at h2
    rw [Bool.and_eq_true] at h2
    obtain ⟨h5, h6⟩ := inR_true h2.1
    refine impl_loops.ev (n := 100) ?_
    unfold impl_loops.res
    have h81 : 3 ^ l.length ≤ 81 := Nat.le_trans (Nat.pow_le_pow_right (by decide) (show l.length ≤ 4 by omega)) (by decide)
    have hg : okPow 3 l.length = true := by unfold okPow; simp; omega
    have := impl_loops.l3_run (n := 100) (dice := l) (by omega) (by omega) (List.all_eq_true.1 h2.2) (by omega) (3 ^ l.length) 0 100 [] (by omega) (by omega) (by simp)
    rw [Cod.encs_len, hg, cond_true, pow3, show (0 : Int) = ((0 : Nat) : Int) from rfl, show ([] : List (List D)) = rowC.encs [] from rfl, this, ← List.range_eq_range', List.nil_append]
    rfl
  · cases h
end Go.Proofs.EV.PL
set_option linter.unusedVariables false
set_option linter.unusedSimpArgs false
/-! Whether there are two loops. -/
namespace Go.Proofs.EV.PL
open Go Go.Proofs Go.Proofs.EV Sp
/-! impl_areApart -/
noncomputable def impl_areApart.cfg : Cfg := { C0 with keep := fun | 2 => some [0, 1, 7, 8] | _ => none, nb := 0, M := tabM [], MM := tabB [] }
noncomputable def impl_areApart.l2 (n : Nat) (m2 : Nat) (l0 : List (List D)) (l1 : List (List D)) (i2 : Int) (i3 : Int) : Option (List Q) :=
  loopAt impl_areApart.cfg [RK.one LK.bool] n Try.f30 [1, 0, 1, 0] [] m2 (St.mk [V.one false (D.sl (nat_lit 1) l0), V.one false (D.sl (nat_lit 1) l1), V.undef, V.undef, V.undef, V.undef, V.undef, V.one true (D.int IntKind.i64 i2), V.one true (D.int IntKind.i64 i3), V.undef, V.undef, V.undef, V.undef, V.undef, V.undef, V.undef, V.undef, V.undef, V.undef, V.undef, V.undef] [])
theorem impl_areApart.l2_eq (n : Nat) (m2 : Nat) (l0 : List (List D)) (l1 : List (List D)) (i2 : Int) (i3 : Int) :
    impl_areApart.l2 n (m2 + 1) l0 l1 i2 i3 = bif decide (i3 < i2) then bif decide ((0 : Int) ≤ i3) then bif decide (i3 < (↑(List.length l0) : Int)) then Option.bind (Option.bind (some (cellD l0 (Int.toNat i3) (0 : Nat))) (D.int? IntKind.i64)) fun (i1 : Int) => bif decide ((0 : Int) ≤ i3) then bif decide (i3 < (↑(List.length l1) : Int)) then Option.bind (Option.bind (some (cellD l1 (Int.toNat i3) (0 : Nat))) (D.int? IntKind.i64)) fun (i2_1 : Int) => bif i1 == i2_1 then some [Q.one (D.bool false)] else impl_areApart.l2 n m2 l0 l1 i2 (IntKind.wrap IntKind.i64 (i3 + (1 : Int))) else none else none else none else none else some [Q.one (D.bool true)] := by kernel_rfl
noncomputable def impl_areApart.res (n : Nat) (a0 : List (List D)) (a1 : List (List D)) : Option (List Q) :=
  impl_areApart.l2 n n a0 a1 (↑(List.length a0) : Int) (0 : Int)
theorem impl_areApart.run (n : Nat) (a0 : List (List D)) (a1 : List (List D)) :
    run1 impl_areApart.cfg [RK.one LK.bool] n Try.f30 [Q.one (D.sl (1 : Nat) a0), Q.one (D.sl (1 : Nat) a1)] = impl_areApart.res n a0 a1 := by kernel_rfl
theorem impl_areApart.ev {n : Nat} {a0 : List (List D)} {a1 : List (List D)} {r : List Q} (h : impl_areApart.res n a0 a1 = some r) : Snd Try.prog C0 30 [.one (.sl 1 a0), .one (.sl 1 a1)] r :=
  snd_ev (C := impl_areApart.cfg) cfg0 mix rfl rfl rfl rfl rfl .nil .nil rfl Try.func30 (by kernel_rfl) (by kernel_rfl) rfl ((impl_areApart.run n a0 a1).trans h)

theorem impl_areApart.loop {n : Nat} {a b : List Int} (hl : a.length ≤ LIM) (he : a.length = b.length) : ∀ (d k m : Nat), k + d = a.length → d < m → impl_areApart.l2 n m (intC.encs a) (intC.encs b) a.length k = some [Q.one (.bool (Sp.apart (a.drop k) (b.drop k)))] := by
  intro d
  induction d with
  | zero =>
    intro k m hk hm
    obtain ⟨m, rfl⟩ : ∃ m', m = m' + 1 := ⟨m - 1, by omega⟩
    obtain rfl : k = a.length := by omega
    simp [impl_areApart.l2_eq, he, Sp.apart]
  | succ d ih =>
    intro k m hk hm
    obtain ⟨m, rfl⟩ : ∃ m', m = m' + 1 := ⟨m - 1, by omega⟩
    have hlt : k < a.length := by omega
    have hlt' : k < b.length := by omega
    rw [impl_areApart.l2_eq, List.drop_eq_getElem_cons hlt, List.drop_eq_getElem_cons hlt', Sp.apart]
    simp only [Cod.encs_len, Int.ofNat_lt, hlt, hlt', decide_true, cond_true, Int.natCast_nonneg, Int.toNat_natCast, intC_int' hlt, intC_int' hlt', Option.bind_some, wrap_succ (show k ≤ LIM by omega), ih (k + 1) m (by omega) (by omega)]
    cases h : a[k] == b[k] <;> simp only [bne, h, cond_true, cond_false, Bool.not_true, Bool.not_false, Bool.true_and, Bool.false_and]
def impl_areApart.stub : Stub
  | [.one (.sl 1 es), .one (.sl 1 es')] => .any (intC.decs es) fun a => .any (intC.decs es') fun b => .gd (decide (a.length = b.length)) (.ret [.one (.bool (Sp.apart a b))])
  | _ => .fail
theorem impl_areApart.ok : StubOk Try.prog C0 30 impl_areApart.stub := by
  intro args res h
  unfold impl_areApart.stub at h
  split at h
  · obtain ⟨a, h1, h0⟩ := any_out h
    obtain ⟨rfl, hl⟩ := Cod.decs_inv h1
    obtain ⟨b, h1', h2⟩ := any_out h0
    obtain ⟨rfl, hl'⟩ := Cod.decs_inv h1'
    obtain ⟨h3, h4⟩ := gd_out h2
    have h3 := of_decide_eq_true h3
    cases h4
    refine impl_areApart.ev (n := a.length + 1) ?_
    unfold impl_areApart.res
    simpa using impl_areApart.loop (n := a.length + 1) hl h3 a.length 0 (a.length + 1) (by omega) (by omega)
  · cases h
/-! impl_HasTwoLoops_1_1 -/
noncomputable def impl_HasTwoLoops_1_1.cfg : Cfg := { C0 with keep := fun _ => none, nb := 0, M := tabM [(30, impl_areApart.stub)], MM := tabB [] }
noncomputable def impl_HasTwoLoops_1_1.res (n : Nat) (a0 : List (List D)) (c0 : List (List D)) : Option (List Q) :=
  Option.bind (Cod.decs intC c0) fun (l1 : List Int) => Option.bind (Cod.decs intC a0) fun (l2 : List Int) => bif decide (List.length l1 = List.length l2) then some [Q.one (D.bool (apart l1 l2))] else none
theorem impl_HasTwoLoops_1_1.run (n : Nat) (a0 : List (List D)) (c0 : List (List D)) :
    run1 impl_HasTwoLoops_1_1.cfg [RK.one LK.bool] n Try.f29 [Q.one (D.sl (1 : Nat) a0), Q.one (D.pt [D.sl (1 : Nat) c0])] = impl_HasTwoLoops_1_1.res n a0 c0 := by kernel_rfl
theorem impl_HasTwoLoops_1_1.ev {n : Nat} {a0 : List (List D)} {c0 : List (List D)} {r : List Q} (h : impl_HasTwoLoops_1_1.res n a0 c0 = some r) : Snd Try.prog C0 29 [.one (.sl 1 a0), .one (.pt [.sl 1 c0])] r :=
  snd_ev (C := impl_HasTwoLoops_1_1.cfg) cfg0 mix rfl rfl rfl rfl rfl (.cons impl_areApart.ok .nil) .nil rfl Try.func29 (by kernel_rfl) (by kernel_rfl) rfl ((impl_HasTwoLoops_1_1.run n a0 c0).trans h)

def impl_HasTwoLoops_1_1.stub : Stub
  | [.one (.sl 1 eb), .one (.pt [.sl 1 ea])] => .any (intC.decs ea) fun a => .any (intC.decs eb) fun b => .gd (decide (a.length = b.length)) (.ret [.one (.bool (Sp.apart a b))])
  | _ => .fail
theorem impl_HasTwoLoops_1_1.ok : StubOk Try.prog C0 29 impl_HasTwoLoops_1_1.stub := by
  intro args res h
  unfold impl_HasTwoLoops_1_1.stub at h
  split at h
  · obtain ⟨a, h1, h0⟩ := any_out h
    obtain ⟨rfl, hl⟩ := Cod.decs_inv h1
    obtain ⟨b, h1', h2⟩ := any_out h0
    obtain ⟨rfl, hl'⟩ := Cod.decs_inv h1'
    obtain ⟨h3, h4⟩ := gd_out h2
    cases h4
    refine impl_HasTwoLoops_1_1.ev (n := 0) ?_
    simp only [impl_HasTwoLoops_1_1.res, Cod.decs_encs hl, Cod.decs_encs hl', Option.bind_some, h3, cond_true]
  · cases h
/-! idx_ap -/
noncomputable def idx_ap.cfg : Cfg := { C0 with keep := fun | 2 => some [0, 1, 7, 8] | _ => none, nb := 0, M := tabM [(29, impl_HasTwoLoops_1_1.stub)], MM := tabB [] }
noncomputable def idx_ap.l2 (n : Nat) (m2 : Nat) (l0 : List (List D)) (l1 : List (List D)) (i2 : Int) (i3 : Int) : Option (List Q) :=
  loopAt idx_ap.cfg [RK.one (LK.int IntKind.i64)] n Try.f45 [1, 0, 1, 0] [] m2 (St.mk [V.one false (D.sl (nat_lit 1) l0), V.one false (D.fn (nat_lit 29) [] [D.pt [D.sl (nat_lit 1) l1]]), V.undef, V.undef, V.undef, V.undef, V.undef, V.one true (D.int IntKind.i64 i2), V.one true (D.int IntKind.i64 i3), V.undef, V.undef, V.undef, V.undef, V.undef, V.undef, V.undef, V.undef, V.undef, V.undef] [])
theorem idx_ap.l2_eq (n : Nat) (m2 : Nat) (l0 : List (List D)) (l1 : List (List D)) (i2 : Int) (i3 : Int) :
    idx_ap.l2 n (m2 + 1) l0 l1 i2 i3 = bif decide (i3 < i2) then bif decide ((0 : Int) ≤ i3) then bif decide (i3 < (↑(List.length l0) : Int)) then Option.bind (Option.bind (some (cellD l0 (Int.toNat i3) (0 : Nat))) (D.sl? (1 : Nat))) fun (l1_1 : List (List D)) => Option.bind (Cod.decs intC l1) fun (l2 : List Int) => Option.bind (Cod.decs intC l1_1) fun (l3 : List Int) => bif decide (List.length l2 = List.length l3) then bif apart l2 l3 then some [Q.one (D.int IntKind.i64 i3)] else idx_ap.l2 n m2 l0 l1 i2 (IntKind.wrap IntKind.i64 (i3 + (1 : Int))) else none else none else none else some [Q.one (D.int IntKind.i64 (-1 : Int))] := by kernel_rfl
noncomputable def idx_ap.res (n : Nat) (a0 : List (List D)) (c0 : List (List D)) : Option (List Q) :=
  idx_ap.l2 n n a0 c0 (↑(List.length a0) : Int) (0 : Int)
theorem idx_ap.run (n : Nat) (a0 : List (List D)) (c0 : List (List D)) :
    run1 idx_ap.cfg [RK.one (LK.int IntKind.i64)] n Try.f45 [Q.one (D.sl (1 : Nat) a0), Q.one (D.fn (29 : FuncId) [] [D.pt [D.sl (1 : Nat) c0]])] = idx_ap.res n a0 c0 := by kernel_rfl
theorem idx_ap.ev {n : Nat} {a0 : List (List D)} {c0 : List (List D)} {r : List Q} (h : idx_ap.res n a0 c0 = some r) : Snd Try.prog C0 45 [.one (.sl 1 a0), .one (.fn 29 [] [.pt [.sl 1 c0]])] r :=
  snd_ev (C := idx_ap.cfg) cfg0 mix rfl rfl rfl rfl rfl (.cons impl_HasTwoLoops_1_1.ok .nil) .nil rfl Try.func45 (by kernel_rfl) (by kernel_rfl) rfl ((idx_ap.run n a0 c0).trans h)

theorem idx_ap.loop {n : Nat} {a : List Int} {l : List (List Int)} (ha : a.length ≤ LIM) (hl : l.length ≤ LIM) (hs : sameLen a l = true) : ∀ (d k m : Nat), k + d = l.length → d < m → idx_ap.l2 n m (rowC.encs l) (intC.encs a) l.length k = some [Q.one (.int .i64 (Sp.idxFrom (apart a) (l.drop k) k))] := by
  intro d
  induction d with
  | zero =>
    intro k m hk hm
    obtain ⟨m, rfl⟩ : ∃ m', m = m' + 1 := ⟨m - 1, by omega⟩
    obtain rfl : k = l.length := by omega
    simp [idx_ap.l2_eq, Sp.idxFrom]
  | succ d ih =>
    intro k m hk hm
    obtain ⟨m, rfl⟩ : ∃ m', m = m' + 1 := ⟨m - 1, by omega⟩
    have hlt : k < l.length := by omega
    have he : a.length = l[k].length := of_decide_eq_true (List.all_eq_true.1 hs l[k] (List.getElem_mem hlt))
    rw [idx_ap.l2_eq, List.drop_eq_getElem_cons hlt, Sp.idxFrom]
    simp only [Cod.encs_len, Int.ofNat_lt, hlt, decide_true, cond_true, Int.natCast_nonneg, Int.toNat_natCast, rowC_cell' hlt, Option.bind_some, Cod.decs_encs ha, Cod.decs_encs (show l[k].length ≤ LIM by omega), he, wrap_succ (show k ≤ LIM by omega), ih (k + 1) m (by omega) (by omega)]
    cases apart a l[k] <;> rfl
def idx_ap.stub : Stub
  | [.one (.sl 1 es), .one (.fn 29 [] [.pt [.sl 1 ca]])] => .any (rowC.decs es) fun l => .any (intC.decs ca) fun a => .gd (sameLen a l) (.ret [.one (.int .i64 (Sp.idxFrom (apart a) l 0))])
  | _ => .fail
theorem idx_ap.ok : StubOk Try.prog C0 45 idx_ap.stub := by
  intro args res h
  unfold idx_ap.stub at h
  split at h
  · obtain ⟨l, h1, h0⟩ := any_out h
    obtain ⟨rfl, hl⟩ := Cod.decs_inv h1
    obtain ⟨a, h1', h2⟩ := any_out h0
    obtain ⟨rfl, hl'⟩ := Cod.decs_inv h1'
    obtain ⟨h3, h4⟩ := gd_out h2
    cases h4
    refine idx_ap.ev (n := l.length + 1) ?_
    unfold idx_ap.res
    simpa using idx_ap.loop (n := l.length + 1) hl' hl h3 l.length 0 (l.length + 1) (by omega) (by omega)
  · cases h
/-! con_ap -/
noncomputable def con_ap.cfg : Cfg := { C0 with keep := fun _ => none, nb := 0, M := tabM [(45, idx_ap.stub)], MM := tabB [] }
noncomputable def con_ap.res (n : Nat) (a0 : List (List D)) (c0 : List (List D)) : Option (List Q) :=
  Option.bind (Cod.decs rowC a0) fun (l1 : List (List Int)) => Option.bind (Cod.decs intC c0) fun (l2 : List Int) => bif sameLen l2 l1 then some [Q.one (D.bool (decide (idxFrom (apart l2) l1 (0 : Nat) ≥ (0 : Int))))] else none
theorem con_ap.run (n : Nat) (a0 : List (List D)) (c0 : List (List D)) :
    run1 con_ap.cfg [RK.one LK.bool] n Try.f27 [Q.one (D.sl (1 : Nat) a0), Q.one (D.fn (29 : FuncId) [] [D.pt [D.sl (1 : Nat) c0]])] = con_ap.res n a0 c0 := by kernel_rfl
theorem con_ap.ev {n : Nat} {a0 : List (List D)} {c0 : List (List D)} {r : List Q} (h : con_ap.res n a0 c0 = some r) : Snd Try.prog C0 27 [.one (.sl 1 a0), .one (.fn 29 [] [.pt [.sl 1 c0]])] r :=
  snd_ev (C := con_ap.cfg) cfg0 mix rfl rfl rfl rfl rfl (.cons idx_ap.ok .nil) .nil rfl Try.func27 (by kernel_rfl) (by kernel_rfl) rfl ((con_ap.run n a0 c0).trans h)

def con_ap.stub : Stub
  | [.one (.sl 1 es), .one (.fn 29 [] [.pt [.sl 1 ca]])] => .any (rowC.decs es) fun l => .any (intC.decs ca) fun a => .gd (sameLen a l) (.ret [.one (.bool (Sp.anyApart a l))])
  | _ => .fail
theorem con_ap.ok : StubOk Try.prog C0 27 con_ap.stub := by
  intro args res h
  unfold con_ap.stub at h
  split at h
  · obtain ⟨l, h1, h0⟩ := any_out h
    obtain ⟨rfl, hl⟩ := Cod.decs_inv h1
    obtain ⟨a, h1', h2⟩ := any_out h0
    obtain ⟨rfl, hl'⟩ := Cod.decs_inv h1'
    obtain ⟨h3, h4⟩ := gd_out h2
    cases h4
    refine con_ap.ev (n := 0) ?_
    unfold con_ap.res
    simp only [Cod.decs_encs hl, Cod.decs_encs hl', Option.bind_some, h3, cond_true]
    rw [show Sp.anyApart a l = l.any (apart a) from rfl, ← Sp.idxFrom_any l (apart a) 0]
  · cases h
/-! impl_HasTwoLoops_1 -/
noncomputable def impl_HasTwoLoops_1.cfg : Cfg := { C0 with keep := fun _ => none, nb := 0, M := tabM [(27, con_ap.stub)], MM := tabB [] }
noncomputable def impl_HasTwoLoops_1.res (n : Nat) (a0 : List (List D)) (c0 : List (List D)) : Option (List Q) :=
  Option.bind (Cod.decs rowC c0) fun (l1 : List (List Int)) => Option.bind (Cod.decs intC a0) fun (l2 : List Int) => bif sameLen l2 l1 then some [Q.one (D.bool (anyApart l2 l1))] else none
theorem impl_HasTwoLoops_1.run (n : Nat) (a0 : List (List D)) (c0 : List (List D)) :
    run1 impl_HasTwoLoops_1.cfg [RK.one LK.bool] n Try.f28 [Q.one (D.sl (1 : Nat) a0), Q.one (D.pt [D.sl (1 : Nat) c0])] = impl_HasTwoLoops_1.res n a0 c0 := by kernel_rfl
theorem impl_HasTwoLoops_1.ev {n : Nat} {a0 : List (List D)} {c0 : List (List D)} {r : List Q} (h : impl_HasTwoLoops_1.res n a0 c0 = some r) : Snd Try.prog C0 28 [.one (.sl 1 a0), .one (.pt [.sl 1 c0])] r :=
  snd_ev (C := impl_HasTwoLoops_1.cfg) cfg0 mix rfl rfl rfl rfl rfl (.cons con_ap.ok .nil) .nil rfl Try.func28 (by kernel_rfl) (by kernel_rfl) rfl ((impl_HasTwoLoops_1.run n a0 c0).trans h)

def impl_HasTwoLoops_1.stub : Stub
  | [.one (.sl 1 ea), .one (.pt [.sl 1 el])] => .any (rowC.decs el) fun l => .any (intC.decs ea) fun a => .gd (sameLen a l) (.ret [.one (.bool (Sp.anyApart a l))])
  | _ => .fail
theorem impl_HasTwoLoops_1.ok : StubOk Try.prog C0 28 impl_HasTwoLoops_1.stub := by
  intro args res h
  unfold impl_HasTwoLoops_1.stub at h
  split at h
  · obtain ⟨l, h1, h0⟩ := any_out h
    obtain ⟨rfl, hl⟩ := Cod.decs_inv h1
    obtain ⟨a, h1', h2⟩ := any_out h0
    obtain ⟨rfl, hl'⟩ := Cod.decs_inv h1'
    obtain ⟨h3, h4⟩ := gd_out h2
    cases h4
    refine impl_HasTwoLoops_1.ev (n := 0) ?_
    unfold impl_HasTwoLoops_1.res
    simp only [Cod.decs_encs hl, Cod.decs_encs hl', Option.bind_some, h3, cond_true]
  · cases h
/-! idx_tl -/
noncomputable def idx_tl.cfg : Cfg := { C0 with keep := fun | 2 => some [0, 1, 7, 8] | _ => none, nb := 0, M := tabM [(28, impl_HasTwoLoops_1.stub)], MM := tabB [] }
noncomputable def idx_tl.l2 (n : Nat) (m2 : Nat) (l0 : List (List D)) (l1 : List (List D)) (i2 : Int) (i3 : Int) : Option (List Q) :=
  loopAt idx_tl.cfg [RK.one (LK.int IntKind.i64)] n Try.f45 [1, 0, 1, 0] [] m2 (St.mk [V.one false (D.sl (nat_lit 1) l0), V.one false (D.fn (nat_lit 28) [] [D.pt [D.sl (nat_lit 1) l1]]), V.undef, V.undef, V.undef, V.undef, V.undef, V.one true (D.int IntKind.i64 i2), V.one true (D.int IntKind.i64 i3), V.undef, V.undef, V.undef, V.undef, V.undef, V.undef, V.undef, V.undef, V.undef, V.undef] [])
theorem idx_tl.l2_eq (n : Nat) (m2 : Nat) (l0 : List (List D)) (l1 : List (List D)) (i2 : Int) (i3 : Int) :
    idx_tl.l2 n (m2 + 1) l0 l1 i2 i3 = bif decide (i3 < i2) then bif decide ((0 : Int) ≤ i3) then bif decide (i3 < (↑(List.length l0) : Int)) then Option.bind (Option.bind (some (cellD l0 (Int.toNat i3) (0 : Nat))) (D.sl? (1 : Nat))) fun (l1_1 : List (List D)) => Option.bind (Cod.decs rowC l1) fun (l2 : List (List Int)) => Option.bind (Cod.decs intC l1_1) fun (l3 : List Int) => bif sameLen l3 l2 then bif anyApart l3 l2 then some [Q.one (D.int IntKind.i64 i3)] else idx_tl.l2 n m2 l0 l1 i2 (IntKind.wrap IntKind.i64 (i3 + (1 : Int))) else none else none else none else some [Q.one (D.int IntKind.i64 (-1 : Int))] := by kernel_rfl
noncomputable def idx_tl.res (n : Nat) (a0 : List (List D)) (c0 : List (List D)) : Option (List Q) :=
  idx_tl.l2 n n a0 c0 (↑(List.length a0) : Int) (0 : Int)
theorem idx_tl.run (n : Nat) (a0 : List (List D)) (c0 : List (List D)) :
    run1 idx_tl.cfg [RK.one (LK.int IntKind.i64)] n Try.f45 [Q.one (D.sl (1 : Nat) a0), Q.one (D.fn (28 : FuncId) [] [D.pt [D.sl (1 : Nat) c0]])] = idx_tl.res n a0 c0 := by kernel_rfl
theorem idx_tl.ev {n : Nat} {a0 : List (List D)} {c0 : List (List D)} {r : List Q} (h : idx_tl.res n a0 c0 = some r) : Snd Try.prog C0 45 [.one (.sl 1 a0), .one (.fn 28 [] [.pt [.sl 1 c0]])] r :=
  snd_ev (C := idx_tl.cfg) cfg0 mix rfl rfl rfl rfl rfl (.cons impl_HasTwoLoops_1.ok .nil) .nil rfl Try.func45 (by kernel_rfl) (by kernel_rfl) rfl ((idx_tl.run n a0 c0).trans h)

theorem idx_tl.loop {n : Nat} {ls l : List (List Int)} (ha : ls.length ≤ LIM) (hl : l.length ≤ LIM) (hL : ∀ a ∈ ls, a.length ≤ LIM) (hs : allSame ls l = true) : ∀ (d k m : Nat), k + d = ls.length → d < m → idx_tl.l2 n m (rowC.encs ls) (rowC.encs l) ls.length k = some [Q.one (.int .i64 (Sp.idxFrom (fun a => anyApart a l) (ls.drop k) k))] := by
  intro d
  induction d with
  | zero =>
    intro k m hk hm
    obtain ⟨m, rfl⟩ : ∃ m', m = m' + 1 := ⟨m - 1, by omega⟩
    obtain rfl : k = ls.length := by omega
    simp [idx_tl.l2_eq, Sp.idxFrom]
  | succ d ih =>
    intro k m hk hm
    obtain ⟨m, rfl⟩ : ∃ m', m = m' + 1 := ⟨m - 1, by omega⟩
    have hlt : k < ls.length := by omega
    have he : sameLen ls[k] l = true := List.all_eq_true.1 hs ls[k] (List.getElem_mem hlt)
    rw [idx_tl.l2_eq, List.drop_eq_getElem_cons hlt, Sp.idxFrom]
    simp only [Cod.encs_len, Int.ofNat_lt, hlt, decide_true, cond_true, Int.natCast_nonneg, Int.toNat_natCast, rowC_cell' hlt, Option.bind_some, Cod.decs_encs hl, Cod.decs_encs (hL ls[k] (List.getElem_mem hlt)), he, wrap_succ (show k ≤ LIM by omega), ih (k + 1) m (by omega) (by omega)]
    cases anyApart ls[k] l <;> rfl
def idx_tl.stub : Stub
  | [.one (.sl 1 es), .one (.fn 28 [] [.pt [.sl 1 el]])] => .any (rowC.decs es) fun ls => .any (rowC.decs el) fun l => .gd (allSame ls l) (.gd (Sp.shortAll ls) (.ret [.one (.int .i64 (Sp.idxFrom (fun a => anyApart a l) ls 0))]))
  | _ => .fail
theorem idx_tl.ok : StubOk Try.prog C0 45 idx_tl.stub := by
  intro args res h
  unfold idx_tl.stub at h
  split at h
  · obtain ⟨ls, h1, h0⟩ := any_out h
    obtain ⟨rfl, hl⟩ := Cod.decs_inv h1
    obtain ⟨l, h1', h2⟩ := any_out h0
    obtain ⟨rfl, hl'⟩ := Cod.decs_inv h1'
    obtain ⟨h3, h4⟩ := gd_out h2
    obtain ⟨h5, h6⟩ := gd_out h4
    cases h6
    refine idx_tl.ev (n := ls.length + 1) ?_
    unfold idx_tl.res
    have h7 : ∀ a ∈ ls, a.length ≤ LIM := fun a ha => of_decide_eq_true (List.all_eq_true.1 h5 a ha)
    simpa using idx_tl.loop (n := ls.length + 1) hl hl' h7 h3 ls.length 0 (ls.length + 1) (by omega) (by omega)
  · cases h
/-! con_tl -/
noncomputable def con_tl.cfg : Cfg := { C0 with keep := fun _ => none, nb := 0, M := tabM [(45, idx_tl.stub)], MM := tabB [] }
noncomputable def con_tl.res (n : Nat) (a0 : List (List D)) (c0 : List (List D)) : Option (List Q) :=
  Option.bind (Cod.decs rowC a0) fun (l1 : List (List Int)) => Option.bind (Cod.decs rowC c0) fun (l2 : List (List Int)) => bif allSame l1 l2 then bif shortAll l1 then some [Q.one (D.bool (decide (idxFrom (fun (a : List Int) => anyApart a l2) l1 (0 : Nat) ≥ (0 : Int))))] else none else none
theorem con_tl.run (n : Nat) (a0 : List (List D)) (c0 : List (List D)) :
    run1 con_tl.cfg [RK.one LK.bool] n Try.f27 [Q.one (D.sl (1 : Nat) a0), Q.one (D.fn (28 : FuncId) [] [D.pt [D.sl (1 : Nat) c0]])] = con_tl.res n a0 c0 := by kernel_rfl
theorem con_tl.ev {n : Nat} {a0 : List (List D)} {c0 : List (List D)} {r : List Q} (h : con_tl.res n a0 c0 = some r) : Snd Try.prog C0 27 [.one (.sl 1 a0), .one (.fn 28 [] [.pt [.sl 1 c0]])] r :=
  snd_ev (C := con_tl.cfg) cfg0 mix rfl rfl rfl rfl rfl (.cons idx_tl.ok .nil) .nil rfl Try.func27 (by kernel_rfl) (by kernel_rfl) rfl ((con_tl.run n a0 c0).trans h)

def con_tl.stub : Stub
  | [.one (.sl 1 es), .one (.fn 28 [] [.pt [.sl 1 el]])] => .any (rowC.decs es) fun ls => .any (rowC.decs el) fun l => .gd (allSame ls l) (.gd (Sp.shortAll ls) (.ret [.one (.bool (Sp.anyAny ls l))]))
  | _ => .fail
theorem con_tl.ok : StubOk Try.prog C0 27 con_tl.stub := by
  intro args res h
  unfold con_tl.stub at h
  split at h
  · obtain ⟨ls, h1, h0⟩ := any_out h
    obtain ⟨rfl, hl⟩ := Cod.decs_inv h1
    obtain ⟨l, h1', h2⟩ := any_out h0
    obtain ⟨rfl, hl'⟩ := Cod.decs_inv h1'
    obtain ⟨h3, h4⟩ := gd_out h2
    obtain ⟨h5, h6⟩ := gd_out h4
    cases h6
    refine con_tl.ev (n := 0) ?_
    unfold con_tl.res
    simp only [Cod.decs_encs hl, Cod.decs_encs hl', Option.bind_some, h3, h5, cond_true]
    rw [Sp.anyAny, ← Sp.idxFrom_any ls (fun a => anyApart a l) 0]
  · cases h
/-! impl_HasTwoLoops -/
noncomputable def impl_HasTwoLoops.cfg : Cfg := { C0 with keep := fun _ => none, nb := 0, M := tabM [(25, impl_areTower.stub), (26, impl_loops.stub), (27, con_tl.stub)], MM := tabB [] }
noncomputable def impl_HasTwoLoops.res (n : Nat) (a0 : List (List D)) : Option (List Q) :=
  Option.bind (Cod.decs dieC a0) fun (l1 : List Die) => bif !areDice l1 then some [Q.one (D.bool false), Q.one (D.bool false)] else Option.bind (Cod.decs dieC a0) fun (l2 : List Die) => bif areDice l2 then Option.bind (Cod.decs rowC (Cod.encs rowC (loops l2))) fun (l3 : List (List Int)) => Option.bind (Cod.decs rowC (Cod.encs rowC (loops l2))) fun (l4 : List (List Int)) => bif allSame l3 l4 then bif shortAll l3 then some [Q.one (D.bool (anyAny l3 l4)), Q.one (D.bool true)] else none else none else none
theorem impl_HasTwoLoops.run (n : Nat) (a0 : List (List D)) :
    run1 impl_HasTwoLoops.cfg [RK.one LK.bool, RK.one LK.bool] n Try.f12 [Q.one (D.sl (6 : Nat) a0)] = impl_HasTwoLoops.res n a0 := by kernel_rfl
theorem impl_HasTwoLoops.ev {n : Nat} {a0 : List (List D)} {r : List Q} (h : impl_HasTwoLoops.res n a0 = some r) : Snd Try.prog C0 12 [.one (.sl 6 a0)] r :=
  snd_ev (C := impl_HasTwoLoops.cfg) cfg0 mix rfl rfl rfl rfl rfl (.cons impl_areTower.ok (.cons impl_loops.ok (.cons con_tl.ok .nil))) .nil rfl Try.func12 (by kernel_rfl) (by kernel_rfl) rfl ((impl_HasTwoLoops.run n a0).trans h)

def impl_HasTwoLoops.stub : Stub
  | [.one (.sl 6 es)] => .any (dieC.decs es) fun l => .ret [.one (.bool (Sp.areDice l && Sp.twoApart (loops l))), .one (.bool (Sp.areDice l))]
  | _ => .fail
theorem areDice_len {l : List Die} (h : areDice l = true) : 1 ≤ l.length ∧ l.length ≤ 4 := by
  unfold areDice at h
  rw [Bool.and_eq_true] at h
  have := inR_true h.1
  omega
theorem impl_HasTwoLoops.ok : StubOk Try.prog C0 12 impl_HasTwoLoops.stub := by
  intro args res h
  unfold impl_HasTwoLoops.stub at h
  split at h
  · obtain ⟨l, h1, h0⟩ := any_out h
    obtain ⟨rfl, hl⟩ := Cod.decs_inv h1
    cases h0
    refine impl_HasTwoLoops.ev (n := 0) ?_
    unfold impl_HasTwoLoops.res
    simp only [Cod.decs_encs hl, Option.bind_some]
    cases hd : areDice l
    · rfl
    · have h4 := areDice_len hd
      have h5 := loops_le h4.2
      have h6 : (loops l).length ≤ LIM := by unfold LIM; omega
      have h7 : Sp.shortAll (loops l) = true := by
        unfold Sp.shortAll
        simp only [List.all_eq_true, decide_eq_true_eq]
        intro a ha
        rw [loops_len ha]; unfold LIM; omega
      simp only [Bool.not_true, cond_false, cond_true, Cod.decs_encs h6, Option.bind_some, allSame_loops, h7, Bool.true_and, twoApart]
  · cases h
/-! spec_HasTwoLoops -/
noncomputable def spec_HasTwoLoops.cfg : Cfg := { C0 with keep := fun | 5 => some [4, 16, 17, 18] | 8 => some [4, 6, 16, 17, 18, 22, 23, 24] | 12 => some [4, 6, 8, 9, 16, 17, 18, 22, 23, 24, 29, 30] | _ => none, nb := 0, M := tabM [(22, spec_clDice.stub), (23, spec_clLoops.stub)], MM := tabB [] }
noncomputable def spec_HasTwoLoops.l5 (n : Nat) (m5 : Nat) (i0 : Int) (i1 : Int) (l2 : List (List D)) : Option (List Q) :=
  loopAt spec_HasTwoLoops.cfg [RK.one LK.bool, RK.one LK.bool] n Try.f10 [1, 1, 1, 0, 1, 0] [] m5 (St.mk [V.undef, V.undef, V.undef, V.undef, V.rw (nat_lit 0), V.undef, V.undef, V.undef, V.undef, V.undef, V.undef, V.undef, V.undef, V.undef, V.undef, V.undef, V.rw (nat_lit 0), V.one true (D.int IntKind.i64 i0), V.one true (D.int IntKind.i64 i1), V.undef, V.undef, V.undef, V.undef, V.undef, V.undef, V.undef, V.undef, V.undef, V.undef, V.undef, V.undef, V.undef, V.undef, V.undef, V.undef, V.undef, V.undef, V.undef, V.undef, V.undef, V.undef, V.undef, V.undef, V.undef, V.undef, V.undef, V.undef, V.undef, V.undef] [Ob.row false (nat_lit 1) l2])
noncomputable def spec_HasTwoLoops.l8 (n : Nat) (m5 : Nat) (m8 : Nat) (l0 : List (List D)) (i1 : Int) (i2 : Int) (i3 : Int) (i4 : Int) (l5 : List (List D)) : Option (List Q) :=
  loopAt spec_HasTwoLoops.cfg [RK.one LK.bool, RK.one LK.bool] n Try.f10 [1, 1, 1, 0, 1, 0, 0, 1, 1, 0, 0, 1, 1, 0] [m5] m8 (St.mk [V.undef, V.undef, V.undef, V.undef, V.rw (nat_lit 0), V.undef, V.one true (D.sl (nat_lit 1) l0), V.undef, V.undef, V.undef, V.undef, V.undef, V.undef, V.undef, V.undef, V.undef, V.rw (nat_lit 0), V.one true (D.int IntKind.i64 i1), V.one true (D.int IntKind.i64 i2), V.undef, V.undef, V.undef, V.rw (nat_lit 0), V.one true (D.int IntKind.i64 i3), V.one true (D.int IntKind.i64 i4), V.undef, V.undef, V.undef, V.undef, V.undef, V.undef, V.undef, V.undef, V.undef, V.undef, V.undef, V.undef, V.undef, V.undef, V.undef, V.undef, V.undef, V.undef, V.undef, V.undef, V.undef, V.undef, V.undef, V.undef] [Ob.row false (nat_lit 1) l5])
noncomputable def spec_HasTwoLoops.l12 (n : Nat) (m5 : Nat) (m8 : Nat) (m12 : Nat) (l0 : List (List D)) (l1 : List (List D)) (b2 : Bool) (i3 : Int) (i4 : Int) (i5 : Int) (i6 : Int) (i7 : Int) (i8 : Int) (l9 : List (List D)) : Option (List Q) :=
  loopAt spec_HasTwoLoops.cfg [RK.one LK.bool, RK.one LK.bool] n Try.f10 [1, 1, 1, 0, 1, 0, 0, 1, 1, 0, 0, 1, 1, 0, 0, 1, 1, 0, 0, 1, 1, 0, 1, 0] [m5, m8] m12 (St.mk [V.undef, V.undef, V.undef, V.undef, V.rw (nat_lit 0), V.undef, V.one true (D.sl (nat_lit 1) l0), V.undef, V.one true (D.sl (nat_lit 1) l1), V.one true (D.bool b2), V.undef, V.undef, V.undef, V.undef, V.undef, V.undef, V.rw (nat_lit 0), V.one true (D.int IntKind.i64 i3), V.one true (D.int IntKind.i64 i4), V.undef, V.undef, V.undef, V.rw (nat_lit 0), V.one true (D.int IntKind.i64 i5), V.one true (D.int IntKind.i64 i6), V.undef, V.undef, V.undef, V.undef, V.one true (D.int IntKind.i64 i7), V.one true (D.int IntKind.i64 i8), V.undef, V.undef, V.undef, V.undef, V.undef, V.undef, V.undef, V.undef, V.undef, V.undef, V.undef, V.undef, V.undef, V.undef, V.undef, V.undef, V.undef, V.undef] [Ob.row false (nat_lit 1) l9])
theorem spec_HasTwoLoops.l5_eq (n : Nat) (m5 : Nat) (i0 : Int) (i1 : Int) (l2 : List (List D)) :
    spec_HasTwoLoops.l5 n (m5 + 1) i0 i1 l2 = bif decide (i1 < i0) then bif decide ((0 : Int) ≤ i1) then bif decide (i1 < (↑(List.length l2) : Int)) then Option.bind (Option.bind (some (cellD l2 (Int.toNat i1) (0 : Nat))) (D.sl? (1 : Nat))) fun (l3 : List (List D)) => spec_HasTwoLoops.l8 n m5 n l3 i0 i1 (↑(List.length l2) : Int) (0 : Int) l2 else none else none else some [Q.one (D.bool false), Q.one (D.bool true)] := by kernel_rfl
theorem spec_HasTwoLoops.l8_eq (n : Nat) (m5 : Nat) (m8 : Nat) (l0 : List (List D)) (i1 : Int) (i2 : Int) (i3 : Int) (i4 : Int) (l5 : List (List D)) :
    spec_HasTwoLoops.l8 n m5 (m8 + 1) l0 i1 i2 i3 i4 l5 = bif decide (i4 < i3) then bif decide ((0 : Int) ≤ i4) then bif decide (i4 < (↑(List.length l5) : Int)) then Option.bind (Option.bind (some (cellD l5 (Int.toNat i4) (0 : Nat))) (D.sl? (1 : Nat))) fun (l4 : List (List D)) => spec_HasTwoLoops.l12 n m5 m8 n l0 l4 true i1 i2 i3 i4 (↑(List.length l0) : Int) (0 : Int) l5 else none else none else spec_HasTwoLoops.l5 n m5 i1 (IntKind.wrap IntKind.i64 (i2 + (1 : Int))) l5 := by kernel_rfl
theorem spec_HasTwoLoops.l12_eq (n : Nat) (m5 : Nat) (m8 : Nat) (m12 : Nat) (l0 : List (List D)) (l1 : List (List D)) (b2 : Bool) (i3 : Int) (i4 : Int) (i5 : Int) (i6 : Int) (i7 : Int) (i8 : Int) (l9 : List (List D)) :
    spec_HasTwoLoops.l12 n m5 m8 (m12 + 1) l0 l1 b2 i3 i4 i5 i6 i7 i8 l9 = bif decide (i8 < i7) then bif b2 then bif decide ((0 : Int) ≤ i8) then bif decide (i8 < (↑(List.length l0) : Int)) then Option.bind (Option.bind (some (cellD l0 (Int.toNat i8) (0 : Nat))) (D.int? IntKind.i64)) fun (i5_1 : Int) => bif decide ((0 : Int) ≤ i8) then bif decide (i8 < (↑(List.length l1) : Int)) then Option.bind (Option.bind (some (cellD l1 (Int.toNat i8) (0 : Nat))) (D.int? IntKind.i64)) fun (i6_1 : Int) => spec_HasTwoLoops.l12 n m5 m8 m12 l0 l1 (i5_1 != i6_1) i3 i4 i5 i6 i7 (IntKind.wrap IntKind.i64 (i8 + (1 : Int))) l9 else none else none else none else none else spec_HasTwoLoops.l12 n m5 m8 m12 l0 l1 false i3 i4 i5 i6 i7 (IntKind.wrap IntKind.i64 (i8 + (1 : Int))) l9 else bif b2 then some [Q.one (D.bool true), Q.one (D.bool true)] else spec_HasTwoLoops.l8 n m5 m8 l0 i3 i4 i5 (IntKind.wrap IntKind.i64 (i6 + (1 : Int))) l9 := by kernel_rfl
noncomputable def spec_HasTwoLoops.res (n : Nat) (a0 : List (List D)) : Option (List Q) :=
  Option.bind (Cod.decs dieC a0) fun (l1 : List Die) => bif !areDice l1 then some [Q.one (D.bool false), Q.one (D.bool false)] else Option.bind (Cod.decs dieC a0) fun (l2 : List Die) => bif areDice l2 then spec_HasTwoLoops.l5 n n (↑(List.length (Cod.encs rowC (loops l2))) : Int) (0 : Int) (Cod.encs rowC (loops l2)) else none
theorem spec_HasTwoLoops.run (n : Nat) (a0 : List (List D)) :
    run1 spec_HasTwoLoops.cfg [RK.one LK.bool, RK.one LK.bool] n Try.f10 [Q.one (D.sl (6 : Nat) a0)] = spec_HasTwoLoops.res n a0 := by kernel_rfl
theorem spec_HasTwoLoops.ev {n : Nat} {a0 : List (List D)} {r : List Q} (h : spec_HasTwoLoops.res n a0 = some r) : Snd Try.prog C0 10 [.one (.sl 6 a0)] r :=
  snd_ev (C := spec_HasTwoLoops.cfg) cfg0 mix rfl rfl rfl rfl rfl (.cons spec_clDice.ok (.cons spec_clLoops.ok .nil)) .nil rfl Try.func10 (by kernel_rfl) (by kernel_rfl) rfl ((spec_HasTwoLoops.run n a0).trans h)

theorem spec_HasTwoLoops.l12_run {n m5 m8 : Nat} {a b : List Int} {i3 i4 i5 i6 : Int} {o : List (List D)} (hl : a.length ≤ LIM) (he : a.length = b.length) : ∀ (d k m : Nat) (g : Bool), k + d = a.length → d < m →
    spec_HasTwoLoops.l12 n m5 m8 m (intC.encs a) (intC.encs b) g i3 i4 i5 i6 a.length k o = bif g && Sp.apart (a.drop k) (b.drop k) then some [Q.one (D.bool true), Q.one (D.bool true)] else spec_HasTwoLoops.l8 n m5 m8 (intC.encs a) i3 i4 i5 (IntKind.wrap .i64 (i6 + 1)) o := by
  intro d
  induction d with
  | zero =>
    intro k m g hk hm
    obtain ⟨m, rfl⟩ : ∃ m', m = m' + 1 := ⟨m - 1, by omega⟩
    obtain rfl : k = a.length := by omega
    simp [spec_HasTwoLoops.l12_eq, he, Sp.apart]
  | succ d ih =>
    intro k m g hk hm
    obtain ⟨m, rfl⟩ : ∃ m', m = m' + 1 := ⟨m - 1, by omega⟩
    have hlt : k < a.length := by omega
    have hlt' : k < b.length := by omega
    rw [spec_HasTwoLoops.l12_eq, List.drop_eq_getElem_cons hlt, List.drop_eq_getElem_cons hlt', Sp.apart]
    simp only [Cod.encs_len, Int.ofNat_lt, hlt, hlt', decide_true, cond_true, Int.natCast_nonneg, Int.toNat_natCast, intC_int' hlt, intC_int' hlt', Option.bind_some, wrap_succ (show k ≤ LIM by omega), ih (k + 1) m _ (by omega) (by omega)]
    cases g
    · simp only [Bool.false_and, cond_false]
    · simp only [Bool.true_and, cond_true]
theorem spec_HasTwoLoops.l8_run {n m5 : Nat} {a : List Int} {i1 i2 : Int} {l : List (List Int)} (ha : a.length ≤ LIM) (hl : l.length ≤ LIM) (hs : sameLen a l = true) (hn : a.length < n) : ∀ (d k m : Nat), k + d = l.length → d < m →
    spec_HasTwoLoops.l8 n m5 m (intC.encs a) i1 i2 l.length k (rowC.encs l) = bif anyApart a (l.drop k) then some [Q.one (D.bool true), Q.one (D.bool true)] else spec_HasTwoLoops.l5 n m5 i1 (IntKind.wrap .i64 (i2 + 1)) (rowC.encs l) := by
  intro d
  induction d with
  | zero =>
    intro k m hk hm
    obtain ⟨m, rfl⟩ : ∃ m', m = m' + 1 := ⟨m - 1, by omega⟩
    obtain rfl : k = l.length := by omega
    simp [spec_HasTwoLoops.l8_eq, anyApart]
  | succ d ih =>
    intro k m hk hm
    obtain ⟨m, rfl⟩ : ∃ m', m = m' + 1 := ⟨m - 1, by omega⟩
    have hlt : k < l.length := by omega
    have he : a.length = l[k].length := of_decide_eq_true (List.all_eq_true.1 hs l[k] (List.getElem_mem hlt))
    rw [spec_HasTwoLoops.l8_eq, List.drop_eq_getElem_cons hlt]
    simp only [Cod.encs_len, Int.ofNat_lt, hlt, decide_true, cond_true, Int.natCast_nonneg, Int.toNat_natCast, rowC_cell' hlt, Option.bind_some]
    rw [show (0 : Int) = ((0 : Nat) : Int) from rfl, spec_HasTwoLoops.l12_run ha he a.length 0 n true (by omega) hn, wrap_succ (show k ≤ LIM by omega), ih (k + 1) m (by omega) (by omega)]
    simp only [List.drop_zero, Bool.true_and, anyApart, List.any_cons]
    cases apart a l[k] <;> simp only [Bool.true_or, Bool.false_or, cond_true, cond_false]
theorem spec_HasTwoLoops.l5_run {n : Nat} {l : List (List Int)} (hl : l.length ≤ LIM) (hL : ∀ a ∈ l, a.length ≤ LIM ∧ a.length < n) (hs : allSame l l = true) (hn : l.length < n) : ∀ (d k m : Nat), k + d = l.length → d < m →
    spec_HasTwoLoops.l5 n m l.length k (rowC.encs l) = some [Q.one (D.bool ((l.drop k).any fun a => anyApart a l)), Q.one (D.bool true)] := by
  intro d
  induction d with
  | zero =>
    intro k m hk hm
    obtain ⟨m, rfl⟩ : ∃ m', m = m' + 1 := ⟨m - 1, by omega⟩
    obtain rfl : k = l.length := by omega
    simp [spec_HasTwoLoops.l5_eq]
  | succ d ih =>
    intro k m hk hm
    obtain ⟨m, rfl⟩ : ∃ m', m = m' + 1 := ⟨m - 1, by omega⟩
    have hlt : k < l.length := by omega
    have he : sameLen l[k] l = true := List.all_eq_true.1 hs l[k] (List.getElem_mem hlt)
    have hk2 := hL l[k] (List.getElem_mem hlt)
    rw [spec_HasTwoLoops.l5_eq, List.drop_eq_getElem_cons hlt]
    simp only [Cod.encs_len, Int.ofNat_lt, hlt, decide_true, cond_true, Int.natCast_nonneg, Int.toNat_natCast, rowC_cell' hlt, Option.bind_some]
    rw [show (0 : Int) = ((0 : Nat) : Int) from rfl, spec_HasTwoLoops.l8_run hk2.1 hl he hk2.2 l.length 0 n (by omega) hn, wrap_succ (show k ≤ LIM by omega), ih (k + 1) m (by omega) (by omega)]
    simp only [List.drop_zero, List.any_cons]
    cases anyApart l[k] l <;> simp only [Bool.true_or, Bool.false_or, cond_true, cond_false]
def spec_HasTwoLoops.stub : Stub
  | [.one (.sl 6 es)] => .any (dieC.decs es) fun l => .ret [.one (.bool (Sp.areDice l && Sp.twoApart (loops l))), .one (.bool (Sp.areDice l))]
  | _ => .fail
theorem spec_HasTwoLoops.ok : StubOk Try.prog C0 10 spec_HasTwoLoops.stub := by
  intro args res h
  unfold spec_HasTwoLoops.stub at h
  split at h
  · obtain ⟨l, h1, h0⟩ := any_out h
    obtain ⟨rfl, hl⟩ := Cod.decs_inv h1
    cases h0
    refine spec_HasTwoLoops.ev (n := 100) ?_
    unfold spec_HasTwoLoops.res
    simp only [Cod.decs_encs hl, Option.bind_some]
    cases hd : areDice l
    · rfl
    · have h4 := areDice_len hd
      have h5 := loops_le h4.2
      have h6 : (loops l).length ≤ LIM := by unfold LIM; omega
      have h7 : ∀ a ∈ loops l, a.length ≤ LIM ∧ a.length < 100 := by
        intro a ha
        rw [loops_len ha]; unfold LIM; omega
      simp only [Bool.not_true, cond_false, cond_true, Cod.encs_len, Bool.true_and, twoApart, anyAny]
      exact spec_HasTwoLoops.l5_run (n := 100) h6 h7 (allSame_loops l) (by omega) (loops l).length 0 100 (by omega) (by omega)
  · cases h
/-! laws_FnExactHasTwoLoops -/
noncomputable def laws_FnExactHasTwoLoops.cfg : Cfg := { C0 with keep := fun _ => none, nb := 0, M := tabM [(9, laws_szDieS.stub), (11, laws_toDieS.stub), (13, laws_eqDieS.stub), (10, spec_HasTwoLoops.stub), (12, impl_HasTwoLoops.stub)], MM := tabB [] }
noncomputable def laws_FnExactHasTwoLoops.res (n : Nat) (a0 : List (List D)) : Option (List Q) :=
  bif decide ((0 : Int) ≤ (1048576 : Int) ∧ (1048576 : Int) ≤ (1048576 : Int) ∧ List.length a0 ≤ (9223372036854775807 : Nat)) then bif decide (szL (1048576 : Int) (List.length a0) < (0 : Int)) then some [Q.one (D.bool true)] else Option.bind (Cod.decs dieC a0) fun (l1 : List Die) => Option.bind (Cod.decs dieC (Cod.encs dieC l1)) fun (l2 : List Die) => Option.bind (Cod.decs dieC a0) fun (l3 : List Die) => Option.bind (Cod.decs dieC (Cod.encs dieC l3)) fun (l4 : List Die) => bif !(areDice l4 && twoApart (loops l4)) == (areDice l2 && twoApart (loops l2)) then some [Q.one (D.bool false)] else bif !areDice l4 == areDice l2 then some [Q.one (D.bool false)] else Option.bind (Cod.decs dieC a0) fun (l5 : List Die) => Option.bind (Cod.decs dieC (Cod.encs dieC l3)) fun (l6 : List Die) => Option.bind (Cod.decs dieC (Cod.encs dieC l5)) fun (l7 : List Die) => bif !decide (l6 = l7) then some [Q.one (D.bool false)] else some [Q.one (D.bool true)] else none
theorem laws_FnExactHasTwoLoops.run (n : Nat) (a0 : List (List D)) :
    run1 laws_FnExactHasTwoLoops.cfg [RK.one LK.bool] n Try.f4 [Q.one (D.sl (6 : Nat) a0)] = laws_FnExactHasTwoLoops.res n a0 := by kernel_rfl
theorem laws_FnExactHasTwoLoops.ev {n : Nat} {a0 : List (List D)} {r : List Q} (h : laws_FnExactHasTwoLoops.res n a0 = some r) : Snd Try.prog C0 4 [.one (.sl 6 a0)] r :=
  snd_ev (C := laws_FnExactHasTwoLoops.cfg) cfg0 mix rfl rfl rfl rfl rfl (.cons laws_szDieS.ok (.cons laws_toDieS.ok (.cons laws_eqDieS.ok (.cons spec_HasTwoLoops.ok (.cons impl_HasTwoLoops.ok .nil))))) .nil rfl Try.func4 (by kernel_rfl) (by kernel_rfl) rfl ((laws_FnExactHasTwoLoops.run n a0).trans h)

theorem laws_FnExactHasTwoLoops.law (l : List Die) (hb : l.length ≤ 9223372036854775807) : Snd Try.prog C0 4 [.one (.sl 6 (dieC.encs l))] [.one (.bool true)] := by
  refine laws_FnExactHasTwoLoops.ev (n := 0) ?_
  unfold laws_FnExactHasTwoLoops.res
  simp only [Cod.encs_len, hb, Int.le_refl, and_self, decide_true, cond_true, show (0 : Int) ≤ 1048576 from by decide]
  unfold szL
  by_cases h : (1048576 : Int) - (l.length : Int) < 0
  · simp [h]
  · have hl : l.length ≤ LIM := by unfold LIM; omega
    have h2 : ¬ (if (1048576 : Int) - (l.length : Int) < 0 then (-1 : Int) else 1048576 - (l.length : Int)) < 0 := by rw [if_neg h]; exact h
    simp [h2, Cod.decs_encs hl]
end Go.Proofs.EV.PL
