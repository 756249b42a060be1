import Derived.Test.YtfbfndnppfgfmaaDoorPlB
set_option linter.unusedVariables false
set_option linter.unusedSimpArgs false
/-! The first state that solves a puzzle. -/
namespace Go.Proofs.EV.PL
open Go Go.Proofs Go.Proofs.EV Sp
/-! slices_IndexFunc_Simpl_State_impl_State -/
noncomputable def slices_IndexFunc_Simpl_State_impl_State.cfg : Cfg := { C0 with keep := fun | 2 => some [0, 1, 7, 8] | _ => none, nb := 1, M := tabM [(69, impl_Puzzle_isGoal.stub)], MM := tabB [] }
noncomputable def slices_IndexFunc_Simpl_State_impl_State.l2 (n : Nat) (m2 : Nat) (s0 : ByteArray) (i1 : Int) (i2 : Int) (i3 : Int) (i4 : Int) (i5 : Int) (i6 : Int) (i7 : Int) (i8 : Int) (i9 : Int) (i10 : Int) (i11 : Int) (i12 : Int) (i13 : Int) (l14 : List (List D)) : Option (List V × List Ob) :=
  loopAtB slices_IndexFunc_Simpl_State_impl_State.cfg n Tryd.f70 [1, 0, 1, 0] [] m2 (St.mk [V.rw (0 : Nat), V.fnv (69 : Nat) [V.agg [V.one true (D.str s0), V.one true (D.int IntKind.i64 i1), V.one true (D.int IntKind.i64 i2), V.one true (D.int IntKind.i64 i3), V.one true (D.int IntKind.i64 i4), V.one true (D.int IntKind.i64 i5), V.one true (D.int IntKind.i64 i6), V.one true (D.int IntKind.i64 i7), V.one true (D.int IntKind.i64 i8), V.one true (D.int IntKind.i64 i9), V.one true (D.int IntKind.i64 i10), V.one true (D.int IntKind.i64 i11)]] [], V.undef, V.undef, V.undef, V.undef, V.undef, V.one true (D.int IntKind.i64 i12), V.one true (D.int IntKind.i64 i13), V.undef, V.undef, V.undef, V.undef, V.undef, V.undef, V.undef, V.undef, V.undef, V.undef] [Ob.row false (8 : Nat) l14])
theorem slices_IndexFunc_Simpl_State_impl_State.l2_eq (n : Nat) (m2 : Nat) (s0 : ByteArray) (i1 : Int) (i2 : Int) (i3 : Int) (i4 : Int) (i5 : Int) (i6 : Int) (i7 : Int) (i8 : Int) (i9 : Int) (i10 : Int) (i11 : Int) (i12 : Int) (i13 : Int) (l14 : List (List D)) :
    slices_IndexFunc_Simpl_State_impl_State.l2 n (m2 + 1) s0 i1 i2 i3 i4 i5 i6 i7 i8 i9 i10 i11 i12 i13 l14 = bif decide (i13 < i12) then bif decide ((0 : Int) ≤ i13) then bif decide (i13 < (↑(List.length l14) : Int)) then Option.bind (Option.bind (some (cellD l14 (Int.toNat i13) (0 : Nat))) (D.int? IntKind.i64)) fun (i1_1 : Int) => Option.bind (Option.bind (some (cellD l14 (Int.toNat i13) (1 : Nat))) (D.int? IntKind.i64)) fun (i2_1 : Int) => Option.bind (Option.bind (some (cellD l14 (Int.toNat i13) (2 : Nat))) (D.int? IntKind.i64)) fun (i3_1 : Int) => Option.bind (Option.bind (some (cellD l14 (Int.toNat i13) (3 : Nat))) (D.int? IntKind.i64)) fun (i4_1 : Int) => Option.bind (Option.bind (some (cellD l14 (Int.toNat i13) (4 : Nat))) (D.int? IntKind.i64)) fun (i5_1 : Int) => Option.bind (Option.bind (some (cellD l14 (Int.toNat i13) (5 : Nat))) (D.int? IntKind.i64)) fun (i6_1 : Int) => Option.bind (Option.bind (some (cellD l14 (Int.toNat i13) (6 : Nat))) (D.int? IntKind.i64)) fun (i7_1 : Int) => Option.bind (Option.bind (some (cellD l14 (Int.toNat i13) (7 : Nat))) (D.int? IntKind.i64)) fun (i8_1 : Int) => bif doneS i9 i10 i11 (Sta.mk i1_1 i2_1 (Die.mk i3_1 i4_1 i5_1 i6_1 i7_1 i8_1)) then some ([V.one true (D.int IntKind.i64 i13)], [Ob.row false (8 : Nat) l14]) else slices_IndexFunc_Simpl_State_impl_State.l2 n m2 s0 i1 i2 i3 i4 i5 i6 i7 i8 i9 i10 i11 i12 (IntKind.wrap IntKind.i64 (i13 + (1 : Int))) l14 else none else none else some ([V.one true (D.int IntKind.i64 (-1 : Int))], [Ob.row false (8 : Nat) l14]) := by kernel_rfl
noncomputable def slices_IndexFunc_Simpl_State_impl_State.res (n : Nat) (es : List (List D)) (q : ByteArray) (x : Int) (y : Int) (t : Int) (z : Int) (e : Int) (s : Int) (w : Int) (b : Int) (px : Int) (py : Int) (pt : Int) : Option (List V × List Ob) :=
  slices_IndexFunc_Simpl_State_impl_State.l2 n n q x y t z e s w b px py pt (↑(List.length es) : Int) (0 : Int) es
theorem slices_IndexFunc_Simpl_State_impl_State.run (n : Nat) (es : List (List D)) (q : ByteArray) (x : Int) (y : Int) (t : Int) (z : Int) (e : Int) (s : Int) (w : Int) (b : Int) (px : Int) (py : Int) (pt : Int) :
    (fun p : List V × List Ob => runB slices_IndexFunc_Simpl_State_impl_State.cfg n Tryd.f70 p.1 p.2) ([V.rw (0 : Nat), V.fnv (69 : FuncId) [V.agg [V.one true (D.str q), V.one true (D.int IntKind.i64 x), V.one true (D.int IntKind.i64 y), V.one true (D.int IntKind.i64 t), V.one true (D.int IntKind.i64 z), V.one true (D.int IntKind.i64 e), V.one true (D.int IntKind.i64 s), V.one true (D.int IntKind.i64 w), V.one true (D.int IntKind.i64 b), V.one true (D.int IntKind.i64 px), V.one true (D.int IntKind.i64 py), V.one true (D.int IntKind.i64 pt)]] []], [Ob.row false (8 : Nat) es]) = slices_IndexFunc_Simpl_State_impl_State.res n es q x y t z e s w b px py pt := by kernel_rfl
theorem slices_IndexFunc_Simpl_State_impl_State.ev {n : Nat} {es : List (List D)} {q : ByteArray} {x : Int} {y : Int} {t : Int} {z : Int} {e : Int} {s : Int} {w : Int} {b : Int} {px : Int} {py : Int} {pt : Int} {r : List V} {o : List Ob} (h : slices_IndexFunc_Simpl_State_impl_State.res n es q x y t z e s w b px py pt = some (r, o)) : SndB Tryd.prog C0 70 [.rw 0, .fnv 69 [.agg [.one true (.str q), .one true (.int .i64 x), .one true (.int .i64 y), .one true (.int .i64 t), .one true (.int .i64 z), .one true (.int .i64 e), .one true (.int .i64 s), .one true (.int .i64 w), .one true (.int .i64 b), .one true (.int .i64 px), .one true (.int .i64 py), .one true (.int .i64 pt)]] []] [.row false 8 es] r o :=
  sndB_ev (C := slices_IndexFunc_Simpl_State_impl_State.cfg) cfg0 mix rfl rfl rfl rfl rfl (.cons impl_Puzzle_isGoal.ok .nil) .nil Tryd.func70 (by kernel_rfl) (by kernel_rfl) rfl ((slices_IndexFunc_Simpl_State_impl_State.run n es q x y t z e s w b px py pt).trans h)

theorem slices_IndexFunc_Simpl_State_impl_State.l2_run {n : Nat} {q : ByteArray} {i1 i2 i3 i4 i5 i6 i7 i8 px py pt : Int} {L : List Sta} (hL : L.length ≤ LIM) : ∀ (d i m : Nat), i + d = L.length → d < m →
    slices_IndexFunc_Simpl_State_impl_State.l2 n m q i1 i2 i3 i4 i5 i6 i7 i8 px py pt ((L.length : Nat) : Int) (i : Int) (stC.encs L) = some ([V.one true (.int .i64 (ixO (firstAt px py pt (L.drop i) i)))], [Ob.row false 8 (stC.encs L)]) := by
  intro d
  induction d with
  | zero =>
    intro i m hi hm
    obtain ⟨m, rfl⟩ : ∃ m', m = m' + 1 := ⟨m - 1, by omega⟩
    have h1 : ¬ (i : Int) < ((L.length : Nat) : Int) := by omega
    rw [slices_IndexFunc_Simpl_State_impl_State.l2_eq, List.drop_of_length_le (by omega)]
    simp only [h1, decide_false, cond_false]
    rfl
  | succ d ih =>
    intro i m hi hm
    obtain ⟨m, rfl⟩ : ∃ m', m = m' + 1 := ⟨m - 1, by omega⟩
    have hlt : i < L.length := by omega
    have h1 : (i : Int) < ((L.length : Nat) : Int) := by omega
    obtain ⟨c0, c1, c2, c3, c4, c5, c6, c7⟩ := st_cells hlt
    have step := ih (i + 1) m (by omega) (by omega)
    rw [slices_IndexFunc_Simpl_State_impl_State.l2_eq, List.drop_eq_getElem_cons hlt, firstAt]
    simp only [h1, Cod.encs_len, Int.natCast_nonneg, Int.toNat_natCast, decide_true, cond_true, c0, c1, c2, c3, c4, c5, c6, c7, Option.bind_some, Die.eta, wrap_succ (show i ≤ LIM by omega), step]
    rw [show (Sta.mk L[i].x L[i].y L[i].d) = L[i] from rfl]
    cases doneS px py pt L[i] <;> rfl
def slices_IndexFunc_Simpl_State_impl_State.stub : StubB
  | [.rw 0, .fnv g [.agg cs] []], [.row false 8 es] => .any (stC.decs es) fun l => .gd (Nat.beq g 69) (.any (Sp.pz3 cs) fun t => .ret ([.one true (.int .i64 (Sp.ixO (Sp.firstAt t.1 t.2.1 t.2.2 l 0)))], [.row false 8 es]))
  | _, _ => .fail
theorem pz3_out {cs : List V} {t : Int × Int × Int} (h : pz3 cs = some t) : ∃ (q : ByteArray) (x y t' z e s w b px py pt : Int), cs = [.one true (.str q), .one true (.int .i64 x), .one true (.int .i64 y), .one true (.int .i64 t'), .one true (.int .i64 z), .one true (.int .i64 e), .one true (.int .i64 s), .one true (.int .i64 w), .one true (.int .i64 b), .one true (.int .i64 px), .one true (.int .i64 py), .one true (.int .i64 pt)] ∧ t = (px, py, pt) := by
  unfold pz3 at h
  split at h
  · cases h
    exact ⟨_, _, _, _, _, _, _, _, _, _, _, _, rfl, rfl⟩
  · cases h
theorem slices_IndexFunc_Simpl_State_impl_State.ok : StubBOk Tryd.prog C0 70 slices_IndexFunc_Simpl_State_impl_State.stub := by
  intro args objs res objs' h
  unfold slices_IndexFunc_Simpl_State_impl_State.stub at h
  split at h
  · rename_i g cs es
    obtain ⟨l, h1, h0⟩ := any_out h
    obtain ⟨rfl, hl⟩ := Cod.decs_inv h1
    obtain ⟨h2, ha⟩ := gd_out h0
    obtain ⟨t, h3, hb⟩ := any_out ha
    cases hb
    obtain rfl := Nat.eq_of_beq_eq_true h2
    obtain ⟨q, x, y, t', z, e, s, w, b, px, py, pt, rfl, rfl⟩ := pz3_out h3
    refine slices_IndexFunc_Simpl_State_impl_State.ev (n := l.length + 1) ?_
    unfold slices_IndexFunc_Simpl_State_impl_State.res
    rw [Cod.encs_len]
    exact slices_IndexFunc_Simpl_State_impl_State.l2_run (n := l.length + 1) hl l.length 0 (l.length + 1) (by omega) (by omega)
  · cases h
def outN (wd : ByteArray) (o : Option Nat) : List Q := [.one (.str (preT wd o)), .one (.bool (isN o))]
/-! spec_FirstSolved -/
noncomputable def spec_FirstSolved.cfg : Cfg := { C0 with keep := fun | 7 => some [1, 2, 29, 30, 31] | _ => none, nb := 0, M := tabM [(50, spec_puGood.stub), (64, spec_diWord.stub), (65, spec_boWay.stub), (66, spec_puDone.stub)], MM := tabB [] }
noncomputable def spec_FirstSolved.l7 (n : Nat) (m7 : Nat) (s0 : ByteArray) (i1 : Int) (i2 : Int) (s3 : ByteArray) (i4 : Int) (i5 : Int) (i6 : Int) (i7 : Int) (i8 : Int) (i9 : Int) (i10 : Int) (i11 : Int) (i12 : Int) (i13 : Int) (i14 : Int) (l15 : List (List D)) : Option (List Q) :=
  loopAt spec_FirstSolved.cfg [RK.one LK.str, RK.one LK.bool] n Tryd.f33 [1, 1, 1, 1, 0, 1, 0] [] m7 (St.mk [V.undef, V.one true (D.str s0), V.rp (0 : Nat) (0 : Nat), V.undef, V.undef, V.undef, V.undef, V.undef, V.undef, V.undef, V.undef, V.undef, V.undef, V.undef, V.undef, V.undef, V.undef, V.undef, V.undef, V.undef, V.undef, V.undef, V.undef, V.undef, V.undef, V.undef, V.undef, V.undef, V.undef, V.rw (1 : Nat), V.one true (D.int IntKind.i64 i1), V.one true (D.int IntKind.i64 i2), V.undef, V.undef, V.undef, V.undef, V.undef, V.undef, V.undef, V.undef, V.undef, V.undef, V.undef] [Ob.box [V.one true (D.str s3), V.one true (D.int IntKind.i64 i4), V.one true (D.int IntKind.i64 i5), V.one true (D.int IntKind.i64 i6), V.one true (D.int IntKind.i64 i7), V.one true (D.int IntKind.i64 i8), V.one true (D.int IntKind.i64 i9), V.one true (D.int IntKind.i64 i10), V.one true (D.int IntKind.i64 i11), V.one true (D.int IntKind.i64 i12), V.one true (D.int IntKind.i64 i13), V.one true (D.int IntKind.i64 i14)], Ob.row false (8 : Nat) l15])
theorem spec_FirstSolved.l7_eq (n : Nat) (m7 : Nat) (s0 : ByteArray) (i1 : Int) (i2 : Int) (s3 : ByteArray) (i4 : Int) (i5 : Int) (i6 : Int) (i7 : Int) (i8 : Int) (i9 : Int) (i10 : Int) (i11 : Int) (i12 : Int) (i13 : Int) (i14 : Int) (l15 : List (List D)) :
    spec_FirstSolved.l7 n (m7 + 1) s0 i1 i2 s3 i4 i5 i6 i7 i8 i9 i10 i11 i12 i13 i14 l15 = bif decide (i2 < i1) then bif decide ((0 : Int) ≤ i2) then bif decide (i2 < (↑(List.length l15) : Int)) then Option.bind (Option.bind (some (cellD l15 (Int.toNat i2) (0 : Nat))) (D.int? IntKind.i64)) fun (i1_1 : Int) => Option.bind (Option.bind (some (cellD l15 (Int.toNat i2) (1 : Nat))) (D.int? IntKind.i64)) fun (i2_1 : Int) => Option.bind (Option.bind (some (cellD l15 (Int.toNat i2) (2 : Nat))) (D.int? IntKind.i64)) fun (i3 : Int) => Option.bind (Option.bind (some (cellD l15 (Int.toNat i2) (3 : Nat))) (D.int? IntKind.i64)) fun (i4_1 : Int) => Option.bind (Option.bind (some (cellD l15 (Int.toNat i2) (4 : Nat))) (D.int? IntKind.i64)) fun (i5_1 : Int) => Option.bind (Option.bind (some (cellD l15 (Int.toNat i2) (5 : Nat))) (D.int? IntKind.i64)) fun (i6_1 : Int) => Option.bind (Option.bind (some (cellD l15 (Int.toNat i2) (6 : Nat))) (D.int? IntKind.i64)) fun (i7_1 : Int) => Option.bind (Option.bind (some (cellD l15 (Int.toNat i2) (7 : Nat))) (D.int? IntKind.i64)) fun (i8_1 : Int) => bif doneS i12 i13 i14 (Sta.mk i1_1 i2_1 (Die.mk i3 i4_1 i5_1 i6_1 i7_1 i8_1)) then bif decide ((0 : Int) ≤ i2) then bif decide (i2 ≤ (↑(ByteArray.size s0) : Int)) then some [Q.one (D.str (ByteArray.extract s0 (0 : Nat) (Int.toNat i2))), Q.one (D.bool true)] else none else none else spec_FirstSolved.l7 n m7 s0 i1 (IntKind.wrap IntKind.i64 (i2 + (1 : Int))) s3 i4 i5 i6 i7 i8 i9 i10 i11 i12 i13 i14 l15 else none else none else some [Q.one (D.str (ByteArray.mk #[])), Q.one (D.bool false)] := by kernel_rfl
noncomputable def spec_FirstSolved.res (n : Nat) (a0_0 : ByteArray) (a0_1 : Int) (a0_2 : Int) (a0_3 : Int) (a0_4 : Int) (a0_5 : Int) (a0_6 : Int) (a0_7 : Int) (a0_8 : Int) (a0_9 : Int) (a0_10 : Int) (a0_11 : Int) (a1 : ByteArray) : Option (List Q) :=
  bif !(isBo brd a0_0 && (Die.good (Die.mk a0_3 a0_4 a0_5 a0_6 a0_7 a0_8) && isFl (rws a0_0) a0_1 a0_2) && (isFl (rws a0_0) a0_9 a0_10 && inR a0_11 (0 : Int) (9 : Int))) then some [Q.one (D.str (ByteArray.mk #[])), Q.one (D.bool false)] else bif !isWord a1 then some [Q.one (D.str (ByteArray.mk #[])), Q.one (D.bool false)] else bif !wayOk a0_0 (Sta.mk a0_1 a0_2 (Die.mk a0_3 a0_4 a0_5 a0_6 a0_7 a0_8)) a1 then some [Q.one (D.str (ByteArray.mk #[])), Q.one (D.bool false)] else spec_FirstSolved.l7 n n a1 (↑(List.length (Cod.encs stC (wayL a0_0 (Sta.mk a0_1 a0_2 (Die.mk a0_3 a0_4 a0_5 a0_6 a0_7 a0_8)) a1))) : Int) (0 : Int) a0_0 a0_1 a0_2 a0_3 a0_4 a0_5 a0_6 a0_7 a0_8 a0_9 a0_10 a0_11 (Cod.encs stC (wayL a0_0 (Sta.mk a0_1 a0_2 (Die.mk a0_3 a0_4 a0_5 a0_6 a0_7 a0_8)) a1))
theorem spec_FirstSolved.run (n : Nat) (a0_0 : ByteArray) (a0_1 : Int) (a0_2 : Int) (a0_3 : Int) (a0_4 : Int) (a0_5 : Int) (a0_6 : Int) (a0_7 : Int) (a0_8 : Int) (a0_9 : Int) (a0_10 : Int) (a0_11 : Int) (a1 : ByteArray) :
    run1 spec_FirstSolved.cfg [RK.one LK.str, RK.one LK.bool] n Tryd.f33 [Q.agg [D.str a0_0, D.int IntKind.i64 a0_1, D.int IntKind.i64 a0_2, D.int IntKind.i64 a0_3, D.int IntKind.i64 a0_4, D.int IntKind.i64 a0_5, D.int IntKind.i64 a0_6, D.int IntKind.i64 a0_7, D.int IntKind.i64 a0_8, D.int IntKind.i64 a0_9, D.int IntKind.i64 a0_10, D.int IntKind.i64 a0_11], Q.one (D.str a1)] = spec_FirstSolved.res n a0_0 a0_1 a0_2 a0_3 a0_4 a0_5 a0_6 a0_7 a0_8 a0_9 a0_10 a0_11 a1 := by kernel_rfl
theorem spec_FirstSolved.ev {n : Nat} {a0_0 : ByteArray} {a0_1 : Int} {a0_2 : Int} {a0_3 : Int} {a0_4 : Int} {a0_5 : Int} {a0_6 : Int} {a0_7 : Int} {a0_8 : Int} {a0_9 : Int} {a0_10 : Int} {a0_11 : Int} {a1 : ByteArray} {r : List Q} (h : spec_FirstSolved.res n a0_0 a0_1 a0_2 a0_3 a0_4 a0_5 a0_6 a0_7 a0_8 a0_9 a0_10 a0_11 a1 = some r) : Snd Tryd.prog C0 33 [.agg [.str a0_0, .int .i64 a0_1, .int .i64 a0_2, .int .i64 a0_3, .int .i64 a0_4, .int .i64 a0_5, .int .i64 a0_6, .int .i64 a0_7, .int .i64 a0_8, .int .i64 a0_9, .int .i64 a0_10, .int .i64 a0_11], .one (.str a1)] r :=
  snd_ev (C := spec_FirstSolved.cfg) cfg0 mix rfl rfl rfl rfl rfl (.cons spec_puGood.ok (.cons spec_diWord.ok (.cons spec_boWay.ok (.cons spec_puDone.ok .nil)))) .nil rfl Tryd.func33 (by kernel_rfl) (by kernel_rfl) rfl ((spec_FirstSolved.run n a0_0 a0_1 a0_2 a0_3 a0_4 a0_5 a0_6 a0_7 a0_8 a0_9 a0_10 a0_11 a1).trans h)

theorem spec_FirstSolved.l7_run {n : Nat} {wd q : ByteArray} {i4 i5 i6 i7 i8 i9 i10 i11 px py pt : Int} {L : List Sta} (hL : L.length ≤ LIM) (hw : L.length = wd.size + 1) : ∀ (d i m : Nat), i + d = L.length → d < m →
    spec_FirstSolved.l7 n m wd ((L.length : Nat) : Int) (i : Int) q i4 i5 i6 i7 i8 i9 i10 i11 px py pt (stC.encs L) = some (outN wd (firstAt px py pt (L.drop i) i)) := by
  intro d
  induction d with
  | zero =>
    intro i m hi hm
    obtain ⟨m, rfl⟩ : ∃ m', m = m' + 1 := ⟨m - 1, by omega⟩
    have h1 : ¬ (i : Int) < ((L.length : Nat) : Int) := by omega
    rw [spec_FirstSolved.l7_eq, List.drop_of_length_le (by omega)]
    simp only [h1, decide_false, cond_false]
    rfl
  | succ d ih =>
    intro i m hi hm
    obtain ⟨m, rfl⟩ : ∃ m', m = m' + 1 := ⟨m - 1, by omega⟩
    have hlt : i < L.length := by omega
    have h1 : (i : Int) < ((L.length : Nat) : Int) := by omega
    have h2 : (i : Int) ≤ ((wd.size : Nat) : Int) := by omega
    obtain ⟨c0, c1, c2, c3, c4, c5, c6, c7⟩ := st_cells hlt
    have step := ih (i + 1) m (by omega) (by omega)
    rw [spec_FirstSolved.l7_eq, List.drop_eq_getElem_cons hlt, firstAt]
    simp only [h1, h2, Cod.encs_len, Int.natCast_nonneg, Int.toNat_natCast, decide_true, cond_true, c0, c1, c2, c3, c4, c5, c6, c7, Option.bind_some, Die.eta, wrap_succ (show i ≤ LIM by omega), step]
    rw [show (Sta.mk L[i].x L[i].y L[i].d) = L[i] from rfl]
    cases doneS px py pt L[i] <;> rfl
def spec_FirstSolved.stub : Stub
  | [.agg [.str q, .int .i64 x, .int .i64 y, .int .i64 t, .int .i64 n, .int .i64 e, .int .i64 s, .int .i64 w, .int .i64 b, .int .i64 px, .int .i64 py, .int .i64 pt], .one (.str wd)] => .ret [.one (.str (Sp.preT wd (Sp.firstO q ⟨x, y, ⟨t, n, e, s, w, b⟩⟩ px py pt wd))), .one (.bool (Sp.isN (Sp.firstO q ⟨x, y, ⟨t, n, e, s, w, b⟩⟩ px py pt wd)))]
  | _ => .fail
theorem spec_FirstSolved.ok : StubOk Tryd.prog C0 33 spec_FirstSolved.stub := by
  intro args res h
  unfold spec_FirstSolved.stub at h
  split at h
  · rename_i q x y t n e s w b px py pt wd
    cases h
    obtain ⟨N, hN⟩ : ∃ N, 64 ≤ N := ⟨64, Nat.le_refl _⟩
    refine spec_FirstSolved.ev (n := N) ?_
    unfold spec_FirstSolved.res firstO
    rw [show (isBo brd q && (Die.good ⟨t, n, e, s, w, b⟩ && isFl (rws q) x y) && (isFl (rws q) px py && inR pt 0 9)) = pzOk q ⟨x, y, ⟨t, n, e, s, w, b⟩⟩ px py pt from rfl]
    cases pzOk q ⟨x, y, ⟨t, n, e, s, w, b⟩⟩ px py pt with
    | false => rfl
    | true =>
      cases hk : wayOk q ⟨x, y, ⟨t, n, e, s, w, b⟩⟩ wd with
      | false => cases isWord wd <;> rfl
      | true =>
        obtain ⟨h1, h2, h3, h4, h5⟩ := way_out hk
        obtain ⟨k1, _⟩ := isWord_out h2
        simp only [Bool.not_true, cond_false, cond_true, Bool.and_self, h2, h4, Cod.encs_len]
        exact spec_FirstSolved.l7_run (n := N) (L := alL (isFl (rws q)) ⟨x, y, ⟨t, n, e, s, w, b⟩⟩ wd) (by unfold LIM; omega) h3 (alL (isFl (rws q)) ⟨x, y, ⟨t, n, e, s, w, b⟩⟩ wd).length 0 N (by omega) (by omega)
  · cases h
/-! impl_FirstSolved -/
noncomputable def impl_FirstSolved.cfg : Cfg := { C0 with bor := fun f => Nat.beq f 70, news := fun _ => 0, keep := fun _ => none, nb := 0, M := tabM [(22, impl_IsPuzzle.stub), (68, impl_statesAlong.stub)], MM := tabB [(70, slices_IndexFunc_Simpl_State_impl_State.stub)] }
noncomputable def impl_FirstSolved.res (n : Nat) (a0_0 : ByteArray) (a0_1 : Int) (a0_2 : Int) (a0_3 : Int) (a0_4 : Int) (a0_5 : Int) (a0_6 : Int) (a0_7 : Int) (a0_8 : Int) (a0_9 : Int) (a0_10 : Int) (a0_11 : Int) (a1 : ByteArray) : Option (List Q) :=
  bif decide (ByteArray.size a0_0 < (17179869184 : Nat)) then bif decide (ByteArray.size a0_0 < (17179869184 : Nat)) then bif !(isBo brd a0_0 && (Die.good (Die.mk a0_3 a0_4 a0_5 a0_6 a0_7 a0_8) && isFl (rws a0_0) a0_1 a0_2) && (isFl (rws a0_0) a0_9 a0_10 && inR a0_11 (0 : Int) (9 : Int))) then some [Q.one (D.str (ByteArray.mk #[])), Q.one (D.bool false)] else bif !wayOk a0_0 (Sta.mk a0_1 a0_2 (Die.mk a0_3 a0_4 a0_5 a0_6 a0_7 a0_8)) a1 then some [Q.one (D.str (ByteArray.mk #[])), Q.one (D.bool false)] else Option.bind (Cod.decs stC (Cod.encs stC (wayI a0_0 (Sta.mk a0_1 a0_2 (Die.mk a0_3 a0_4 a0_5 a0_6 a0_7 a0_8)) a1))) fun (l1 : List Sta) => bif decide (ixO (firstAt a0_9 a0_10 a0_11 l1 (0 : Nat)) < (0 : Int)) then some [Q.one (D.str (ByteArray.mk #[])), Q.one (D.bool false)] else bif decide ((0 : Int) ≤ ixO (firstAt a0_9 a0_10 a0_11 l1 (0 : Nat))) then bif decide (ixO (firstAt a0_9 a0_10 a0_11 l1 (0 : Nat)) ≤ (↑(ByteArray.size a1) : Int)) then some [Q.one (D.str (ByteArray.extract a1 (0 : Nat) (Int.toNat (ixO (firstAt a0_9 a0_10 a0_11 l1 (0 : Nat)))))), Q.one (D.bool true)] else none else none else none else none
theorem impl_FirstSolved.run (n : Nat) (a0_0 : ByteArray) (a0_1 : Int) (a0_2 : Int) (a0_3 : Int) (a0_4 : Int) (a0_5 : Int) (a0_6 : Int) (a0_7 : Int) (a0_8 : Int) (a0_9 : Int) (a0_10 : Int) (a0_11 : Int) (a1 : ByteArray) :
    run1 impl_FirstSolved.cfg [RK.one LK.str, RK.one LK.bool] n Tryd.f34 [Q.agg [D.str a0_0, D.int IntKind.i64 a0_1, D.int IntKind.i64 a0_2, D.int IntKind.i64 a0_3, D.int IntKind.i64 a0_4, D.int IntKind.i64 a0_5, D.int IntKind.i64 a0_6, D.int IntKind.i64 a0_7, D.int IntKind.i64 a0_8, D.int IntKind.i64 a0_9, D.int IntKind.i64 a0_10, D.int IntKind.i64 a0_11], Q.one (D.str a1)] = impl_FirstSolved.res n a0_0 a0_1 a0_2 a0_3 a0_4 a0_5 a0_6 a0_7 a0_8 a0_9 a0_10 a0_11 a1 := by kernel_rfl
theorem impl_FirstSolved.ev {n : Nat} {a0_0 : ByteArray} {a0_1 : Int} {a0_2 : Int} {a0_3 : Int} {a0_4 : Int} {a0_5 : Int} {a0_6 : Int} {a0_7 : Int} {a0_8 : Int} {a0_9 : Int} {a0_10 : Int} {a0_11 : Int} {a1 : ByteArray} {r : List Q} (h : impl_FirstSolved.res n a0_0 a0_1 a0_2 a0_3 a0_4 a0_5 a0_6 a0_7 a0_8 a0_9 a0_10 a0_11 a1 = some r) : Snd Tryd.prog C0 34 [.agg [.str a0_0, .int .i64 a0_1, .int .i64 a0_2, .int .i64 a0_3, .int .i64 a0_4, .int .i64 a0_5, .int .i64 a0_6, .int .i64 a0_7, .int .i64 a0_8, .int .i64 a0_9, .int .i64 a0_10, .int .i64 a0_11], .one (.str a1)] r :=
  snd_ev (C := impl_FirstSolved.cfg) cfg0 mix rfl rfl rfl rfl rfl (.cons impl_IsPuzzle.ok (.cons impl_statesAlong.ok .nil)) (.cons slices_IndexFunc_Simpl_State_impl_State.ok .nil) rfl Tryd.func34 (by kernel_rfl) (by kernel_rfl) rfl ((impl_FirstSolved.run n a0_0 a0_1 a0_2 a0_3 a0_4 a0_5 a0_6 a0_7 a0_8 a0_9 a0_10 a0_11 a1).trans h)

def impl_FirstSolved.stub : Stub
  | [.agg [.str q, .int .i64 x, .int .i64 y, .int .i64 t, .int .i64 n, .int .i64 e, .int .i64 s, .int .i64 w, .int .i64 b, .int .i64 px, .int .i64 py, .int .i64 pt], .one (.str wd)] => .gd (decide (q.size < LIM)) (.ret [.one (.str (Sp.preT wd (Sp.firstO q ⟨x, y, ⟨t, n, e, s, w, b⟩⟩ px py pt wd))), .one (.bool (Sp.isN (Sp.firstO q ⟨x, y, ⟨t, n, e, s, w, b⟩⟩ px py pt wd)))])
  | _ => .fail
theorem impl_FirstSolved.ok : StubOk Tryd.prog C0 34 impl_FirstSolved.stub := by
  intro args res h
  unfold impl_FirstSolved.stub at h
  split at h
  · rename_i q x y t n e s w b px py pt wd
    obtain ⟨hs, h0⟩ := gd_out h
    cases h0
    unfold LIM at hs
    refine impl_FirstSolved.ev (n := 0) ?_
    unfold impl_FirstSolved.res firstO
    rw [hs, show (isBo brd q && (Die.good ⟨t, n, e, s, w, b⟩ && isFl (rws q) x y) && (isFl (rws q) px py && inR pt 0 9)) = pzOk q ⟨x, y, ⟨t, n, e, s, w, b⟩⟩ px py pt from rfl]
    cases pzOk q ⟨x, y, ⟨t, n, e, s, w, b⟩⟩ px py pt with
    | false => rfl
    | true =>
      cases hk : wayOk q ⟨x, y, ⟨t, n, e, s, w, b⟩⟩ wd with
      | false => rfl
      | true =>
        obtain ⟨h1, h2, h3, h4, h5⟩ := way_out hk
        obtain ⟨k1, _⟩ := isWord_out h2
        simp only [Bool.not_true, cond_false, cond_true, Bool.and_self, h5, Cod.decs_encs (c := stC) (l := alL (isFl (rws q)) ⟨x, y, ⟨t, n, e, s, w, b⟩⟩ wd) (by unfold LIM; omega), Option.bind_some]
        cases ho : firstAt px py pt (alL (isFl (rws q)) ⟨x, y, ⟨t, n, e, s, w, b⟩⟩ wd) 0 with
        | none => rfl
        | some k =>
          obtain ⟨_, hk2⟩ := firstAt_lt _ _ _ _ _ _ ho
          have g1 : ¬ (k : Int) < 0 := by omega
          have g2 : (k : Int) ≤ ((wd.size : Nat) : Int) := by omega
          show (bif decide ((k : Int) < 0) then _ else _) = _
          simp only [g1, decide_false, cond_false]
          show (bif decide ((0 : Int) ≤ (k : Int)) then (bif decide ((k : Int) ≤ ((wd.size : Nat) : Int)) then _ else _) else _) = _
          simp only [Int.natCast_nonneg, g2, decide_true, cond_true]
          rfl
  · cases h
/-! laws_FnExactFirstSolved -/
noncomputable def laws_FnExactFirstSolved.cfg : Cfg := { C0 with keep := fun _ => none, nb := 0, M := tabM [(19, laws_szPuzzle.stub), (21, laws_toPuzzle.stub), (33, spec_FirstSolved.stub), (34, impl_FirstSolved.stub)], MM := tabB [] }
noncomputable def laws_FnExactFirstSolved.res (n : Nat) (a0_0 : ByteArray) (a0_1 : Int) (a0_2 : Int) (a0_3 : Int) (a0_4 : Int) (a0_5 : Int) (a0_6 : Int) (a0_7 : Int) (a0_8 : Int) (a0_9 : Int) (a0_10 : Int) (a0_11 : Int) (a1 : ByteArray) : Option (List Q) :=
  bif decide ((↑(ByteArray.size a1) : Int) > (1048576 : Int)) then some [Q.one (D.bool true)] else bif decide (ByteArray.size a0_0 ≤ (9223372036854775807 : Nat)) then bif decide ((bif decide (ByteArray.size a0_0 ≤ (1048576 : Nat)) then (1048576 : Int) - (↑(ByteArray.size a0_0) : Int) else (-1 : Int)) < (0 : Int)) then some [Q.one (D.bool true)] else bif decide (ByteArray.size a0_0 < (17179869184 : Nat)) then bif !strEq (preT a1 (firstO a0_0 (Sta.mk a0_1 a0_2 (Die.mk a0_3 a0_4 a0_5 a0_6 a0_7 a0_8)) a0_9 a0_10 a0_11 a1)) (preT a1 (firstO a0_0 (Sta.mk a0_1 a0_2 (Die.mk a0_3 a0_4 a0_5 a0_6 a0_7 a0_8)) a0_9 a0_10 a0_11 a1)) then some [Q.one (D.bool false)] else bif !isN (firstO a0_0 (Sta.mk a0_1 a0_2 (Die.mk a0_3 a0_4 a0_5 a0_6 a0_7 a0_8)) a0_9 a0_10 a0_11 a1) == isN (firstO a0_0 (Sta.mk a0_1 a0_2 (Die.mk a0_3 a0_4 a0_5 a0_6 a0_7 a0_8)) a0_9 a0_10 a0_11 a1) then some [Q.one (D.bool false)] else some [Q.one (D.bool true)] else none else none
theorem laws_FnExactFirstSolved.run (n : Nat) (a0_0 : ByteArray) (a0_1 : Int) (a0_2 : Int) (a0_3 : Int) (a0_4 : Int) (a0_5 : Int) (a0_6 : Int) (a0_7 : Int) (a0_8 : Int) (a0_9 : Int) (a0_10 : Int) (a0_11 : Int) (a1 : ByteArray) :
    run1 laws_FnExactFirstSolved.cfg [RK.one LK.bool] n Tryd.f10 [Q.agg [D.str a0_0, D.int IntKind.i64 a0_1, D.int IntKind.i64 a0_2, D.int IntKind.i64 a0_3, D.int IntKind.i64 a0_4, D.int IntKind.i64 a0_5, D.int IntKind.i64 a0_6, D.int IntKind.i64 a0_7, D.int IntKind.i64 a0_8, D.int IntKind.i64 a0_9, D.int IntKind.i64 a0_10, D.int IntKind.i64 a0_11], Q.one (D.str a1)] = laws_FnExactFirstSolved.res n a0_0 a0_1 a0_2 a0_3 a0_4 a0_5 a0_6 a0_7 a0_8 a0_9 a0_10 a0_11 a1 := by kernel_rfl
theorem laws_FnExactFirstSolved.ev {n : Nat} {a0_0 : ByteArray} {a0_1 : Int} {a0_2 : Int} {a0_3 : Int} {a0_4 : Int} {a0_5 : Int} {a0_6 : Int} {a0_7 : Int} {a0_8 : Int} {a0_9 : Int} {a0_10 : Int} {a0_11 : Int} {a1 : ByteArray} {r : List Q} (h : laws_FnExactFirstSolved.res n a0_0 a0_1 a0_2 a0_3 a0_4 a0_5 a0_6 a0_7 a0_8 a0_9 a0_10 a0_11 a1 = some r) : Snd Tryd.prog C0 10 [.agg [.str a0_0, .int .i64 a0_1, .int .i64 a0_2, .int .i64 a0_3, .int .i64 a0_4, .int .i64 a0_5, .int .i64 a0_6, .int .i64 a0_7, .int .i64 a0_8, .int .i64 a0_9, .int .i64 a0_10, .int .i64 a0_11], .one (.str a1)] r :=
  snd_ev (C := laws_FnExactFirstSolved.cfg) cfg0 mix rfl rfl rfl rfl rfl (.cons laws_szPuzzle.ok (.cons laws_toPuzzle.ok (.cons spec_FirstSolved.ok (.cons impl_FirstSolved.ok .nil)))) .nil rfl Tryd.func10 (by kernel_rfl) (by kernel_rfl) rfl ((laws_FnExactFirstSolved.run n a0_0 a0_1 a0_2 a0_3 a0_4 a0_5 a0_6 a0_7 a0_8 a0_9 a0_10 a0_11 a1).trans h)

theorem laws_FnExactFirstSolved.law (q : ByteArray) (hq : q.size ≤ 9223372036854775807) (x y t n e s w b px py pt : Int) (wd : ByteArray) : Snd Tryd.prog C0 10 [.agg [.str q, .int .i64 x, .int .i64 y, .int .i64 t, .int .i64 n, .int .i64 e, .int .i64 s, .int .i64 w, .int .i64 b, .int .i64 px, .int .i64 py, .int .i64 pt], .one (.str wd)] [.one (.bool true)] := by
  refine laws_FnExactFirstSolved.ev (n := 0) ?_
  unfold laws_FnExactFirstSolved.res
  simp only [hq, decide_true, cond_true, szNeg]
  by_cases hl : ((wd.size : Nat) : Int) > 1048576
  · simp only [hl, decide_true, cond_true]
  · by_cases hs : q.size ≤ 1048576
    · have h1 : q.size < 17179869184 := by omega
      simp only [hl, hs, h1, decide_true, decide_false, cond_true, Bool.not_true, cond_false, strEq_refl, beq_self_eq_true, bne_self_eq_false]
    · simp only [hl, hs, decide_false, Bool.not_false, cond_true, cond_false]
end Go.Proofs.EV.PL
