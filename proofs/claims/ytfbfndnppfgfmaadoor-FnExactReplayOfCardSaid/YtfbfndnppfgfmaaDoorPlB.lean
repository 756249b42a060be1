import Derived.Test.YtfbfndnppfgfmaaDoorPlA
set_option linter.unusedVariables false
set_option linter.unusedSimpArgs false
/-! Boards, grounds, labelled boards: turned. -/
namespace Go.Proofs.EV.PL
open Go Go.Proofs Go.Proofs.EV Sp
theorem isGr_bo {b : ByteArray} (h : isGr b = true) : isBo gnd b = true ∧ grW b = wOf (rws b) ∧ grH b = (rws b).length ∧ grC b = (rws b).flatten := by
  refine ⟨?_, ?_, ?_, ?_⟩
  · unfold isGr at h
    rw [Bool.and_eq_true] at h
    exact h.1
  · unfold grW; rw [h]; rfl
  · unfold grH; rw [h]; rfl
  · unfold grC; rw [h]; rfl
/-! spec_TurnBoard -/
noncomputable def spec_TurnBoard.cfg : Cfg := { C0 with keep := fun _ => none, nb := 0, M := tabM [(53, spec_boRead.stub), (54, spec_boText.stub), (55, spec_boTurn.stub)], MM := tabB [] }
noncomputable def spec_TurnBoard.res (n : Nat) (a0 : ByteArray) : Option (List Q) :=
  bif !isBo brd a0 then some [Q.one (D.str (ByteArray.mk #[])), Q.one (D.bool false)] else Option.bind (Cod.decs u8C (Cod.encs u8C (boC brd a0))) fun (l1 : List UInt8) => bif inR (↑(boW brd a0) : Int) (0 : Int) (7 : Int) then bif inR (↑(boH brd a0) : Int) (0 : Int) (7 : Int) then bif decide (List.length l1 = Int.toNat (↑(boW brd a0) : Int) * Int.toNat (↑(boH brd a0) : Int)) then Option.bind (Cod.decs u8C (Cod.encs u8C (turnC (Int.toNat (↑(boW brd a0) : Int)) (Int.toNat (↑(boH brd a0) : Int)) l1))) fun (l2 : List UInt8) => bif inR (↑(boH brd a0) : Int) (0 : Int) (7 : Int) then bif inR (↑(boW brd a0) : Int) (0 : Int) (7 : Int) then bif decide (List.length l2 = Int.toNat (↑(boH brd a0) : Int) * Int.toNat (↑(boW brd a0) : Int)) then some [Q.one (D.str (mkB (jn (chunk (Int.toNat (↑(boH brd a0) : Int)) (Int.toNat (↑(boW brd a0) : Int)) l2)))), Q.one (D.bool true)] else none else none else none else none else none else none
theorem spec_TurnBoard.run (n : Nat) (a0 : ByteArray) :
    run1 spec_TurnBoard.cfg [RK.one LK.str, RK.one LK.bool] n Tryd.f23 [Q.one (D.str a0)] = spec_TurnBoard.res n a0 := by kernel_rfl
theorem spec_TurnBoard.ev {n : Nat} {a0 : ByteArray} {r : List Q} (h : spec_TurnBoard.res n a0 = some r) : Snd Tryd.prog C0 23 [.one (.str a0)] r :=
  snd_ev (C := spec_TurnBoard.cfg) cfg0 mix rfl rfl rfl rfl rfl (.cons spec_boRead.ok (.cons spec_boText.ok (.cons spec_boTurn.ok .nil))) .nil rfl Tryd.func23 (by kernel_rfl) (by kernel_rfl) rfl ((spec_TurnBoard.run n a0).trans h)

def spec_TurnBoard.stub : Stub
  | [.one (.str b)] => .ret [.one (.str (Sp.turnT Sp.brd b)), .one (.bool (Sp.isBo Sp.brd b))]
  | _ => .fail
theorem spec_TurnBoard.ok : StubOk Tryd.prog C0 23 spec_TurnBoard.stub := by
  intro args res h
  unfold spec_TurnBoard.stub at h
  split at h
  · rename_i b
    cases h
    refine spec_TurnBoard.ev (n := 0) ?_
    unfold spec_TurnBoard.res turnT
    cases hb : isBo Sp.brd b with
    | false => rfl
    | true =>
      obtain ⟨k1, k2, k3, k4⟩ := isBo_fine hb
      obtain ⟨e1, e2, e3, _, _, _, _⟩ := bo_ok hb
      obtain ⟨f1, f2, f3, f4, f5, f6, f7, f8⟩ := r_facts k1 k2 k3
      simp only [Bool.not_true, cond_false, cond_true, e1, e2, e3, Int.toNat_natCast, f1, f2, f4, f5, f6, f7, Option.bind_some, turn_text k1]
  · cases h
/-! impl_TurnBoard -/
noncomputable def impl_TurnBoard.cfg : Cfg := { C0 with keep := fun _ => none, nb := 0, M := tabM [(56, impl_board.stub), (57, impl_grid_turn.stub), (58, impl_grid_text.stub)], MM := tabB [] }
noncomputable def impl_TurnBoard.res (n : Nat) (a0 : ByteArray) : Option (List Q) :=
  bif decide (ByteArray.size a0 < (17179869184 : Nat)) then bif !isBo brd a0 then some [Q.one (D.str (ByteArray.mk #[])), Q.one (D.bool false)] else Option.bind (Cod.decs strC (Cod.encs strC (gridI brd a0))) fun (l1 : List ByteArray) => bif unif (lb l1) then bif inR (↑(List.length l1) : Int) (1 : Int) (7 : Int) then bif inR (↑(wOf (lb l1)) : Int) (0 : Int) (7 : Int) then Option.bind (Cod.decs strC (Cod.encs strC (turnB l1))) fun (l2 : List ByteArray) => bif decide (List.length (jn (lb l2)) ≤ (17179869184 : Nat)) then some [Q.one (D.str (mkB (jn (lb l2)))), Q.one (D.bool true)] else none else none else none else none else none
theorem impl_TurnBoard.run (n : Nat) (a0 : ByteArray) :
    run1 impl_TurnBoard.cfg [RK.one LK.str, RK.one LK.bool] n Tryd.f24 [Q.one (D.str a0)] = impl_TurnBoard.res n a0 := by kernel_rfl
theorem impl_TurnBoard.ev {n : Nat} {a0 : ByteArray} {r : List Q} (h : impl_TurnBoard.res n a0 = some r) : Snd Tryd.prog C0 24 [.one (.str a0)] r :=
  snd_ev (C := impl_TurnBoard.cfg) cfg0 mix rfl rfl rfl rfl rfl (.cons impl_board.ok (.cons impl_grid_turn.ok (.cons impl_grid_text.ok .nil))) .nil rfl Tryd.func24 (by kernel_rfl) (by kernel_rfl) rfl ((impl_TurnBoard.run n a0).trans h)

def impl_TurnBoard.stub : Stub
  | [.one (.str b)] => .gd (decide (b.size < LIM)) (.ret [.one (.str (Sp.turnT Sp.brd b)), .one (.bool (Sp.isBo Sp.brd b))])
  | _ => .fail
theorem impl_TurnBoard.ok : StubOk Tryd.prog C0 24 impl_TurnBoard.stub := by
  intro args res h
  unfold impl_TurnBoard.stub at h
  split at h
  · rename_i b
    obtain ⟨hs, h0⟩ := gd_out h
    cases h0
    unfold LIM at hs
    refine impl_TurnBoard.ev (n := 0) ?_
    unfold impl_TurnBoard.res turnT
    rw [hs]
    cases hb : isBo Sp.brd b with
    | false => rfl
    | true =>
      have hq := hb
      obtain ⟨k1, k2, k3, k4⟩ := isBo_fine hq
      obtain ⟨f1, f2, f3, f4, f5, f6, f7, f8⟩ := r_facts k1 k2 k3
      obtain ⟨g1, g2, g3, g4, g5, g6⟩ := Sp.gr_ok hq
      obtain ⟨t1, t2, t3⟩ := turn_facts hq
      simp only [Bool.not_true, cond_false, cond_true, g5, g1, g6, k1, f1, f3, t1, t2, t3, Option.bind_some]
  · cases h
/-! laws_FnExactTurnBoard -/
noncomputable def laws_FnExactTurnBoard.cfg : Cfg := { C0 with keep := fun _ => none, nb := 0, M := tabM [(23, spec_TurnBoard.stub), (24, impl_TurnBoard.stub)], MM := tabB [] }
noncomputable def laws_FnExactTurnBoard.res (n : Nat) (a0 : ByteArray) : Option (List Q) :=
  bif decide ((↑(ByteArray.size a0) : Int) > (1048576 : Int)) then some [Q.one (D.bool true)] else bif decide (ByteArray.size a0 < (17179869184 : Nat)) then bif !strEq (turnT brd a0) (turnT brd a0) then some [Q.one (D.bool false)] else bif !isBo brd a0 == isBo brd a0 then some [Q.one (D.bool false)] else some [Q.one (D.bool true)] else none
theorem laws_FnExactTurnBoard.run (n : Nat) (a0 : ByteArray) :
    run1 laws_FnExactTurnBoard.cfg [RK.one LK.bool] n Tryd.f5 [Q.one (D.str a0)] = laws_FnExactTurnBoard.res n a0 := by kernel_rfl
theorem laws_FnExactTurnBoard.ev {n : Nat} {a0 : ByteArray} {r : List Q} (h : laws_FnExactTurnBoard.res n a0 = some r) : Snd Tryd.prog C0 5 [.one (.str a0)] r :=
  snd_ev (C := laws_FnExactTurnBoard.cfg) cfg0 mix rfl rfl rfl rfl rfl (.cons spec_TurnBoard.ok (.cons impl_TurnBoard.ok .nil)) .nil rfl Tryd.func5 (by kernel_rfl) (by kernel_rfl) rfl ((laws_FnExactTurnBoard.run n a0).trans h)

theorem laws_FnExactTurnBoard.law (b : ByteArray) : Snd Tryd.prog C0 5 [.one (.str b)] [.one (.bool true)] := by
  refine laws_FnExactTurnBoard.ev (n := 0) ?_
  unfold laws_FnExactTurnBoard.res
  by_cases hs : b.size ≤ 1048576
  · have h1 : b.size < 17179869184 := by omega
    have h2 : ¬ ((b.size : Nat) : Int) > 1048576 := by omega
    simp only [h1, h2, decide_true, decide_false, cond_true, cond_false, strEq_refl, Bool.not_true, beq_self_eq_true, bne_self_eq_false]
  · have h2 : ((b.size : Nat) : Int) > 1048576 := by omega
    simp only [h2, decide_true, cond_true]
/-! spec_TurnGround -/
noncomputable def spec_TurnGround.cfg : Cfg := { C0 with keep := fun _ => none, nb := 0, M := tabM [(59, spec_bxRead.stub), (54, spec_boText.stub), (55, spec_boTurn.stub)], MM := tabB [] }
noncomputable def spec_TurnGround.res (n : Nat) (a0 : ByteArray) : Option (List Q) :=
  bif !isGr a0 then some [Q.one (D.str (ByteArray.mk #[])), Q.one (D.bool false)] else Option.bind (Cod.decs u8C (Cod.encs u8C (grC a0))) fun (l1 : List UInt8) => bif inR (↑(grW a0) : Int) (0 : Int) (7 : Int) then bif inR (↑(grH a0) : Int) (0 : Int) (7 : Int) then bif decide (List.length l1 = Int.toNat (↑(grW a0) : Int) * Int.toNat (↑(grH a0) : Int)) then Option.bind (Cod.decs u8C (Cod.encs u8C (turnC (Int.toNat (↑(grW a0) : Int)) (Int.toNat (↑(grH a0) : Int)) l1))) fun (l2 : List UInt8) => bif inR (↑(grH a0) : Int) (0 : Int) (7 : Int) then bif inR (↑(grW a0) : Int) (0 : Int) (7 : Int) then bif decide (List.length l2 = Int.toNat (↑(grH a0) : Int) * Int.toNat (↑(grW a0) : Int)) then some [Q.one (D.str (mkB (jn (chunk (Int.toNat (↑(grH a0) : Int)) (Int.toNat (↑(grW a0) : Int)) l2)))), Q.one (D.bool true)] else none else none else none else none else none else none
theorem spec_TurnGround.run (n : Nat) (a0 : ByteArray) :
    run1 spec_TurnGround.cfg [RK.one LK.str, RK.one LK.bool] n Tryd.f25 [Q.one (D.str a0)] = spec_TurnGround.res n a0 := by kernel_rfl
theorem spec_TurnGround.ev {n : Nat} {a0 : ByteArray} {r : List Q} (h : spec_TurnGround.res n a0 = some r) : Snd Tryd.prog C0 25 [.one (.str a0)] r :=
  snd_ev (C := spec_TurnGround.cfg) cfg0 mix rfl rfl rfl rfl rfl (.cons spec_bxRead.ok (.cons spec_boText.ok (.cons spec_boTurn.ok .nil))) .nil rfl Tryd.func25 (by kernel_rfl) (by kernel_rfl) rfl ((spec_TurnGround.run n a0).trans h)

def spec_TurnGround.stub : Stub
  | [.one (.str b)] => .ret [.one (.str (Sp.turnG b)), .one (.bool (Sp.isGr b))]
  | _ => .fail
theorem spec_TurnGround.ok : StubOk Tryd.prog C0 25 spec_TurnGround.stub := by
  intro args res h
  unfold spec_TurnGround.stub at h
  split at h
  · rename_i b
    cases h
    refine spec_TurnGround.ev (n := 0) ?_
    unfold spec_TurnGround.res turnG
    cases hb : isGr b with
    | false => rfl
    | true =>
      obtain ⟨hq, e2, e3, e1⟩ := isGr_bo hb
      obtain ⟨k1, k2, k3, k4⟩ := isBo_fine hq
      obtain ⟨f1, f2, f3, f4, f5, f6, f7, f8⟩ := r_facts k1 k2 k3
      simp only [Bool.not_true, cond_false, cond_true, e1, e2, e3, Int.toNat_natCast, f1, f2, f4, f5, f6, f7, Option.bind_some, turn_text k1]
  · cases h
/-! impl_TurnGround -/
noncomputable def impl_TurnGround.cfg : Cfg := { C0 with keep := fun _ => none, nb := 0, M := tabM [(60, impl_ground.stub), (57, impl_grid_turn.stub), (58, impl_grid_text.stub)], MM := tabB [] }
noncomputable def impl_TurnGround.res (n : Nat) (a0 : ByteArray) : Option (List Q) :=
  bif decide (ByteArray.size a0 < (17179869184 : Nat)) then bif !isGr a0 then some [Q.one (D.str (ByteArray.mk #[])), Q.one (D.bool false)] else Option.bind (Cod.decs strC (Cod.encs strC (gridI gnd a0))) fun (l1 : List ByteArray) => bif unif (lb l1) then bif inR (↑(List.length l1) : Int) (1 : Int) (7 : Int) then bif inR (↑(wOf (lb l1)) : Int) (0 : Int) (7 : Int) then Option.bind (Cod.decs strC (Cod.encs strC (turnB l1))) fun (l2 : List ByteArray) => bif decide (List.length (jn (lb l2)) ≤ (17179869184 : Nat)) then some [Q.one (D.str (mkB (jn (lb l2)))), Q.one (D.bool true)] else none else none else none else none else none
theorem impl_TurnGround.run (n : Nat) (a0 : ByteArray) :
    run1 impl_TurnGround.cfg [RK.one LK.str, RK.one LK.bool] n Tryd.f26 [Q.one (D.str a0)] = impl_TurnGround.res n a0 := by kernel_rfl
theorem impl_TurnGround.ev {n : Nat} {a0 : ByteArray} {r : List Q} (h : impl_TurnGround.res n a0 = some r) : Snd Tryd.prog C0 26 [.one (.str a0)] r :=
  snd_ev (C := impl_TurnGround.cfg) cfg0 mix rfl rfl rfl rfl rfl (.cons impl_ground.ok (.cons impl_grid_turn.ok (.cons impl_grid_text.ok .nil))) .nil rfl Tryd.func26 (by kernel_rfl) (by kernel_rfl) rfl ((impl_TurnGround.run n a0).trans h)

def impl_TurnGround.stub : Stub
  | [.one (.str b)] => .gd (decide (b.size < LIM)) (.ret [.one (.str (Sp.turnG b)), .one (.bool (Sp.isGr b))])
  | _ => .fail
theorem impl_TurnGround.ok : StubOk Tryd.prog C0 26 impl_TurnGround.stub := by
  intro args res h
  unfold impl_TurnGround.stub at h
  split at h
  · rename_i b
    obtain ⟨hs, h0⟩ := gd_out h
    cases h0
    unfold LIM at hs
    refine impl_TurnGround.ev (n := 0) ?_
    unfold impl_TurnGround.res turnG
    rw [hs]
    cases hb : isGr b with
    | false => rfl
    | true =>
      have hq := (isGr_bo hb).1
      obtain ⟨k1, k2, k3, k4⟩ := isBo_fine hq
      obtain ⟨f1, f2, f3, f4, f5, f6, f7, f8⟩ := r_facts k1 k2 k3
      obtain ⟨g1, g2, g3, g4, g5, g6⟩ := Sp.gr_ok hq
      obtain ⟨t1, t2, t3⟩ := turn_facts hq
      simp only [Bool.not_true, cond_false, cond_true, g5, g1, g6, k1, f1, f3, t1, t2, t3, Option.bind_some]
  · cases h
/-! laws_FnExactTurnGround -/
noncomputable def laws_FnExactTurnGround.cfg : Cfg := { C0 with keep := fun _ => none, nb := 0, M := tabM [(25, spec_TurnGround.stub), (26, impl_TurnGround.stub)], MM := tabB [] }
noncomputable def laws_FnExactTurnGround.res (n : Nat) (a0 : ByteArray) : Option (List Q) :=
  bif decide ((↑(ByteArray.size a0) : Int) > (1048576 : Int)) then some [Q.one (D.bool true)] else bif decide (ByteArray.size a0 < (17179869184 : Nat)) then bif !strEq (turnG a0) (turnG a0) then some [Q.one (D.bool false)] else bif !isGr a0 == isGr a0 then some [Q.one (D.bool false)] else some [Q.one (D.bool true)] else none
theorem laws_FnExactTurnGround.run (n : Nat) (a0 : ByteArray) :
    run1 laws_FnExactTurnGround.cfg [RK.one LK.bool] n Tryd.f6 [Q.one (D.str a0)] = laws_FnExactTurnGround.res n a0 := by kernel_rfl
theorem laws_FnExactTurnGround.ev {n : Nat} {a0 : ByteArray} {r : List Q} (h : laws_FnExactTurnGround.res n a0 = some r) : Snd Tryd.prog C0 6 [.one (.str a0)] r :=
  snd_ev (C := laws_FnExactTurnGround.cfg) cfg0 mix rfl rfl rfl rfl rfl (.cons spec_TurnGround.ok (.cons impl_TurnGround.ok .nil)) .nil rfl Tryd.func6 (by kernel_rfl) (by kernel_rfl) rfl ((laws_FnExactTurnGround.run n a0).trans h)

theorem laws_FnExactTurnGround.law (b : ByteArray) : Snd Tryd.prog C0 6 [.one (.str b)] [.one (.bool true)] := by
  refine laws_FnExactTurnGround.ev (n := 0) ?_
  unfold laws_FnExactTurnGround.res
  by_cases hs : b.size ≤ 1048576
  · have h1 : b.size < 17179869184 := by omega
    have h2 : ¬ ((b.size : Nat) : Int) > 1048576 := by omega
    simp only [h1, h2, decide_true, decide_false, cond_true, cond_false, strEq_refl, Bool.not_true, beq_self_eq_true, bne_self_eq_false]
  · have h2 : ((b.size : Nat) : Int) > 1048576 := by omega
    simp only [h2, decide_true, cond_true]
/-! spec_FloorOfLabels -/
noncomputable def spec_FloorOfLabels.cfg : Cfg := { C0 with keep := fun _ => none, nb := 0, M := tabM [(61, spec_prRead.stub), (54, spec_boText.stub)], MM := tabB [] }
noncomputable def spec_FloorOfLabels.res (n : Nat) (a0 : ByteArray) : Option (List Q) :=
  bif !isBo lab a0 then some [Q.one (D.str (ByteArray.mk #[])), Q.one (D.bool false)] else Option.bind (Cod.decs u8C (Cod.encs u8C (boC brd (plainB a0)))) fun (l1 : List UInt8) => bif inR (↑(boW brd (plainB a0)) : Int) (0 : Int) (7 : Int) then bif inR (↑(boH brd (plainB a0)) : Int) (0 : Int) (7 : Int) then bif decide (List.length l1 = Int.toNat (↑(boW brd (plainB a0)) : Int) * Int.toNat (↑(boH brd (plainB a0)) : Int)) then some [Q.one (D.str (mkB (jn (chunk (Int.toNat (↑(boW brd (plainB a0)) : Int)) (Int.toNat (↑(boH brd (plainB a0)) : Int)) l1)))), Q.one (D.bool true)] else none else none else none
theorem spec_FloorOfLabels.run (n : Nat) (a0 : ByteArray) :
    run1 spec_FloorOfLabels.cfg [RK.one LK.str, RK.one LK.bool] n Tryd.f27 [Q.one (D.str a0)] = spec_FloorOfLabels.res n a0 := by kernel_rfl
theorem spec_FloorOfLabels.ev {n : Nat} {a0 : ByteArray} {r : List Q} (h : spec_FloorOfLabels.res n a0 = some r) : Snd Tryd.prog C0 27 [.one (.str a0)] r :=
  snd_ev (C := spec_FloorOfLabels.cfg) cfg0 mix rfl rfl rfl rfl rfl (.cons spec_prRead.ok (.cons spec_boText.ok .nil)) .nil rfl Tryd.func27 (by kernel_rfl) (by kernel_rfl) rfl ((spec_FloorOfLabels.run n a0).trans h)

def spec_FloorOfLabels.stub : Stub
  | [.one (.str b)] => .ret [.one (.str (Sp.floorT b)), .one (.bool (Sp.isBo Sp.lab b))]
  | _ => .fail
theorem spec_FloorOfLabels.ok : StubOk Tryd.prog C0 27 spec_FloorOfLabels.stub := by
  intro args res h
  unfold spec_FloorOfLabels.stub at h
  split at h
  · rename_i b
    cases h
    refine spec_FloorOfLabels.ev (n := 0) ?_
    unfold spec_FloorOfLabels.res floorT
    cases hb : isBo Sp.lab b with
    | false => rfl
    | true =>
      have hq : isBo brd (plainB b) = true := by rw [isBo_plain]; exact hb
      obtain ⟨k1, k2, k3, k4⟩ := isBo_fine hq
      obtain ⟨e1, e2, e3, _, _, _, _⟩ := bo_ok hq
      obtain ⟨f1, f2, f3, f4, f5, f6, f7, f8⟩ := r_facts k1 k2 k3
      simp only [Bool.not_true, cond_false, cond_true, e1, e2, e3, Int.toNat_natCast, f1, f2, f4, f5, f8, Option.bind_some]
  · cases h
/-! impl_FloorOfLabels -/
noncomputable def impl_FloorOfLabels.cfg : Cfg := { C0 with keep := fun _ => none, nb := 0, M := tabM [(62, impl_labelled.stub), (63, impl_grid_floor.stub), (58, impl_grid_text.stub)], MM := tabB [] }
noncomputable def impl_FloorOfLabels.res (n : Nat) (a0 : ByteArray) : Option (List Q) :=
  bif decide (ByteArray.size a0 < (17179869184 : Nat)) then bif !isBo lab a0 then some [Q.one (D.str (ByteArray.mk #[])), Q.one (D.bool false)] else Option.bind (Cod.decs strC (Cod.encs strC (gridI lab a0))) fun (l1 : List ByteArray) => bif smallR l1 then Option.bind (Cod.decs strC (Cod.encs strC (plainL l1))) fun (l2 : List ByteArray) => bif decide (List.length (jn (lb l2)) ≤ (17179869184 : Nat)) then some [Q.one (D.str (mkB (jn (lb l2)))), Q.one (D.bool true)] else none else none else none
theorem impl_FloorOfLabels.run (n : Nat) (a0 : ByteArray) :
    run1 impl_FloorOfLabels.cfg [RK.one LK.str, RK.one LK.bool] n Tryd.f28 [Q.one (D.str a0)] = impl_FloorOfLabels.res n a0 := by kernel_rfl
theorem impl_FloorOfLabels.ev {n : Nat} {a0 : ByteArray} {r : List Q} (h : impl_FloorOfLabels.res n a0 = some r) : Snd Tryd.prog C0 28 [.one (.str a0)] r :=
  snd_ev (C := impl_FloorOfLabels.cfg) cfg0 mix rfl rfl rfl rfl rfl (.cons impl_labelled.ok (.cons impl_grid_floor.ok (.cons impl_grid_text.ok .nil))) .nil rfl Tryd.func28 (by kernel_rfl) (by kernel_rfl) rfl ((impl_FloorOfLabels.run n a0).trans h)

def impl_FloorOfLabels.stub : Stub
  | [.one (.str b)] => .gd (decide (b.size < LIM)) (.ret [.one (.str (Sp.floorT b)), .one (.bool (Sp.isBo Sp.lab b))])
  | _ => .fail
theorem impl_FloorOfLabels.ok : StubOk Tryd.prog C0 28 impl_FloorOfLabels.stub := by
  intro args res h
  unfold impl_FloorOfLabels.stub at h
  split at h
  · rename_i b
    obtain ⟨hs, h0⟩ := gd_out h
    cases h0
    unfold LIM at hs
    refine impl_FloorOfLabels.ev (n := 0) ?_
    unfold impl_FloorOfLabels.res floorT
    rw [hs]
    cases hb : isBo Sp.lab b with
    | false => rfl
    | true =>
      obtain ⟨g1, g2, g3, g4, g5, g6⟩ := Sp.gr_ok hb
      obtain ⟨t1, t2, t3⟩ := plain_facts hb
      simp only [Bool.not_true, cond_false, cond_true, g5, small_gr hb, t1, t2, t3, Option.bind_some]
  · cases h
/-! laws_FnExactFloorOfLabels -/
noncomputable def laws_FnExactFloorOfLabels.cfg : Cfg := { C0 with keep := fun _ => none, nb := 0, M := tabM [(27, spec_FloorOfLabels.stub), (28, impl_FloorOfLabels.stub)], MM := tabB [] }
noncomputable def laws_FnExactFloorOfLabels.res (n : Nat) (a0 : ByteArray) : Option (List Q) :=
  bif decide ((↑(ByteArray.size a0) : Int) > (1048576 : Int)) then some [Q.one (D.bool true)] else bif decide (ByteArray.size a0 < (17179869184 : Nat)) then bif !strEq (floorT a0) (floorT a0) then some [Q.one (D.bool false)] else bif !isBo lab a0 == isBo lab a0 then some [Q.one (D.bool false)] else some [Q.one (D.bool true)] else none
theorem laws_FnExactFloorOfLabels.run (n : Nat) (a0 : ByteArray) :
    run1 laws_FnExactFloorOfLabels.cfg [RK.one LK.bool] n Tryd.f7 [Q.one (D.str a0)] = laws_FnExactFloorOfLabels.res n a0 := by kernel_rfl
theorem laws_FnExactFloorOfLabels.ev {n : Nat} {a0 : ByteArray} {r : List Q} (h : laws_FnExactFloorOfLabels.res n a0 = some r) : Snd Tryd.prog C0 7 [.one (.str a0)] r :=
  snd_ev (C := laws_FnExactFloorOfLabels.cfg) cfg0 mix rfl rfl rfl rfl rfl (.cons spec_FloorOfLabels.ok (.cons impl_FloorOfLabels.ok .nil)) .nil rfl Tryd.func7 (by kernel_rfl) (by kernel_rfl) rfl ((laws_FnExactFloorOfLabels.run n a0).trans h)

theorem laws_FnExactFloorOfLabels.law (b : ByteArray) : Snd Tryd.prog C0 7 [.one (.str b)] [.one (.bool true)] := by
  refine laws_FnExactFloorOfLabels.ev (n := 0) ?_
  unfold laws_FnExactFloorOfLabels.res
  by_cases hs : b.size ≤ 1048576
  · have h1 : b.size < 17179869184 := by omega
    have h2 : ¬ ((b.size : Nat) : Int) > 1048576 := by omega
    simp only [h1, h2, decide_true, decide_false, cond_true, cond_false, strEq_refl, Bool.not_true, beq_self_eq_true, bne_self_eq_false]
  · have h2 : ((b.size : Nat) : Int) > 1048576 := by omega
    simp only [h2, decide_true, cond_true]
/-! spec_TurnLabelled -/
noncomputable def spec_TurnLabelled.cfg : Cfg := { C0 with keep := fun _ => none, nb := 0, M := tabM [(61, spec_prRead.stub), (54, spec_boText.stub), (55, spec_boTurn.stub)], MM := tabB [] }
noncomputable def spec_TurnLabelled.res (n : Nat) (a0 : ByteArray) : Option (List Q) :=
  bif !isBo lab a0 then some [Q.one (D.str (ByteArray.mk #[])), Q.one (D.bool false)] else Option.bind (Cod.decs u8C (Cod.encs u8C (prL a0))) fun (l1 : List UInt8) => bif inR (↑(boW brd (plainB a0)) : Int) (0 : Int) (7 : Int) then bif inR (↑(boH brd (plainB a0)) : Int) (0 : Int) (7 : Int) then bif decide (List.length l1 = Int.toNat (↑(boW brd (plainB a0)) : Int) * Int.toNat (↑(boH brd (plainB a0)) : Int)) then Option.bind (Cod.decs u8C (Cod.encs u8C (turnC (Int.toNat (↑(boW brd (plainB a0)) : Int)) (Int.toNat (↑(boH brd (plainB a0)) : Int)) l1))) fun (l2 : List UInt8) => bif inR (↑(boH brd (plainB a0)) : Int) (0 : Int) (7 : Int) then bif inR (↑(boW brd (plainB a0)) : Int) (0 : Int) (7 : Int) then bif decide (List.length l2 = Int.toNat (↑(boH brd (plainB a0)) : Int) * Int.toNat (↑(boW brd (plainB a0)) : Int)) then some [Q.one (D.str (mkB (jn (chunk (Int.toNat (↑(boH brd (plainB a0)) : Int)) (Int.toNat (↑(boW brd (plainB a0)) : Int)) l2)))), Q.one (D.bool true)] else none else none else none else none else none else none
theorem spec_TurnLabelled.run (n : Nat) (a0 : ByteArray) :
    run1 spec_TurnLabelled.cfg [RK.one LK.str, RK.one LK.bool] n Tryd.f29 [Q.one (D.str a0)] = spec_TurnLabelled.res n a0 := by kernel_rfl
theorem spec_TurnLabelled.ev {n : Nat} {a0 : ByteArray} {r : List Q} (h : spec_TurnLabelled.res n a0 = some r) : Snd Tryd.prog C0 29 [.one (.str a0)] r :=
  snd_ev (C := spec_TurnLabelled.cfg) cfg0 mix rfl rfl rfl rfl rfl (.cons spec_prRead.ok (.cons spec_boText.ok (.cons spec_boTurn.ok .nil))) .nil rfl Tryd.func29 (by kernel_rfl) (by kernel_rfl) rfl ((spec_TurnLabelled.run n a0).trans h)

def spec_TurnLabelled.stub : Stub
  | [.one (.str b)] => .ret [.one (.str (Sp.turnT Sp.lab b)), .one (.bool (Sp.isBo Sp.lab b))]
  | _ => .fail
theorem spec_TurnLabelled.ok : StubOk Tryd.prog C0 29 spec_TurnLabelled.stub := by
  intro args res h
  unfold spec_TurnLabelled.stub at h
  split at h
  · rename_i b
    cases h
    refine spec_TurnLabelled.ev (n := 0) ?_
    unfold spec_TurnLabelled.res turnT
    cases hb : isBo Sp.lab b with
    | false => rfl
    | true =>
      have hq : isBo brd (plainB b) = true := by rw [isBo_plain]; exact hb
      obtain ⟨k1, k2, k3, k4⟩ := isBo_fine hb
      obtain ⟨_, e2, e3, _, _, _, _⟩ := bo_ok hq
      rw [rws_plain, wOf_map] at e2
      rw [rws_plain, List.length_map] at e3
      have e1 := prL_rows hb
      obtain ⟨f1, f2, f3, f4, f5, f6, f7, f8⟩ := r_facts k1 k2 k3
      simp only [Bool.not_true, cond_false, cond_true, e1, e2, e3, Int.toNat_natCast, f1, f2, f4, f5, f6, f7, Option.bind_some, turn_text k1]
  · cases h
/-! impl_TurnLabelled -/
noncomputable def impl_TurnLabelled.cfg : Cfg := { C0 with keep := fun _ => none, nb := 0, M := tabM [(62, impl_labelled.stub), (57, impl_grid_turn.stub), (58, impl_grid_text.stub)], MM := tabB [] }
noncomputable def impl_TurnLabelled.res (n : Nat) (a0 : ByteArray) : Option (List Q) :=
  bif decide (ByteArray.size a0 < (17179869184 : Nat)) then bif !isBo lab a0 then some [Q.one (D.str (ByteArray.mk #[])), Q.one (D.bool false)] else Option.bind (Cod.decs strC (Cod.encs strC (gridI lab a0))) fun (l1 : List ByteArray) => bif unif (lb l1) then bif inR (↑(List.length l1) : Int) (1 : Int) (7 : Int) then bif inR (↑(wOf (lb l1)) : Int) (0 : Int) (7 : Int) then Option.bind (Cod.decs strC (Cod.encs strC (turnB l1))) fun (l2 : List ByteArray) => bif decide (List.length (jn (lb l2)) ≤ (17179869184 : Nat)) then some [Q.one (D.str (mkB (jn (lb l2)))), Q.one (D.bool true)] else none else none else none else none else none
theorem impl_TurnLabelled.run (n : Nat) (a0 : ByteArray) :
    run1 impl_TurnLabelled.cfg [RK.one LK.str, RK.one LK.bool] n Tryd.f30 [Q.one (D.str a0)] = impl_TurnLabelled.res n a0 := by kernel_rfl
theorem impl_TurnLabelled.ev {n : Nat} {a0 : ByteArray} {r : List Q} (h : impl_TurnLabelled.res n a0 = some r) : Snd Tryd.prog C0 30 [.one (.str a0)] r :=
  snd_ev (C := impl_TurnLabelled.cfg) cfg0 mix rfl rfl rfl rfl rfl (.cons impl_labelled.ok (.cons impl_grid_turn.ok (.cons impl_grid_text.ok .nil))) .nil rfl Tryd.func30 (by kernel_rfl) (by kernel_rfl) rfl ((impl_TurnLabelled.run n a0).trans h)

def impl_TurnLabelled.stub : Stub
  | [.one (.str b)] => .gd (decide (b.size < LIM)) (.ret [.one (.str (Sp.turnT Sp.lab b)), .one (.bool (Sp.isBo Sp.lab b))])
  | _ => .fail
theorem impl_TurnLabelled.ok : StubOk Tryd.prog C0 30 impl_TurnLabelled.stub := by
  intro args res h
  unfold impl_TurnLabelled.stub at h
  split at h
  · rename_i b
    obtain ⟨hs, h0⟩ := gd_out h
    cases h0
    unfold LIM at hs
    refine impl_TurnLabelled.ev (n := 0) ?_
    unfold impl_TurnLabelled.res turnT
    rw [hs]
    cases hb : isBo Sp.lab b with
    | false => rfl
    | true =>
      have hq := hb
      obtain ⟨k1, k2, k3, k4⟩ := isBo_fine hq
      obtain ⟨f1, f2, f3, f4, f5, f6, f7, f8⟩ := r_facts k1 k2 k3
      obtain ⟨g1, g2, g3, g4, g5, g6⟩ := Sp.gr_ok hq
      obtain ⟨t1, t2, t3⟩ := turn_facts hq
      simp only [Bool.not_true, cond_false, cond_true, g5, g1, g6, k1, f1, f3, t1, t2, t3, Option.bind_some]
  · cases h
/-! laws_FnExactTurnLabelled -/
noncomputable def laws_FnExactTurnLabelled.cfg : Cfg := { C0 with keep := fun _ => none, nb := 0, M := tabM [(29, spec_TurnLabelled.stub), (30, impl_TurnLabelled.stub)], MM := tabB [] }
noncomputable def laws_FnExactTurnLabelled.res (n : Nat) (a0 : ByteArray) : Option (List Q) :=
  bif decide ((↑(ByteArray.size a0) : Int) > (1048576 : Int)) then some [Q.one (D.bool true)] else bif decide (ByteArray.size a0 < (17179869184 : Nat)) then bif !strEq (turnT lab a0) (turnT lab a0) then some [Q.one (D.bool false)] else bif !isBo lab a0 == isBo lab a0 then some [Q.one (D.bool false)] else some [Q.one (D.bool true)] else none
theorem laws_FnExactTurnLabelled.run (n : Nat) (a0 : ByteArray) :
    run1 laws_FnExactTurnLabelled.cfg [RK.one LK.bool] n Tryd.f8 [Q.one (D.str a0)] = laws_FnExactTurnLabelled.res n a0 := by kernel_rfl
theorem laws_FnExactTurnLabelled.ev {n : Nat} {a0 : ByteArray} {r : List Q} (h : laws_FnExactTurnLabelled.res n a0 = some r) : Snd Tryd.prog C0 8 [.one (.str a0)] r :=
  snd_ev (C := laws_FnExactTurnLabelled.cfg) cfg0 mix rfl rfl rfl rfl rfl (.cons spec_TurnLabelled.ok (.cons impl_TurnLabelled.ok .nil)) .nil rfl Tryd.func8 (by kernel_rfl) (by kernel_rfl) rfl ((laws_FnExactTurnLabelled.run n a0).trans h)

theorem laws_FnExactTurnLabelled.law (b : ByteArray) : Snd Tryd.prog C0 8 [.one (.str b)] [.one (.bool true)] := by
  refine laws_FnExactTurnLabelled.ev (n := 0) ?_
  unfold laws_FnExactTurnLabelled.res
  by_cases hs : b.size ≤ 1048576
  · have h1 : b.size < 17179869184 := by omega
    have h2 : ¬ ((b.size : Nat) : Int) > 1048576 := by omega
    simp only [h1, h2, decide_true, decide_false, cond_true, cond_false, strEq_refl, Bool.not_true, beq_self_eq_true, bne_self_eq_false]
  · have h2 : ((b.size : Nat) : Int) > 1048576 := by omega
    simp only [h2, decide_true, cond_true]
end Go.Proofs.EV.PL
set_option linter.unusedVariables false
set_option linter.unusedSimpArgs false
/-! Puzzles turned. -/
namespace Go.Proofs.EV.PL
open Go Go.Proofs Go.Proofs.EV Sp
/-! spec_diTurn -/
noncomputable def spec_diTurn.cfg : Cfg := { C0 with keep := fun _ => none, nb := 0, M := tabM [], MM := tabB [] }
noncomputable def spec_diTurn.res (n : Nat) (a0_0 : Int) (a0_1 : Int) (a0_2 : Int) (a0_3 : Int) (a0_4 : Int) (a0_5 : Int) : Option (List Q) :=
  some [Q.agg [D.int IntKind.i64 a0_0, D.int IntKind.i64 a0_4, D.int IntKind.i64 a0_1, D.int IntKind.i64 a0_2, D.int IntKind.i64 a0_3, D.int IntKind.i64 a0_5]]
theorem spec_diTurn.run (n : Nat) (a0_0 : Int) (a0_1 : Int) (a0_2 : Int) (a0_3 : Int) (a0_4 : Int) (a0_5 : Int) :
    run1 spec_diTurn.cfg [RK.agg [LK.int IntKind.i64, LK.int IntKind.i64, LK.int IntKind.i64, LK.int IntKind.i64, LK.int IntKind.i64, LK.int IntKind.i64]] n Tryd.f97 [Q.agg [D.int IntKind.i64 a0_0, D.int IntKind.i64 a0_1, D.int IntKind.i64 a0_2, D.int IntKind.i64 a0_3, D.int IntKind.i64 a0_4, D.int IntKind.i64 a0_5]] = spec_diTurn.res n a0_0 a0_1 a0_2 a0_3 a0_4 a0_5 := by kernel_rfl
theorem spec_diTurn.ev {n : Nat} {a0_0 : Int} {a0_1 : Int} {a0_2 : Int} {a0_3 : Int} {a0_4 : Int} {a0_5 : Int} {r : List Q} (h : spec_diTurn.res n a0_0 a0_1 a0_2 a0_3 a0_4 a0_5 = some r) : Snd Tryd.prog C0 97 [.agg [.int .i64 a0_0, .int .i64 a0_1, .int .i64 a0_2, .int .i64 a0_3, .int .i64 a0_4, .int .i64 a0_5]] r :=
  snd_ev (C := spec_diTurn.cfg) cfg0 mix rfl rfl rfl rfl rfl .nil .nil rfl Tryd.func97 (by kernel_rfl) (by kernel_rfl) rfl ((spec_diTurn.run n a0_0 a0_1 a0_2 a0_3 a0_4 a0_5).trans h)

def spec_diTurn.stub : Stub
  | [.agg [.int .i64 t, .int .i64 n, .int .i64 e, .int .i64 s, .int .i64 w, .int .i64 b]] => .ret [.agg [.int .i64 t, .int .i64 w, .int .i64 n, .int .i64 e, .int .i64 s, .int .i64 b]]
  | _ => .fail
theorem spec_diTurn.ok : StubOk Tryd.prog C0 97 spec_diTurn.stub := by
  intro args res h
  unfold spec_diTurn.stub at h
  split at h
  · cases h
    exact spec_diTurn.ev (n := 0) rfl
  · cases h
/-! impl_Die_turn -/
noncomputable def impl_Die_turn.cfg : Cfg := { C0 with keep := fun _ => none, nb := 0, M := tabM [], MM := tabB [] }
noncomputable def impl_Die_turn.res (n : Nat) (a0_0 : Int) (a0_1 : Int) (a0_2 : Int) (a0_3 : Int) (a0_4 : Int) (a0_5 : Int) : Option (List Q) :=
  some [Q.agg [D.int IntKind.i64 a0_0, D.int IntKind.i64 a0_4, D.int IntKind.i64 a0_1, D.int IntKind.i64 a0_2, D.int IntKind.i64 a0_3, D.int IntKind.i64 a0_5]]
theorem impl_Die_turn.run (n : Nat) (a0_0 : Int) (a0_1 : Int) (a0_2 : Int) (a0_3 : Int) (a0_4 : Int) (a0_5 : Int) :
    run1 impl_Die_turn.cfg [RK.agg [LK.int IntKind.i64, LK.int IntKind.i64, LK.int IntKind.i64, LK.int IntKind.i64, LK.int IntKind.i64, LK.int IntKind.i64]] n Tryd.f98 [Q.agg [D.int IntKind.i64 a0_0, D.int IntKind.i64 a0_1, D.int IntKind.i64 a0_2, D.int IntKind.i64 a0_3, D.int IntKind.i64 a0_4, D.int IntKind.i64 a0_5]] = impl_Die_turn.res n a0_0 a0_1 a0_2 a0_3 a0_4 a0_5 := by kernel_rfl
theorem impl_Die_turn.ev {n : Nat} {a0_0 : Int} {a0_1 : Int} {a0_2 : Int} {a0_3 : Int} {a0_4 : Int} {a0_5 : Int} {r : List Q} (h : impl_Die_turn.res n a0_0 a0_1 a0_2 a0_3 a0_4 a0_5 = some r) : Snd Tryd.prog C0 98 [.agg [.int .i64 a0_0, .int .i64 a0_1, .int .i64 a0_2, .int .i64 a0_3, .int .i64 a0_4, .int .i64 a0_5]] r :=
  snd_ev (C := impl_Die_turn.cfg) cfg0 mix rfl rfl rfl rfl rfl .nil .nil rfl Tryd.func98 (by kernel_rfl) (by kernel_rfl) rfl ((impl_Die_turn.run n a0_0 a0_1 a0_2 a0_3 a0_4 a0_5).trans h)

def impl_Die_turn.stub : Stub
  | [.agg [.int .i64 t, .int .i64 n, .int .i64 e, .int .i64 s, .int .i64 w, .int .i64 b]] => .ret [.agg [.int .i64 t, .int .i64 w, .int .i64 n, .int .i64 e, .int .i64 s, .int .i64 b]]
  | _ => .fail
theorem impl_Die_turn.ok : StubOk Tryd.prog C0 98 impl_Die_turn.stub := by
  intro args res h
  unfold impl_Die_turn.stub at h
  split at h
  · cases h
    exact impl_Die_turn.ev (n := 0) rfl
  · cases h
/-! impl_grid_turnCell -/
noncomputable def impl_grid_turnCell.cfg : Cfg := { C0 with keep := fun _ => none, nb := 0, M := tabM [], MM := tabB [] }
noncomputable def impl_grid_turnCell.res (n : Nat) (a0 : List (List D)) (a1 : Int) (a2 : Int) : Option (List Q) :=
  some [Q.one (D.int IntKind.i64 (IntKind.wrap IntKind.i64 (IntKind.wrap IntKind.i64 ((↑(List.length a0) : Int) - (1 : Int)) - a2))), Q.one (D.int IntKind.i64 a1)]
theorem impl_grid_turnCell.run (n : Nat) (a0 : List (List D)) (a1 : Int) (a2 : Int) :
    run1 impl_grid_turnCell.cfg [RK.one (LK.int IntKind.i64), RK.one (LK.int IntKind.i64)] n Tryd.f73 [Q.one (D.sl (1 : Nat) a0), Q.one (D.int IntKind.i64 a1), Q.one (D.int IntKind.i64 a2)] = impl_grid_turnCell.res n a0 a1 a2 := by kernel_rfl
theorem impl_grid_turnCell.ev {n : Nat} {a0 : List (List D)} {a1 : Int} {a2 : Int} {r : List Q} (h : impl_grid_turnCell.res n a0 a1 a2 = some r) : Snd Tryd.prog C0 73 [.one (.sl 1 a0), .one (.int .i64 a1), .one (.int .i64 a2)] r :=
  snd_ev (C := impl_grid_turnCell.cfg) cfg0 mix rfl rfl rfl rfl rfl .nil .nil rfl Tryd.func73 (by kernel_rfl) (by kernel_rfl) rfl ((impl_grid_turnCell.run n a0 a1 a2).trans h)

def impl_grid_turnCell.stub : Stub
  | [.one (.sl 1 es), .one (.int .i64 x), .one (.int .i64 y)] => .any (strC.decs es) fun l => .ret [.one (.int .i64 (IntKind.i64.wrap (IntKind.i64.wrap ((l.length : Int) - 1) - y))), .one (.int .i64 x)]
  | _ => .fail
theorem impl_grid_turnCell.ok : StubOk Tryd.prog C0 73 impl_grid_turnCell.stub := by
  intro args res h
  unfold impl_grid_turnCell.stub at h
  split at h
  · obtain ⟨l, h1, h0⟩ := any_out h
    obtain ⟨rfl, hl⟩ := Cod.decs_inv h1
    cases h0
    refine impl_grid_turnCell.ev (n := 0) ?_
    unfold impl_grid_turnCell.res
    rw [Cod.encs_len]
  · cases h
/-! spec_TurnState -/
noncomputable def spec_TurnState.cfg : Cfg := { C0 with keep := fun _ => none, nb := 0, M := tabM [(83, spec_boAsked.stub), (97, spec_diTurn.stub)], MM := tabB [] }
noncomputable def spec_TurnState.res (n : Nat) (a0 : ByteArray) (a1_0 : Int) (a1_1 : Int) (a1_2 : Int) (a1_3 : Int) (a1_4 : Int) (a1_5 : Int) (a1_6 : Int) (a1_7 : Int) : Option (List Q) :=
  bif !(isBo brd a0 && (Die.good (Die.mk a1_2 a1_3 a1_4 a1_5 a1_6 a1_7) && isFl (rws a0) a1_0 a1_1)) then some [Q.agg [D.int IntKind.i64 (0 : Int), D.int IntKind.i64 (0 : Int), D.int IntKind.i64 (0 : Int), D.int IntKind.i64 (0 : Int), D.int IntKind.i64 (0 : Int), D.int IntKind.i64 (0 : Int), D.int IntKind.i64 (0 : Int), D.int IntKind.i64 (0 : Int)], Q.one (D.bool false)] else some [Q.agg [D.int IntKind.i64 (IntKind.wrap IntKind.i64 (IntKind.wrap IntKind.i64 ((↑(boH brd a0) : Int) - (1 : Int)) - a1_1)), D.int IntKind.i64 a1_0, D.int IntKind.i64 a1_2, D.int IntKind.i64 a1_6, D.int IntKind.i64 a1_3, D.int IntKind.i64 a1_4, D.int IntKind.i64 a1_5, D.int IntKind.i64 a1_7], Q.one (D.bool true)]
theorem spec_TurnState.run (n : Nat) (a0 : ByteArray) (a1_0 : Int) (a1_1 : Int) (a1_2 : Int) (a1_3 : Int) (a1_4 : Int) (a1_5 : Int) (a1_6 : Int) (a1_7 : Int) :
    run1 spec_TurnState.cfg [RK.agg [LK.int IntKind.i64, LK.int IntKind.i64, LK.int IntKind.i64, LK.int IntKind.i64, LK.int IntKind.i64, LK.int IntKind.i64, LK.int IntKind.i64, LK.int IntKind.i64], RK.one LK.bool] n Tryd.f71 [Q.one (D.str a0), Q.agg [D.int IntKind.i64 a1_0, D.int IntKind.i64 a1_1, D.int IntKind.i64 a1_2, D.int IntKind.i64 a1_3, D.int IntKind.i64 a1_4, D.int IntKind.i64 a1_5, D.int IntKind.i64 a1_6, D.int IntKind.i64 a1_7]] = spec_TurnState.res n a0 a1_0 a1_1 a1_2 a1_3 a1_4 a1_5 a1_6 a1_7 := by kernel_rfl
theorem spec_TurnState.ev {n : Nat} {a0 : ByteArray} {a1_0 : Int} {a1_1 : Int} {a1_2 : Int} {a1_3 : Int} {a1_4 : Int} {a1_5 : Int} {a1_6 : Int} {a1_7 : Int} {r : List Q} (h : spec_TurnState.res n a0 a1_0 a1_1 a1_2 a1_3 a1_4 a1_5 a1_6 a1_7 = some r) : Snd Tryd.prog C0 71 [.one (.str a0), .agg [.int .i64 a1_0, .int .i64 a1_1, .int .i64 a1_2, .int .i64 a1_3, .int .i64 a1_4, .int .i64 a1_5, .int .i64 a1_6, .int .i64 a1_7]] r :=
  snd_ev (C := spec_TurnState.cfg) cfg0 mix rfl rfl rfl rfl rfl (.cons spec_boAsked.ok (.cons spec_diTurn.ok .nil)) .nil rfl Tryd.func71 (by kernel_rfl) (by kernel_rfl) rfl ((spec_TurnState.run n a0 a1_0 a1_1 a1_2 a1_3 a1_4 a1_5 a1_6 a1_7).trans h)

def spec_TurnState.stub : Stub
  | [.one (.str q), .agg [.int .i64 x, .int .i64 y, .int .i64 t, .int .i64 n, .int .i64 e, .int .i64 s, .int .i64 w, .int .i64 b]] => .gd (Sp.isBo Sp.brd q && (Sp.Die.good ⟨t, n, e, s, w, b⟩ && Sp.isFl (Sp.rws q) x y)) (.ret [.agg [.int .i64 (Sp.tx q y), .int .i64 x, .int .i64 t, .int .i64 w, .int .i64 n, .int .i64 e, .int .i64 s, .int .i64 b], .one (.bool true)])
  | _ => .fail
theorem spec_TurnState.ok : StubOk Tryd.prog C0 71 spec_TurnState.stub := by
  intro args res h
  unfold spec_TurnState.stub at h
  split at h
  · rename_i q x y t n e s w b
    obtain ⟨h1, h0⟩ := gd_out h
    cases h0
    obtain ⟨hb, _⟩ := (Bool.and_eq_true _ _ ▸ h1 : _ ∧ _)
    obtain ⟨_, _, e3, _, _, _, _⟩ := bo_ok hb
    refine spec_TurnState.ev (n := 0) ?_
    unfold spec_TurnState.res
    rw [h1, e3]; rfl
  · cases h
/-! impl_TurnState -/
noncomputable def impl_TurnState.cfg : Cfg := { C0 with keep := fun _ => none, nb := 0, M := tabM [(49, impl_onBoard.stub), (73, impl_grid_turnCell.stub), (98, impl_Die_turn.stub)], MM := tabB [] }
noncomputable def impl_TurnState.res (n : Nat) (a0 : ByteArray) (a1_0 : Int) (a1_1 : Int) (a1_2 : Int) (a1_3 : Int) (a1_4 : Int) (a1_5 : Int) (a1_6 : Int) (a1_7 : Int) : Option (List Q) :=
  bif decide (ByteArray.size a0 < (17179869184 : Nat)) then bif !(isBo brd a0 && (Die.good (Die.mk a1_2 a1_3 a1_4 a1_5 a1_6 a1_7) && isFl (rws a0) a1_0 a1_1)) then some [Q.agg [D.int IntKind.i64 (0 : Int), D.int IntKind.i64 (0 : Int), D.int IntKind.i64 (0 : Int), D.int IntKind.i64 (0 : Int), D.int IntKind.i64 (0 : Int), D.int IntKind.i64 (0 : Int), D.int IntKind.i64 (0 : Int), D.int IntKind.i64 (0 : Int)], Q.one (D.bool false)] else Option.bind (Cod.decs strC (Cod.encs strC (gridI brd a0))) fun (l1 : List ByteArray) => some [Q.agg [D.int IntKind.i64 (IntKind.wrap IntKind.i64 (IntKind.wrap IntKind.i64 ((↑(List.length l1) : Int) - (1 : Int)) - a1_1)), D.int IntKind.i64 a1_0, D.int IntKind.i64 a1_2, D.int IntKind.i64 a1_6, D.int IntKind.i64 a1_3, D.int IntKind.i64 a1_4, D.int IntKind.i64 a1_5, D.int IntKind.i64 a1_7], Q.one (D.bool true)] else none
theorem impl_TurnState.run (n : Nat) (a0 : ByteArray) (a1_0 : Int) (a1_1 : Int) (a1_2 : Int) (a1_3 : Int) (a1_4 : Int) (a1_5 : Int) (a1_6 : Int) (a1_7 : Int) :
    run1 impl_TurnState.cfg [RK.agg [LK.int IntKind.i64, LK.int IntKind.i64, LK.int IntKind.i64, LK.int IntKind.i64, LK.int IntKind.i64, LK.int IntKind.i64, LK.int IntKind.i64, LK.int IntKind.i64], RK.one LK.bool] n Tryd.f72 [Q.one (D.str a0), Q.agg [D.int IntKind.i64 a1_0, D.int IntKind.i64 a1_1, D.int IntKind.i64 a1_2, D.int IntKind.i64 a1_3, D.int IntKind.i64 a1_4, D.int IntKind.i64 a1_5, D.int IntKind.i64 a1_6, D.int IntKind.i64 a1_7]] = impl_TurnState.res n a0 a1_0 a1_1 a1_2 a1_3 a1_4 a1_5 a1_6 a1_7 := by kernel_rfl
theorem impl_TurnState.ev {n : Nat} {a0 : ByteArray} {a1_0 : Int} {a1_1 : Int} {a1_2 : Int} {a1_3 : Int} {a1_4 : Int} {a1_5 : Int} {a1_6 : Int} {a1_7 : Int} {r : List Q} (h : impl_TurnState.res n a0 a1_0 a1_1 a1_2 a1_3 a1_4 a1_5 a1_6 a1_7 = some r) : Snd Tryd.prog C0 72 [.one (.str a0), .agg [.int .i64 a1_0, .int .i64 a1_1, .int .i64 a1_2, .int .i64 a1_3, .int .i64 a1_4, .int .i64 a1_5, .int .i64 a1_6, .int .i64 a1_7]] r :=
  snd_ev (C := impl_TurnState.cfg) cfg0 mix rfl rfl rfl rfl rfl (.cons impl_onBoard.ok (.cons impl_grid_turnCell.ok (.cons impl_Die_turn.ok .nil))) .nil rfl Tryd.func72 (by kernel_rfl) (by kernel_rfl) rfl ((impl_TurnState.run n a0 a1_0 a1_1 a1_2 a1_3 a1_4 a1_5 a1_6 a1_7).trans h)

def impl_TurnState.stub : Stub
  | [.one (.str q), .agg [.int .i64 x, .int .i64 y, .int .i64 t, .int .i64 n, .int .i64 e, .int .i64 s, .int .i64 w, .int .i64 b]] => .gd (decide (q.size < LIM)) (.gd (Sp.isBo Sp.brd q && (Sp.Die.good ⟨t, n, e, s, w, b⟩ && Sp.isFl (Sp.rws q) x y)) (.ret [.agg [.int .i64 (Sp.tx q y), .int .i64 x, .int .i64 t, .int .i64 w, .int .i64 n, .int .i64 e, .int .i64 s, .int .i64 b], .one (.bool true)]))
  | _ => .fail
theorem impl_TurnState.ok : StubOk Tryd.prog C0 72 impl_TurnState.stub := by
  intro args res h
  unfold impl_TurnState.stub at h
  split at h
  · rename_i q x y t n e s w b
    obtain ⟨hs, h⟩ := gd_out h
    obtain ⟨h1, h0⟩ := gd_out h
    cases h0
    unfold LIM at hs
    obtain ⟨hb, _⟩ := (Bool.and_eq_true _ _ ▸ h1 : _ ∧ _)
    obtain ⟨g1, g2, g3, g4, g5, g6⟩ := Sp.gr_ok hb
    refine impl_TurnState.ev (n := 0) ?_
    unfold impl_TurnState.res
    rw [hs, h1]
    simp only [Bool.not_true, cond_true, cond_false, g5, Option.bind_some, g6]
    rfl
  · cases h
/-! spec_TurnPuzzle -/
noncomputable def spec_TurnPuzzle.cfg : Cfg := { C0 with keep := fun _ => none, nb := 0, M := tabM [(50, spec_puGood.stub), (53, spec_boRead.stub), (71, spec_TurnState.stub), (54, spec_boText.stub), (55, spec_boTurn.stub)], MM := tabB [] }
noncomputable def spec_TurnPuzzle.res (n : Nat) (a0_0 : ByteArray) (a0_1 : Int) (a0_2 : Int) (a0_3 : Int) (a0_4 : Int) (a0_5 : Int) (a0_6 : Int) (a0_7 : Int) (a0_8 : Int) (a0_9 : Int) (a0_10 : Int) (a0_11 : Int) : Option (List Q) :=
  bif !(isBo brd a0_0 && (Die.good (Die.mk a0_3 a0_4 a0_5 a0_6 a0_7 a0_8) && isFl (rws a0_0) a0_1 a0_2) && (isFl (rws a0_0) a0_9 a0_10 && inR a0_11 (0 : Int) (9 : Int))) then some [Q.agg [D.str (ByteArray.mk #[]), D.int IntKind.i64 (0 : Int), D.int IntKind.i64 (0 : Int), D.int IntKind.i64 (0 : Int), D.int IntKind.i64 (0 : Int), D.int IntKind.i64 (0 : Int), D.int IntKind.i64 (0 : Int), D.int IntKind.i64 (0 : Int), D.int IntKind.i64 (0 : Int), D.int IntKind.i64 (0 : Int), D.int IntKind.i64 (0 : Int), D.int IntKind.i64 (0 : Int)], Q.one (D.bool false)] else bif isBo brd a0_0 && (Die.good (Die.mk a0_3 a0_4 a0_5 a0_6 a0_7 a0_8) && isFl (rws a0_0) a0_1 a0_2) then Option.bind (Cod.decs u8C (Cod.encs u8C (boC brd a0_0))) fun (l1 : List UInt8) => bif inR (↑(boW brd a0_0) : Int) (0 : Int) (7 : Int) then bif inR (↑(boH brd a0_0) : Int) (0 : Int) (7 : Int) then bif decide (List.length l1 = Int.toNat (↑(boW brd a0_0) : Int) * Int.toNat (↑(boH brd a0_0) : Int)) then Option.bind (Cod.decs u8C (Cod.encs u8C (turnC (Int.toNat (↑(boW brd a0_0) : Int)) (Int.toNat (↑(boH brd a0_0) : Int)) l1))) fun (l2 : List UInt8) => bif inR (↑(boH brd a0_0) : Int) (0 : Int) (7 : Int) then bif inR (↑(boW brd a0_0) : Int) (0 : Int) (7 : Int) then bif decide (List.length l2 = Int.toNat (↑(boH brd a0_0) : Int) * Int.toNat (↑(boW brd a0_0) : Int)) then some [Q.agg [D.str (mkB (jn (chunk (Int.toNat (↑(boH brd a0_0) : Int)) (Int.toNat (↑(boW brd a0_0) : Int)) l2))), D.int IntKind.i64 (tx a0_0 a0_2), D.int IntKind.i64 a0_1, D.int IntKind.i64 a0_3, D.int IntKind.i64 a0_7, D.int IntKind.i64 a0_4, D.int IntKind.i64 a0_5, D.int IntKind.i64 a0_6, D.int IntKind.i64 a0_8, D.int IntKind.i64 (IntKind.wrap IntKind.i64 (IntKind.wrap IntKind.i64 ((↑(boH brd a0_0) : Int) - (1 : Int)) - a0_10)), D.int IntKind.i64 a0_9, D.int IntKind.i64 a0_11], Q.one (D.bool true)] else none else none else none else none else none else none else none
theorem spec_TurnPuzzle.run (n : Nat) (a0_0 : ByteArray) (a0_1 : Int) (a0_2 : Int) (a0_3 : Int) (a0_4 : Int) (a0_5 : Int) (a0_6 : Int) (a0_7 : Int) (a0_8 : Int) (a0_9 : Int) (a0_10 : Int) (a0_11 : Int) :
    run1 spec_TurnPuzzle.cfg [RK.agg [LK.str, LK.int IntKind.i64, LK.int IntKind.i64, LK.int IntKind.i64, LK.int IntKind.i64, LK.int IntKind.i64, LK.int IntKind.i64, LK.int IntKind.i64, LK.int IntKind.i64, LK.int IntKind.i64, LK.int IntKind.i64, LK.int IntKind.i64], RK.one LK.bool] n Tryd.f35 [Q.agg [D.str a0_0, D.int IntKind.i64 a0_1, D.int IntKind.i64 a0_2, D.int IntKind.i64 a0_3, D.int IntKind.i64 a0_4, D.int IntKind.i64 a0_5, D.int IntKind.i64 a0_6, D.int IntKind.i64 a0_7, D.int IntKind.i64 a0_8, D.int IntKind.i64 a0_9, D.int IntKind.i64 a0_10, D.int IntKind.i64 a0_11]] = spec_TurnPuzzle.res n a0_0 a0_1 a0_2 a0_3 a0_4 a0_5 a0_6 a0_7 a0_8 a0_9 a0_10 a0_11 := by kernel_rfl
theorem spec_TurnPuzzle.ev {n : Nat} {a0_0 : ByteArray} {a0_1 : Int} {a0_2 : Int} {a0_3 : Int} {a0_4 : Int} {a0_5 : Int} {a0_6 : Int} {a0_7 : Int} {a0_8 : Int} {a0_9 : Int} {a0_10 : Int} {a0_11 : Int} {r : List Q} (h : spec_TurnPuzzle.res n a0_0 a0_1 a0_2 a0_3 a0_4 a0_5 a0_6 a0_7 a0_8 a0_9 a0_10 a0_11 = some r) : Snd Tryd.prog C0 35 [.agg [.str a0_0, .int .i64 a0_1, .int .i64 a0_2, .int .i64 a0_3, .int .i64 a0_4, .int .i64 a0_5, .int .i64 a0_6, .int .i64 a0_7, .int .i64 a0_8, .int .i64 a0_9, .int .i64 a0_10, .int .i64 a0_11]] r :=
  snd_ev (C := spec_TurnPuzzle.cfg) cfg0 mix rfl rfl rfl rfl rfl (.cons spec_puGood.ok (.cons spec_boRead.ok (.cons spec_TurnState.ok (.cons spec_boText.ok (.cons spec_boTurn.ok .nil))))) .nil rfl Tryd.func35 (by kernel_rfl) (by kernel_rfl) rfl ((spec_TurnPuzzle.run n a0_0 a0_1 a0_2 a0_3 a0_4 a0_5 a0_6 a0_7 a0_8 a0_9 a0_10 a0_11).trans h)

def spec_TurnPuzzle.stub : Stub
  | [.agg [.str q, .int .i64 x, .int .i64 y, .int .i64 t, .int .i64 n, .int .i64 e, .int .i64 s, .int .i64 w, .int .i64 b, .int .i64 px, .int .i64 py, .int .i64 pt]] => (.ret [.agg [.str (Sp.onS (Sp.isBo Sp.brd q && (Sp.Die.good ⟨t, n, e, s, w, b⟩ && Sp.isFl (Sp.rws q) x y) && (Sp.isFl (Sp.rws q) px py && Sp.inR pt 0 9)) (Sp.turnT Sp.brd q)), .int .i64 (Sp.onI (Sp.isBo Sp.brd q && (Sp.Die.good ⟨t, n, e, s, w, b⟩ && Sp.isFl (Sp.rws q) x y) && (Sp.isFl (Sp.rws q) px py && Sp.inR pt 0 9)) (Sp.tx q y)), .int .i64 (Sp.onI (Sp.isBo Sp.brd q && (Sp.Die.good ⟨t, n, e, s, w, b⟩ && Sp.isFl (Sp.rws q) x y) && (Sp.isFl (Sp.rws q) px py && Sp.inR pt 0 9)) x), .int .i64 (Sp.onI (Sp.isBo Sp.brd q && (Sp.Die.good ⟨t, n, e, s, w, b⟩ && Sp.isFl (Sp.rws q) x y) && (Sp.isFl (Sp.rws q) px py && Sp.inR pt 0 9)) t), .int .i64 (Sp.onI (Sp.isBo Sp.brd q && (Sp.Die.good ⟨t, n, e, s, w, b⟩ && Sp.isFl (Sp.rws q) x y) && (Sp.isFl (Sp.rws q) px py && Sp.inR pt 0 9)) w), .int .i64 (Sp.onI (Sp.isBo Sp.brd q && (Sp.Die.good ⟨t, n, e, s, w, b⟩ && Sp.isFl (Sp.rws q) x y) && (Sp.isFl (Sp.rws q) px py && Sp.inR pt 0 9)) n), .int .i64 (Sp.onI (Sp.isBo Sp.brd q && (Sp.Die.good ⟨t, n, e, s, w, b⟩ && Sp.isFl (Sp.rws q) x y) && (Sp.isFl (Sp.rws q) px py && Sp.inR pt 0 9)) e), .int .i64 (Sp.onI (Sp.isBo Sp.brd q && (Sp.Die.good ⟨t, n, e, s, w, b⟩ && Sp.isFl (Sp.rws q) x y) && (Sp.isFl (Sp.rws q) px py && Sp.inR pt 0 9)) s), .int .i64 (Sp.onI (Sp.isBo Sp.brd q && (Sp.Die.good ⟨t, n, e, s, w, b⟩ && Sp.isFl (Sp.rws q) x y) && (Sp.isFl (Sp.rws q) px py && Sp.inR pt 0 9)) b), .int .i64 (Sp.onI (Sp.isBo Sp.brd q && (Sp.Die.good ⟨t, n, e, s, w, b⟩ && Sp.isFl (Sp.rws q) x y) && (Sp.isFl (Sp.rws q) px py && Sp.inR pt 0 9)) (Sp.tx q py)), .int .i64 (Sp.onI (Sp.isBo Sp.brd q && (Sp.Die.good ⟨t, n, e, s, w, b⟩ && Sp.isFl (Sp.rws q) x y) && (Sp.isFl (Sp.rws q) px py && Sp.inR pt 0 9)) px), .int .i64 (Sp.onI (Sp.isBo Sp.brd q && (Sp.Die.good ⟨t, n, e, s, w, b⟩ && Sp.isFl (Sp.rws q) x y) && (Sp.isFl (Sp.rws q) px py && Sp.inR pt 0 9)) pt)], .one (.bool (Sp.isBo Sp.brd q && (Sp.Die.good ⟨t, n, e, s, w, b⟩ && Sp.isFl (Sp.rws q) x y) && (Sp.isFl (Sp.rws q) px py && Sp.inR pt 0 9)))])
  | _ => .fail
theorem spec_TurnPuzzle.ok : StubOk Tryd.prog C0 35 spec_TurnPuzzle.stub := by
  intro args res h
  unfold spec_TurnPuzzle.stub at h
  split at h
  · rename_i q x y t n e s w b px py pt
    cases h
    refine spec_TurnPuzzle.ev (n := 0) ?_
    unfold spec_TurnPuzzle.res
    cases hh : (Sp.isBo Sp.brd q && (Sp.Die.good ⟨t, n, e, s, w, b⟩ && Sp.isFl (Sp.rws q) x y) && (Sp.isFl (Sp.rws q) px py && Sp.inR pt 0 9)) with
    | false => rfl
    | true =>
      obtain ⟨h1, h2⟩ := (Bool.and_eq_true _ _ ▸ hh : _ ∧ _)
      obtain ⟨hb, _⟩ := (Bool.and_eq_true _ _ ▸ h1 : _ ∧ _)
      obtain ⟨k1, k2, k3, k4⟩ := isBo_fine hb
      obtain ⟨e1, e2, e3, _, _, _, _⟩ := bo_ok hb
      obtain ⟨f1, f2, f3, f4, f5, f6, f7, f8⟩ := r_facts k1 k2 k3
      have ht : turnT brd q = mkB (jn (turnR (rws q))) := by unfold turnT; rw [hb]; rfl
      rw [show onS true (turnT brd q) = turnT brd q from rfl, ht]
      simp only [Bool.not_true, cond_false, cond_true, h1, e1, e2, e3, Int.toNat_natCast, f1, f2, f4, f5, f6, f7, Option.bind_some, turn_text k1]
      rfl
  · cases h
/-! impl_TurnPuzzle -/
noncomputable def impl_TurnPuzzle.cfg : Cfg := { C0 with keep := fun _ => none, nb := 0, M := tabM [(22, impl_IsPuzzle.stub), (56, impl_board.stub), (24, impl_TurnBoard.stub), (72, impl_TurnState.stub), (73, impl_grid_turnCell.stub)], MM := tabB [] }
noncomputable def impl_TurnPuzzle.res (n : Nat) (a0_0 : ByteArray) (a0_1 : Int) (a0_2 : Int) (a0_3 : Int) (a0_4 : Int) (a0_5 : Int) (a0_6 : Int) (a0_7 : Int) (a0_8 : Int) (a0_9 : Int) (a0_10 : Int) (a0_11 : Int) : Option (List Q) :=
  bif decide (ByteArray.size a0_0 < (17179869184 : Nat)) then bif !(isBo brd a0_0 && (Die.good (Die.mk a0_3 a0_4 a0_5 a0_6 a0_7 a0_8) && isFl (rws a0_0) a0_1 a0_2) && (isFl (rws a0_0) a0_9 a0_10 && inR a0_11 (0 : Int) (9 : Int))) then some [Q.agg [D.str (ByteArray.mk #[]), D.int IntKind.i64 (0 : Int), D.int IntKind.i64 (0 : Int), D.int IntKind.i64 (0 : Int), D.int IntKind.i64 (0 : Int), D.int IntKind.i64 (0 : Int), D.int IntKind.i64 (0 : Int), D.int IntKind.i64 (0 : Int), D.int IntKind.i64 (0 : Int), D.int IntKind.i64 (0 : Int), D.int IntKind.i64 (0 : Int), D.int IntKind.i64 (0 : Int)], Q.one (D.bool false)] else bif decide (ByteArray.size a0_0 < (17179869184 : Nat)) then bif decide (ByteArray.size a0_0 < (17179869184 : Nat)) then bif decide (ByteArray.size a0_0 < (17179869184 : Nat)) then bif isBo brd a0_0 && (Die.good (Die.mk a0_3 a0_4 a0_5 a0_6 a0_7 a0_8) && isFl (rws a0_0) a0_1 a0_2) then Option.bind (Cod.decs strC (Cod.encs strC (gridI brd a0_0))) fun (l1 : List ByteArray) => some [Q.agg [D.str (turnT brd a0_0), D.int IntKind.i64 (tx a0_0 a0_2), D.int IntKind.i64 a0_1, D.int IntKind.i64 a0_3, D.int IntKind.i64 a0_7, D.int IntKind.i64 a0_4, D.int IntKind.i64 a0_5, D.int IntKind.i64 a0_6, D.int IntKind.i64 a0_8, D.int IntKind.i64 (IntKind.wrap IntKind.i64 (IntKind.wrap IntKind.i64 ((↑(List.length l1) : Int) - (1 : Int)) - a0_10)), D.int IntKind.i64 a0_9, D.int IntKind.i64 a0_11], Q.one (D.bool true)] else none else none else none else none else none
theorem impl_TurnPuzzle.run (n : Nat) (a0_0 : ByteArray) (a0_1 : Int) (a0_2 : Int) (a0_3 : Int) (a0_4 : Int) (a0_5 : Int) (a0_6 : Int) (a0_7 : Int) (a0_8 : Int) (a0_9 : Int) (a0_10 : Int) (a0_11 : Int) :
    run1 impl_TurnPuzzle.cfg [RK.agg [LK.str, LK.int IntKind.i64, LK.int IntKind.i64, LK.int IntKind.i64, LK.int IntKind.i64, LK.int IntKind.i64, LK.int IntKind.i64, LK.int IntKind.i64, LK.int IntKind.i64, LK.int IntKind.i64, LK.int IntKind.i64, LK.int IntKind.i64], RK.one LK.bool] n Tryd.f36 [Q.agg [D.str a0_0, D.int IntKind.i64 a0_1, D.int IntKind.i64 a0_2, D.int IntKind.i64 a0_3, D.int IntKind.i64 a0_4, D.int IntKind.i64 a0_5, D.int IntKind.i64 a0_6, D.int IntKind.i64 a0_7, D.int IntKind.i64 a0_8, D.int IntKind.i64 a0_9, D.int IntKind.i64 a0_10, D.int IntKind.i64 a0_11]] = impl_TurnPuzzle.res n a0_0 a0_1 a0_2 a0_3 a0_4 a0_5 a0_6 a0_7 a0_8 a0_9 a0_10 a0_11 := by kernel_rfl
theorem impl_TurnPuzzle.ev {n : Nat} {a0_0 : ByteArray} {a0_1 : Int} {a0_2 : Int} {a0_3 : Int} {a0_4 : Int} {a0_5 : Int} {a0_6 : Int} {a0_7 : Int} {a0_8 : Int} {a0_9 : Int} {a0_10 : Int} {a0_11 : Int} {r : List Q} (h : impl_TurnPuzzle.res n a0_0 a0_1 a0_2 a0_3 a0_4 a0_5 a0_6 a0_7 a0_8 a0_9 a0_10 a0_11 = some r) : Snd Tryd.prog C0 36 [.agg [.str a0_0, .int .i64 a0_1, .int .i64 a0_2, .int .i64 a0_3, .int .i64 a0_4, .int .i64 a0_5, .int .i64 a0_6, .int .i64 a0_7, .int .i64 a0_8, .int .i64 a0_9, .int .i64 a0_10, .int .i64 a0_11]] r :=
  snd_ev (C := impl_TurnPuzzle.cfg) cfg0 mix rfl rfl rfl rfl rfl (.cons impl_IsPuzzle.ok (.cons impl_board.ok (.cons impl_TurnBoard.ok (.cons impl_TurnState.ok (.cons impl_grid_turnCell.ok .nil))))) .nil rfl Tryd.func36 (by kernel_rfl) (by kernel_rfl) rfl ((impl_TurnPuzzle.run n a0_0 a0_1 a0_2 a0_3 a0_4 a0_5 a0_6 a0_7 a0_8 a0_9 a0_10 a0_11).trans h)

def impl_TurnPuzzle.stub : Stub
  | [.agg [.str q, .int .i64 x, .int .i64 y, .int .i64 t, .int .i64 n, .int .i64 e, .int .i64 s, .int .i64 w, .int .i64 b, .int .i64 px, .int .i64 py, .int .i64 pt]] => .gd (decide (q.size < LIM)) ((.ret [.agg [.str (Sp.onS (Sp.isBo Sp.brd q && (Sp.Die.good ⟨t, n, e, s, w, b⟩ && Sp.isFl (Sp.rws q) x y) && (Sp.isFl (Sp.rws q) px py && Sp.inR pt 0 9)) (Sp.turnT Sp.brd q)), .int .i64 (Sp.onI (Sp.isBo Sp.brd q && (Sp.Die.good ⟨t, n, e, s, w, b⟩ && Sp.isFl (Sp.rws q) x y) && (Sp.isFl (Sp.rws q) px py && Sp.inR pt 0 9)) (Sp.tx q y)), .int .i64 (Sp.onI (Sp.isBo Sp.brd q && (Sp.Die.good ⟨t, n, e, s, w, b⟩ && Sp.isFl (Sp.rws q) x y) && (Sp.isFl (Sp.rws q) px py && Sp.inR pt 0 9)) x), .int .i64 (Sp.onI (Sp.isBo Sp.brd q && (Sp.Die.good ⟨t, n, e, s, w, b⟩ && Sp.isFl (Sp.rws q) x y) && (Sp.isFl (Sp.rws q) px py && Sp.inR pt 0 9)) t), .int .i64 (Sp.onI (Sp.isBo Sp.brd q && (Sp.Die.good ⟨t, n, e, s, w, b⟩ && Sp.isFl (Sp.rws q) x y) && (Sp.isFl (Sp.rws q) px py && Sp.inR pt 0 9)) w), .int .i64 (Sp.onI (Sp.isBo Sp.brd q && (Sp.Die.good ⟨t, n, e, s, w, b⟩ && Sp.isFl (Sp.rws q) x y) && (Sp.isFl (Sp.rws q) px py && Sp.inR pt 0 9)) n), .int .i64 (Sp.onI (Sp.isBo Sp.brd q && (Sp.Die.good ⟨t, n, e, s, w, b⟩ && Sp.isFl (Sp.rws q) x y) && (Sp.isFl (Sp.rws q) px py && Sp.inR pt 0 9)) e), .int .i64 (Sp.onI (Sp.isBo Sp.brd q && (Sp.Die.good ⟨t, n, e, s, w, b⟩ && Sp.isFl (Sp.rws q) x y) && (Sp.isFl (Sp.rws q) px py && Sp.inR pt 0 9)) s), .int .i64 (Sp.onI (Sp.isBo Sp.brd q && (Sp.Die.good ⟨t, n, e, s, w, b⟩ && Sp.isFl (Sp.rws q) x y) && (Sp.isFl (Sp.rws q) px py && Sp.inR pt 0 9)) b), .int .i64 (Sp.onI (Sp.isBo Sp.brd q && (Sp.Die.good ⟨t, n, e, s, w, b⟩ && Sp.isFl (Sp.rws q) x y) && (Sp.isFl (Sp.rws q) px py && Sp.inR pt 0 9)) (Sp.tx q py)), .int .i64 (Sp.onI (Sp.isBo Sp.brd q && (Sp.Die.good ⟨t, n, e, s, w, b⟩ && Sp.isFl (Sp.rws q) x y) && (Sp.isFl (Sp.rws q) px py && Sp.inR pt 0 9)) px), .int .i64 (Sp.onI (Sp.isBo Sp.brd q && (Sp.Die.good ⟨t, n, e, s, w, b⟩ && Sp.isFl (Sp.rws q) x y) && (Sp.isFl (Sp.rws q) px py && Sp.inR pt 0 9)) pt)], .one (.bool (Sp.isBo Sp.brd q && (Sp.Die.good ⟨t, n, e, s, w, b⟩ && Sp.isFl (Sp.rws q) x y) && (Sp.isFl (Sp.rws q) px py && Sp.inR pt 0 9)))]))
  | _ => .fail
theorem impl_TurnPuzzle.ok : StubOk Tryd.prog C0 36 impl_TurnPuzzle.stub := by
  intro args res h
  unfold impl_TurnPuzzle.stub at h
  split at h
  · rename_i q x y t n e s w b px py pt
    obtain ⟨hs, h⟩ := gd_out h
    unfold LIM at hs
    cases h
    refine impl_TurnPuzzle.ev (n := 0) ?_
    unfold impl_TurnPuzzle.res
    rw [hs]
    cases hh : (Sp.isBo Sp.brd q && (Sp.Die.good ⟨t, n, e, s, w, b⟩ && Sp.isFl (Sp.rws q) x y) && (Sp.isFl (Sp.rws q) px py && Sp.inR pt 0 9)) with
    | false => rfl
    | true =>
      obtain ⟨h1, h2⟩ := (Bool.and_eq_true _ _ ▸ hh : _ ∧ _)
      obtain ⟨hb, _⟩ := (Bool.and_eq_true _ _ ▸ h1 : _ ∧ _)
      obtain ⟨g1, g2, g3, g4, g5, g6⟩ := Sp.gr_ok hb
      simp only [Bool.not_true, cond_false, cond_true, h1, hs, g5, g6, Option.bind_some]
      rfl
  · cases h
/-! laws_eqDie -/
noncomputable def laws_eqDie.cfg : Cfg := { C0 with keep := fun _ => none, nb := 0, M := tabM [], MM := tabB [] }
noncomputable def laws_eqDie.res (n : Nat) (a0_0 : Int) (a0_1 : Int) (a0_2 : Int) (a0_3 : Int) (a0_4 : Int) (a0_5 : Int) (a1_0 : Int) (a1_1 : Int) (a1_2 : Int) (a1_3 : Int) (a1_4 : Int) (a1_5 : Int) : Option (List Q) :=
  bif a0_0 != a1_0 then some [Q.one (D.bool false)] else bif a0_1 != a1_1 then some [Q.one (D.bool false)] else bif a0_2 != a1_2 then some [Q.one (D.bool false)] else bif a0_3 != a1_3 then some [Q.one (D.bool false)] else bif a0_4 != a1_4 then some [Q.one (D.bool false)] else bif a0_5 != a1_5 then some [Q.one (D.bool false)] else some [Q.one (D.bool true)]
theorem laws_eqDie.run (n : Nat) (a0_0 : Int) (a0_1 : Int) (a0_2 : Int) (a0_3 : Int) (a0_4 : Int) (a0_5 : Int) (a1_0 : Int) (a1_1 : Int) (a1_2 : Int) (a1_3 : Int) (a1_4 : Int) (a1_5 : Int) :
    run1 laws_eqDie.cfg [RK.one LK.bool] n Tryd.f99 [Q.agg [D.int IntKind.i64 a0_0, D.int IntKind.i64 a0_1, D.int IntKind.i64 a0_2, D.int IntKind.i64 a0_3, D.int IntKind.i64 a0_4, D.int IntKind.i64 a0_5], Q.agg [D.int IntKind.i64 a1_0, D.int IntKind.i64 a1_1, D.int IntKind.i64 a1_2, D.int IntKind.i64 a1_3, D.int IntKind.i64 a1_4, D.int IntKind.i64 a1_5]] = laws_eqDie.res n a0_0 a0_1 a0_2 a0_3 a0_4 a0_5 a1_0 a1_1 a1_2 a1_3 a1_4 a1_5 := by kernel_rfl
theorem laws_eqDie.ev {n : Nat} {a0_0 : Int} {a0_1 : Int} {a0_2 : Int} {a0_3 : Int} {a0_4 : Int} {a0_5 : Int} {a1_0 : Int} {a1_1 : Int} {a1_2 : Int} {a1_3 : Int} {a1_4 : Int} {a1_5 : Int} {r : List Q} (h : laws_eqDie.res n a0_0 a0_1 a0_2 a0_3 a0_4 a0_5 a1_0 a1_1 a1_2 a1_3 a1_4 a1_5 = some r) : Snd Tryd.prog C0 99 [.agg [.int .i64 a0_0, .int .i64 a0_1, .int .i64 a0_2, .int .i64 a0_3, .int .i64 a0_4, .int .i64 a0_5], .agg [.int .i64 a1_0, .int .i64 a1_1, .int .i64 a1_2, .int .i64 a1_3, .int .i64 a1_4, .int .i64 a1_5]] r :=
  snd_ev (C := laws_eqDie.cfg) cfg0 mix rfl rfl rfl rfl rfl .nil .nil rfl Tryd.func99 (by kernel_rfl) (by kernel_rfl) rfl ((laws_eqDie.run n a0_0 a0_1 a0_2 a0_3 a0_4 a0_5 a1_0 a1_1 a1_2 a1_3 a1_4 a1_5).trans h)

def laws_eqDie.stub : Stub
  | [.agg [.int .i64 t, .int .i64 n, .int .i64 e, .int .i64 s, .int .i64 w, .int .i64 b], .agg [.int .i64 t', .int .i64 n', .int .i64 e', .int .i64 s', .int .i64 w', .int .i64 b']] => .gd (decide (t = t' ∧ n = n' ∧ e = e' ∧ s = s' ∧ w = w' ∧ b = b')) (.ret [.one (.bool true)])
  | _ => .fail
theorem laws_eqDie.ok : StubOk Tryd.prog C0 99 laws_eqDie.stub := by
  intro args res h
  unfold laws_eqDie.stub at h
  split at h
  · obtain ⟨h1, h0⟩ := gd_out h
    cases h0
    have h1 := of_decide_eq_true h1
    obtain ⟨rfl, rfl, rfl, rfl, rfl, rfl⟩ := h1
    refine laws_eqDie.ev (n := 0) ?_
    unfold laws_eqDie.res
    simp only [bne_self_eq_false, strEq_refl, Bool.not_true, cond_false, cond_true, and_self, decide_true]
  · cases h
/-! laws_eqState -/
noncomputable def laws_eqState.cfg : Cfg := { C0 with keep := fun _ => none, nb := 0, M := tabM [(99, laws_eqDie.stub)], MM := tabB [] }
noncomputable def laws_eqState.res (n : Nat) (a0_0 : Int) (a0_1 : Int) (a0_2 : Int) (a0_3 : Int) (a0_4 : Int) (a0_5 : Int) (a0_6 : Int) (a0_7 : Int) (a1_0 : Int) (a1_1 : Int) (a1_2 : Int) (a1_3 : Int) (a1_4 : Int) (a1_5 : Int) (a1_6 : Int) (a1_7 : Int) : Option (List Q) :=
  bif a0_0 != a1_0 then some [Q.one (D.bool false)] else bif a0_1 != a1_1 then some [Q.one (D.bool false)] else bif decide (a0_2 = a1_2 ∧ a0_3 = a1_3 ∧ a0_4 = a1_4 ∧ a0_5 = a1_5 ∧ a0_6 = a1_6 ∧ a0_7 = a1_7) then some [Q.one (D.bool true)] else none
theorem laws_eqState.run (n : Nat) (a0_0 : Int) (a0_1 : Int) (a0_2 : Int) (a0_3 : Int) (a0_4 : Int) (a0_5 : Int) (a0_6 : Int) (a0_7 : Int) (a1_0 : Int) (a1_1 : Int) (a1_2 : Int) (a1_3 : Int) (a1_4 : Int) (a1_5 : Int) (a1_6 : Int) (a1_7 : Int) :
    run1 laws_eqState.cfg [RK.one LK.bool] n Tryd.f74 [Q.agg [D.int IntKind.i64 a0_0, D.int IntKind.i64 a0_1, D.int IntKind.i64 a0_2, D.int IntKind.i64 a0_3, D.int IntKind.i64 a0_4, D.int IntKind.i64 a0_5, D.int IntKind.i64 a0_6, D.int IntKind.i64 a0_7], Q.agg [D.int IntKind.i64 a1_0, D.int IntKind.i64 a1_1, D.int IntKind.i64 a1_2, D.int IntKind.i64 a1_3, D.int IntKind.i64 a1_4, D.int IntKind.i64 a1_5, D.int IntKind.i64 a1_6, D.int IntKind.i64 a1_7]] = laws_eqState.res n a0_0 a0_1 a0_2 a0_3 a0_4 a0_5 a0_6 a0_7 a1_0 a1_1 a1_2 a1_3 a1_4 a1_5 a1_6 a1_7 := by kernel_rfl
theorem laws_eqState.ev {n : Nat} {a0_0 : Int} {a0_1 : Int} {a0_2 : Int} {a0_3 : Int} {a0_4 : Int} {a0_5 : Int} {a0_6 : Int} {a0_7 : Int} {a1_0 : Int} {a1_1 : Int} {a1_2 : Int} {a1_3 : Int} {a1_4 : Int} {a1_5 : Int} {a1_6 : Int} {a1_7 : Int} {r : List Q} (h : laws_eqState.res n a0_0 a0_1 a0_2 a0_3 a0_4 a0_5 a0_6 a0_7 a1_0 a1_1 a1_2 a1_3 a1_4 a1_5 a1_6 a1_7 = some r) : Snd Tryd.prog C0 74 [.agg [.int .i64 a0_0, .int .i64 a0_1, .int .i64 a0_2, .int .i64 a0_3, .int .i64 a0_4, .int .i64 a0_5, .int .i64 a0_6, .int .i64 a0_7], .agg [.int .i64 a1_0, .int .i64 a1_1, .int .i64 a1_2, .int .i64 a1_3, .int .i64 a1_4, .int .i64 a1_5, .int .i64 a1_6, .int .i64 a1_7]] r :=
  snd_ev (C := laws_eqState.cfg) cfg0 mix rfl rfl rfl rfl rfl (.cons laws_eqDie.ok .nil) .nil rfl Tryd.func74 (by kernel_rfl) (by kernel_rfl) rfl ((laws_eqState.run n a0_0 a0_1 a0_2 a0_3 a0_4 a0_5 a0_6 a0_7 a1_0 a1_1 a1_2 a1_3 a1_4 a1_5 a1_6 a1_7).trans h)

def laws_eqState.stub : Stub
  | [.agg [.int .i64 x, .int .i64 y, .int .i64 t, .int .i64 n, .int .i64 e, .int .i64 s, .int .i64 w, .int .i64 b], .agg [.int .i64 x', .int .i64 y', .int .i64 t', .int .i64 n', .int .i64 e', .int .i64 s', .int .i64 w', .int .i64 b']] => .gd (decide (x = x' ∧ y = y' ∧ t = t' ∧ n = n' ∧ e = e' ∧ s = s' ∧ w = w' ∧ b = b')) (.ret [.one (.bool true)])
  | _ => .fail
theorem laws_eqState.ok : StubOk Tryd.prog C0 74 laws_eqState.stub := by
  intro args res h
  unfold laws_eqState.stub at h
  split at h
  · obtain ⟨h1, h0⟩ := gd_out h
    cases h0
    have h1 := of_decide_eq_true h1
    obtain ⟨rfl, rfl, rfl, rfl, rfl, rfl, rfl, rfl⟩ := h1
    refine laws_eqState.ev (n := 0) ?_
    unfold laws_eqState.res
    simp only [bne_self_eq_false, strEq_refl, Bool.not_true, cond_false, cond_true, and_self, decide_true]
  · cases h
/-! laws_eqPuzzle -/
noncomputable def laws_eqPuzzle.cfg : Cfg := { C0 with keep := fun _ => none, nb := 0, M := tabM [(74, laws_eqState.stub)], MM := tabB [] }
noncomputable def laws_eqPuzzle.res (n : Nat) (a0_0 : ByteArray) (a0_1 : Int) (a0_2 : Int) (a0_3 : Int) (a0_4 : Int) (a0_5 : Int) (a0_6 : Int) (a0_7 : Int) (a0_8 : Int) (a0_9 : Int) (a0_10 : Int) (a0_11 : Int) (a1_0 : ByteArray) (a1_1 : Int) (a1_2 : Int) (a1_3 : Int) (a1_4 : Int) (a1_5 : Int) (a1_6 : Int) (a1_7 : Int) (a1_8 : Int) (a1_9 : Int) (a1_10 : Int) (a1_11 : Int) : Option (List Q) :=
  bif !strEq a0_0 a1_0 then some [Q.one (D.bool false)] else bif decide (a0_1 = a1_1 ∧ a0_2 = a1_2 ∧ a0_3 = a1_3 ∧ a0_4 = a1_4 ∧ a0_5 = a1_5 ∧ a0_6 = a1_6 ∧ a0_7 = a1_7 ∧ a0_8 = a1_8) then bif a0_9 != a1_9 then some [Q.one (D.bool false)] else bif a0_10 != a1_10 then some [Q.one (D.bool false)] else bif a0_11 != a1_11 then some [Q.one (D.bool false)] else some [Q.one (D.bool true)] else none
theorem laws_eqPuzzle.run (n : Nat) (a0_0 : ByteArray) (a0_1 : Int) (a0_2 : Int) (a0_3 : Int) (a0_4 : Int) (a0_5 : Int) (a0_6 : Int) (a0_7 : Int) (a0_8 : Int) (a0_9 : Int) (a0_10 : Int) (a0_11 : Int) (a1_0 : ByteArray) (a1_1 : Int) (a1_2 : Int) (a1_3 : Int) (a1_4 : Int) (a1_5 : Int) (a1_6 : Int) (a1_7 : Int) (a1_8 : Int) (a1_9 : Int) (a1_10 : Int) (a1_11 : Int) :
    run1 laws_eqPuzzle.cfg [RK.one LK.bool] n Tryd.f37 [Q.agg [D.str a0_0, D.int IntKind.i64 a0_1, D.int IntKind.i64 a0_2, D.int IntKind.i64 a0_3, D.int IntKind.i64 a0_4, D.int IntKind.i64 a0_5, D.int IntKind.i64 a0_6, D.int IntKind.i64 a0_7, D.int IntKind.i64 a0_8, D.int IntKind.i64 a0_9, D.int IntKind.i64 a0_10, D.int IntKind.i64 a0_11], Q.agg [D.str a1_0, D.int IntKind.i64 a1_1, D.int IntKind.i64 a1_2, D.int IntKind.i64 a1_3, D.int IntKind.i64 a1_4, D.int IntKind.i64 a1_5, D.int IntKind.i64 a1_6, D.int IntKind.i64 a1_7, D.int IntKind.i64 a1_8, D.int IntKind.i64 a1_9, D.int IntKind.i64 a1_10, D.int IntKind.i64 a1_11]] = laws_eqPuzzle.res n a0_0 a0_1 a0_2 a0_3 a0_4 a0_5 a0_6 a0_7 a0_8 a0_9 a0_10 a0_11 a1_0 a1_1 a1_2 a1_3 a1_4 a1_5 a1_6 a1_7 a1_8 a1_9 a1_10 a1_11 := by kernel_rfl
theorem laws_eqPuzzle.ev {n : Nat} {a0_0 : ByteArray} {a0_1 : Int} {a0_2 : Int} {a0_3 : Int} {a0_4 : Int} {a0_5 : Int} {a0_6 : Int} {a0_7 : Int} {a0_8 : Int} {a0_9 : Int} {a0_10 : Int} {a0_11 : Int} {a1_0 : ByteArray} {a1_1 : Int} {a1_2 : Int} {a1_3 : Int} {a1_4 : Int} {a1_5 : Int} {a1_6 : Int} {a1_7 : Int} {a1_8 : Int} {a1_9 : Int} {a1_10 : Int} {a1_11 : Int} {r : List Q} (h : laws_eqPuzzle.res n a0_0 a0_1 a0_2 a0_3 a0_4 a0_5 a0_6 a0_7 a0_8 a0_9 a0_10 a0_11 a1_0 a1_1 a1_2 a1_3 a1_4 a1_5 a1_6 a1_7 a1_8 a1_9 a1_10 a1_11 = some r) : Snd Tryd.prog C0 37 [.agg [.str a0_0, .int .i64 a0_1, .int .i64 a0_2, .int .i64 a0_3, .int .i64 a0_4, .int .i64 a0_5, .int .i64 a0_6, .int .i64 a0_7, .int .i64 a0_8, .int .i64 a0_9, .int .i64 a0_10, .int .i64 a0_11], .agg [.str a1_0, .int .i64 a1_1, .int .i64 a1_2, .int .i64 a1_3, .int .i64 a1_4, .int .i64 a1_5, .int .i64 a1_6, .int .i64 a1_7, .int .i64 a1_8, .int .i64 a1_9, .int .i64 a1_10, .int .i64 a1_11]] r :=
  snd_ev (C := laws_eqPuzzle.cfg) cfg0 mix rfl rfl rfl rfl rfl (.cons laws_eqState.ok .nil) .nil rfl Tryd.func37 (by kernel_rfl) (by kernel_rfl) rfl ((laws_eqPuzzle.run n a0_0 a0_1 a0_2 a0_3 a0_4 a0_5 a0_6 a0_7 a0_8 a0_9 a0_10 a0_11 a1_0 a1_1 a1_2 a1_3 a1_4 a1_5 a1_6 a1_7 a1_8 a1_9 a1_10 a1_11).trans h)

def laws_eqPuzzle.stub : Stub
  | [.agg [.str q, .int .i64 x, .int .i64 y, .int .i64 t, .int .i64 n, .int .i64 e, .int .i64 s, .int .i64 w, .int .i64 b, .int .i64 px, .int .i64 py, .int .i64 pt], .agg [.str q', .int .i64 x', .int .i64 y', .int .i64 t', .int .i64 n', .int .i64 e', .int .i64 s', .int .i64 w', .int .i64 b', .int .i64 px', .int .i64 py', .int .i64 pt']] => .gd (decide (q = q' ∧ x = x' ∧ y = y' ∧ t = t' ∧ n = n' ∧ e = e' ∧ s = s' ∧ w = w' ∧ b = b' ∧ px = px' ∧ py = py' ∧ pt = pt')) (.ret [.one (.bool true)])
  | _ => .fail
theorem laws_eqPuzzle.ok : StubOk Tryd.prog C0 37 laws_eqPuzzle.stub := by
  intro args res h
  unfold laws_eqPuzzle.stub at h
  split at h
  · obtain ⟨h1, h0⟩ := gd_out h
    cases h0
    have h1 := of_decide_eq_true h1
    obtain ⟨rfl, rfl, rfl, rfl, rfl, rfl, rfl, rfl, rfl, rfl, rfl, rfl⟩ := h1
    refine laws_eqPuzzle.ev (n := 0) ?_
    unfold laws_eqPuzzle.res
    simp only [bne_self_eq_false, strEq_refl, Bool.not_true, cond_false, cond_true, and_self, decide_true]
  · cases h
/-! laws_FnExactTurnPuzzle -/
noncomputable def laws_FnExactTurnPuzzle.cfg : Cfg := { C0 with keep := fun _ => none, nb := 0, M := tabM [(19, laws_szPuzzle.stub), (21, laws_toPuzzle.stub), (35, spec_TurnPuzzle.stub), (36, impl_TurnPuzzle.stub), (37, laws_eqPuzzle.stub)], MM := tabB [] }
noncomputable def laws_FnExactTurnPuzzle.res (n : Nat) (a0_0 : ByteArray) (a0_1 : Int) (a0_2 : Int) (a0_3 : Int) (a0_4 : Int) (a0_5 : Int) (a0_6 : Int) (a0_7 : Int) (a0_8 : Int) (a0_9 : Int) (a0_10 : Int) (a0_11 : Int) : Option (List Q) :=
  bif decide (ByteArray.size a0_0 ≤ (9223372036854775807 : Nat)) then bif decide ((bif decide (ByteArray.size a0_0 ≤ (1048576 : Nat)) then (1048576 : Int) - (↑(ByteArray.size a0_0) : Int) else (-1 : Int)) < (0 : Int)) then some [Q.one (D.bool true)] else bif decide (ByteArray.size a0_0 < (17179869184 : Nat)) then bif decide (onS (isBo brd a0_0 && (Die.good (Die.mk a0_3 a0_4 a0_5 a0_6 a0_7 a0_8) && isFl (rws a0_0) a0_1 a0_2) && (isFl (rws a0_0) a0_9 a0_10 && inR a0_11 (0 : Int) (9 : Int))) (turnT brd a0_0) = onS (isBo brd a0_0 && (Die.good (Die.mk a0_3 a0_4 a0_5 a0_6 a0_7 a0_8) && isFl (rws a0_0) a0_1 a0_2) && (isFl (rws a0_0) a0_9 a0_10 && inR a0_11 (0 : Int) (9 : Int))) (turnT brd a0_0) ∧ onI (isBo brd a0_0 && (Die.good (Die.mk a0_3 a0_4 a0_5 a0_6 a0_7 a0_8) && isFl (rws a0_0) a0_1 a0_2) && (isFl (rws a0_0) a0_9 a0_10 && inR a0_11 (0 : Int) (9 : Int))) (tx a0_0 a0_2) = onI (isBo brd a0_0 && (Die.good (Die.mk a0_3 a0_4 a0_5 a0_6 a0_7 a0_8) && isFl (rws a0_0) a0_1 a0_2) && (isFl (rws a0_0) a0_9 a0_10 && inR a0_11 (0 : Int) (9 : Int))) (tx a0_0 a0_2) ∧ onI (isBo brd a0_0 && (Die.good (Die.mk a0_3 a0_4 a0_5 a0_6 a0_7 a0_8) && isFl (rws a0_0) a0_1 a0_2) && (isFl (rws a0_0) a0_9 a0_10 && inR a0_11 (0 : Int) (9 : Int))) a0_1 = onI (isBo brd a0_0 && (Die.good (Die.mk a0_3 a0_4 a0_5 a0_6 a0_7 a0_8) && isFl (rws a0_0) a0_1 a0_2) && (isFl (rws a0_0) a0_9 a0_10 && inR a0_11 (0 : Int) (9 : Int))) a0_1 ∧ onI (isBo brd a0_0 && (Die.good (Die.mk a0_3 a0_4 a0_5 a0_6 a0_7 a0_8) && isFl (rws a0_0) a0_1 a0_2) && (isFl (rws a0_0) a0_9 a0_10 && inR a0_11 (0 : Int) (9 : Int))) a0_3 = onI (isBo brd a0_0 && (Die.good (Die.mk a0_3 a0_4 a0_5 a0_6 a0_7 a0_8) && isFl (rws a0_0) a0_1 a0_2) && (isFl (rws a0_0) a0_9 a0_10 && inR a0_11 (0 : Int) (9 : Int))) a0_3 ∧ onI (isBo brd a0_0 && (Die.good (Die.mk a0_3 a0_4 a0_5 a0_6 a0_7 a0_8) && isFl (rws a0_0) a0_1 a0_2) && (isFl (rws a0_0) a0_9 a0_10 && inR a0_11 (0 : Int) (9 : Int))) a0_7 = onI (isBo brd a0_0 && (Die.good (Die.mk a0_3 a0_4 a0_5 a0_6 a0_7 a0_8) && isFl (rws a0_0) a0_1 a0_2) && (isFl (rws a0_0) a0_9 a0_10 && inR a0_11 (0 : Int) (9 : Int))) a0_7 ∧ onI (isBo brd a0_0 && (Die.good (Die.mk a0_3 a0_4 a0_5 a0_6 a0_7 a0_8) && isFl (rws a0_0) a0_1 a0_2) && (isFl (rws a0_0) a0_9 a0_10 && inR a0_11 (0 : Int) (9 : Int))) a0_4 = onI (isBo brd a0_0 && (Die.good (Die.mk a0_3 a0_4 a0_5 a0_6 a0_7 a0_8) && isFl (rws a0_0) a0_1 a0_2) && (isFl (rws a0_0) a0_9 a0_10 && inR a0_11 (0 : Int) (9 : Int))) a0_4 ∧ onI (isBo brd a0_0 && (Die.good (Die.mk a0_3 a0_4 a0_5 a0_6 a0_7 a0_8) && isFl (rws a0_0) a0_1 a0_2) && (isFl (rws a0_0) a0_9 a0_10 && inR a0_11 (0 : Int) (9 : Int))) a0_5 = onI (isBo brd a0_0 && (Die.good (Die.mk a0_3 a0_4 a0_5 a0_6 a0_7 a0_8) && isFl (rws a0_0) a0_1 a0_2) && (isFl (rws a0_0) a0_9 a0_10 && inR a0_11 (0 : Int) (9 : Int))) a0_5 ∧ onI (isBo brd a0_0 && (Die.good (Die.mk a0_3 a0_4 a0_5 a0_6 a0_7 a0_8) && isFl (rws a0_0) a0_1 a0_2) && (isFl (rws a0_0) a0_9 a0_10 && inR a0_11 (0 : Int) (9 : Int))) a0_6 = onI (isBo brd a0_0 && (Die.good (Die.mk a0_3 a0_4 a0_5 a0_6 a0_7 a0_8) && isFl (rws a0_0) a0_1 a0_2) && (isFl (rws a0_0) a0_9 a0_10 && inR a0_11 (0 : Int) (9 : Int))) a0_6 ∧ onI (isBo brd a0_0 && (Die.good (Die.mk a0_3 a0_4 a0_5 a0_6 a0_7 a0_8) && isFl (rws a0_0) a0_1 a0_2) && (isFl (rws a0_0) a0_9 a0_10 && inR a0_11 (0 : Int) (9 : Int))) a0_8 = onI (isBo brd a0_0 && (Die.good (Die.mk a0_3 a0_4 a0_5 a0_6 a0_7 a0_8) && isFl (rws a0_0) a0_1 a0_2) && (isFl (rws a0_0) a0_9 a0_10 && inR a0_11 (0 : Int) (9 : Int))) a0_8 ∧ onI (isBo brd a0_0 && (Die.good (Die.mk a0_3 a0_4 a0_5 a0_6 a0_7 a0_8) && isFl (rws a0_0) a0_1 a0_2) && (isFl (rws a0_0) a0_9 a0_10 && inR a0_11 (0 : Int) (9 : Int))) (tx a0_0 a0_10) = onI (isBo brd a0_0 && (Die.good (Die.mk a0_3 a0_4 a0_5 a0_6 a0_7 a0_8) && isFl (rws a0_0) a0_1 a0_2) && (isFl (rws a0_0) a0_9 a0_10 && inR a0_11 (0 : Int) (9 : Int))) (tx a0_0 a0_10) ∧ onI (isBo brd a0_0 && (Die.good (Die.mk a0_3 a0_4 a0_5 a0_6 a0_7 a0_8) && isFl (rws a0_0) a0_1 a0_2) && (isFl (rws a0_0) a0_9 a0_10 && inR a0_11 (0 : Int) (9 : Int))) a0_9 = onI (isBo brd a0_0 && (Die.good (Die.mk a0_3 a0_4 a0_5 a0_6 a0_7 a0_8) && isFl (rws a0_0) a0_1 a0_2) && (isFl (rws a0_0) a0_9 a0_10 && inR a0_11 (0 : Int) (9 : Int))) a0_9 ∧ onI (isBo brd a0_0 && (Die.good (Die.mk a0_3 a0_4 a0_5 a0_6 a0_7 a0_8) && isFl (rws a0_0) a0_1 a0_2) && (isFl (rws a0_0) a0_9 a0_10 && inR a0_11 (0 : Int) (9 : Int))) a0_11 = onI (isBo brd a0_0 && (Die.good (Die.mk a0_3 a0_4 a0_5 a0_6 a0_7 a0_8) && isFl (rws a0_0) a0_1 a0_2) && (isFl (rws a0_0) a0_9 a0_10 && inR a0_11 (0 : Int) (9 : Int))) a0_11) then bif !(isBo brd a0_0 && (Die.good (Die.mk a0_3 a0_4 a0_5 a0_6 a0_7 a0_8) && isFl (rws a0_0) a0_1 a0_2) && (isFl (rws a0_0) a0_9 a0_10 && inR a0_11 (0 : Int) (9 : Int))) == (isBo brd a0_0 && (Die.good (Die.mk a0_3 a0_4 a0_5 a0_6 a0_7 a0_8) && isFl (rws a0_0) a0_1 a0_2) && (isFl (rws a0_0) a0_9 a0_10 && inR a0_11 (0 : Int) (9 : Int))) then some [Q.one (D.bool false)] else some [Q.one (D.bool true)] else none else none else none
theorem laws_FnExactTurnPuzzle.run (n : Nat) (a0_0 : ByteArray) (a0_1 : Int) (a0_2 : Int) (a0_3 : Int) (a0_4 : Int) (a0_5 : Int) (a0_6 : Int) (a0_7 : Int) (a0_8 : Int) (a0_9 : Int) (a0_10 : Int) (a0_11 : Int) :
    run1 laws_FnExactTurnPuzzle.cfg [RK.one LK.bool] n Tryd.f11 [Q.agg [D.str a0_0, D.int IntKind.i64 a0_1, D.int IntKind.i64 a0_2, D.int IntKind.i64 a0_3, D.int IntKind.i64 a0_4, D.int IntKind.i64 a0_5, D.int IntKind.i64 a0_6, D.int IntKind.i64 a0_7, D.int IntKind.i64 a0_8, D.int IntKind.i64 a0_9, D.int IntKind.i64 a0_10, D.int IntKind.i64 a0_11]] = laws_FnExactTurnPuzzle.res n a0_0 a0_1 a0_2 a0_3 a0_4 a0_5 a0_6 a0_7 a0_8 a0_9 a0_10 a0_11 := by kernel_rfl
theorem laws_FnExactTurnPuzzle.ev {n : Nat} {a0_0 : ByteArray} {a0_1 : Int} {a0_2 : Int} {a0_3 : Int} {a0_4 : Int} {a0_5 : Int} {a0_6 : Int} {a0_7 : Int} {a0_8 : Int} {a0_9 : Int} {a0_10 : Int} {a0_11 : Int} {r : List Q} (h : laws_FnExactTurnPuzzle.res n a0_0 a0_1 a0_2 a0_3 a0_4 a0_5 a0_6 a0_7 a0_8 a0_9 a0_10 a0_11 = some r) : Snd Tryd.prog C0 11 [.agg [.str a0_0, .int .i64 a0_1, .int .i64 a0_2, .int .i64 a0_3, .int .i64 a0_4, .int .i64 a0_5, .int .i64 a0_6, .int .i64 a0_7, .int .i64 a0_8, .int .i64 a0_9, .int .i64 a0_10, .int .i64 a0_11]] r :=
  snd_ev (C := laws_FnExactTurnPuzzle.cfg) cfg0 mix rfl rfl rfl rfl rfl (.cons laws_szPuzzle.ok (.cons laws_toPuzzle.ok (.cons spec_TurnPuzzle.ok (.cons impl_TurnPuzzle.ok (.cons laws_eqPuzzle.ok .nil))))) .nil rfl Tryd.func11 (by kernel_rfl) (by kernel_rfl) rfl ((laws_FnExactTurnPuzzle.run n a0_0 a0_1 a0_2 a0_3 a0_4 a0_5 a0_6 a0_7 a0_8 a0_9 a0_10 a0_11).trans h)

theorem laws_FnExactTurnPuzzle.law (q : ByteArray) (hq : q.size ≤ 9223372036854775807) (x y t n e s w b px py pt : Int) : Snd Tryd.prog C0 11 [.agg [.str q, .int .i64 x, .int .i64 y, .int .i64 t, .int .i64 n, .int .i64 e, .int .i64 s, .int .i64 w, .int .i64 b, .int .i64 px, .int .i64 py, .int .i64 pt]] [.one (.bool true)] := by
  refine laws_FnExactTurnPuzzle.ev (n := 0) ?_
  unfold laws_FnExactTurnPuzzle.res
  simp only [hq, decide_true, cond_true, szNeg]
  by_cases hs : q.size ≤ 1048576
  · have h1 : q.size < 17179869184 := by omega
    simp only [hs, h1, decide_true, cond_true, Bool.not_true, cond_false, beq_self_eq_true, bne_self_eq_false, and_self]
  · simp only [hs, decide_false, Bool.not_false, cond_true]
end Go.Proofs.EV.PL
set_option linter.unusedVariables false
set_option linter.unusedSimpArgs false
/-! States along a word. -/
namespace Go.Proofs.EV.PL
open Go Go.Proofs Go.Proofs.EV Sp
/-! spec_diRoll -/
noncomputable def spec_diRoll.cfg : Cfg := { C0 with keep := fun _ => none, nb := 0, M := tabM [], MM := tabB [] }
noncomputable def spec_diRoll.res (n : Nat) (a0_0 : Int) (a0_1 : Int) (a0_2 : Int) (a0_3 : Int) (a0_4 : Int) (a0_5 : Int) (a1 : Int) : Option (List Q) :=
  bif a1 == (0 : Int) then some [Q.agg [D.int IntKind.i64 a0_3, D.int IntKind.i64 a0_0, D.int IntKind.i64 a0_2, D.int IntKind.i64 a0_5, D.int IntKind.i64 a0_4, D.int IntKind.i64 a0_1]] else bif a1 == (1 : Int) then some [Q.agg [D.int IntKind.i64 a0_4, D.int IntKind.i64 a0_1, D.int IntKind.i64 a0_0, D.int IntKind.i64 a0_3, D.int IntKind.i64 a0_5, D.int IntKind.i64 a0_2]] else bif a1 == (2 : Int) then some [Q.agg [D.int IntKind.i64 a0_1, D.int IntKind.i64 a0_5, D.int IntKind.i64 a0_2, D.int IntKind.i64 a0_0, D.int IntKind.i64 a0_4, D.int IntKind.i64 a0_3]] else some [Q.agg [D.int IntKind.i64 a0_2, D.int IntKind.i64 a0_1, D.int IntKind.i64 a0_5, D.int IntKind.i64 a0_3, D.int IntKind.i64 a0_0, D.int IntKind.i64 a0_4]]
theorem spec_diRoll.run (n : Nat) (a0_0 : Int) (a0_1 : Int) (a0_2 : Int) (a0_3 : Int) (a0_4 : Int) (a0_5 : Int) (a1 : Int) :
    run1 spec_diRoll.cfg [RK.agg [LK.int IntKind.i64, LK.int IntKind.i64, LK.int IntKind.i64, LK.int IntKind.i64, LK.int IntKind.i64, LK.int IntKind.i64]] n Tryd.f132 [Q.agg [D.int IntKind.i64 a0_0, D.int IntKind.i64 a0_1, D.int IntKind.i64 a0_2, D.int IntKind.i64 a0_3, D.int IntKind.i64 a0_4, D.int IntKind.i64 a0_5], Q.one (D.int IntKind.i64 a1)] = spec_diRoll.res n a0_0 a0_1 a0_2 a0_3 a0_4 a0_5 a1 := by kernel_rfl
theorem spec_diRoll.ev {n : Nat} {a0_0 : Int} {a0_1 : Int} {a0_2 : Int} {a0_3 : Int} {a0_4 : Int} {a0_5 : Int} {a1 : Int} {r : List Q} (h : spec_diRoll.res n a0_0 a0_1 a0_2 a0_3 a0_4 a0_5 a1 = some r) : Snd Tryd.prog C0 132 [.agg [.int .i64 a0_0, .int .i64 a0_1, .int .i64 a0_2, .int .i64 a0_3, .int .i64 a0_4, .int .i64 a0_5], .one (.int .i64 a1)] r :=
  snd_ev (C := spec_diRoll.cfg) cfg0 mix rfl rfl rfl rfl rfl .nil .nil rfl Tryd.func132 (by kernel_rfl) (by kernel_rfl) rfl ((spec_diRoll.run n a0_0 a0_1 a0_2 a0_3 a0_4 a0_5 a1).trans h)

def spec_diRoll.stub : Stub
  | [.agg [.int .i64 t, .int .i64 n, .int .i64 e, .int .i64 s, .int .i64 w, .int .i64 b], .one (.int .i64 k)] => .ret [.agg (dieC.enc (Sp.roll ⟨t, n, e, s, w, b⟩ k))]
  | _ => .fail
theorem spec_diRoll.ok : StubOk Tryd.prog C0 132 spec_diRoll.stub := by
  intro args res h
  unfold spec_diRoll.stub at h
  split at h
  · rename_i k
    cases h
    refine spec_diRoll.ev (n := 0) ?_
    unfold spec_diRoll.res Sp.roll
    simp only [ieq]
    cases decide (k = 0) <;> cases decide (k = 1) <;> cases decide (k = 2) <;> rfl
  · cases h
/-! impl_Die_roll -/
noncomputable def impl_Die_roll.cfg : Cfg := { C0 with keep := fun _ => none, nb := 0, M := tabM [], MM := tabB [] }
noncomputable def impl_Die_roll.res (n : Nat) (a0_0 : Int) (a0_1 : Int) (a0_2 : Int) (a0_3 : Int) (a0_4 : Int) (a0_5 : Int) (a1 : Int) : Option (List Q) :=
  bif a1 == (110 : Int) then some [Q.agg [D.int IntKind.i64 a0_3, D.int IntKind.i64 a0_0, D.int IntKind.i64 a0_2, D.int IntKind.i64 a0_5, D.int IntKind.i64 a0_4, D.int IntKind.i64 a0_1]] else bif a1 == (101 : Int) then some [Q.agg [D.int IntKind.i64 a0_4, D.int IntKind.i64 a0_1, D.int IntKind.i64 a0_0, D.int IntKind.i64 a0_3, D.int IntKind.i64 a0_5, D.int IntKind.i64 a0_2]] else bif a1 == (115 : Int) then some [Q.agg [D.int IntKind.i64 a0_1, D.int IntKind.i64 a0_5, D.int IntKind.i64 a0_2, D.int IntKind.i64 a0_0, D.int IntKind.i64 a0_4, D.int IntKind.i64 a0_3]] else some [Q.agg [D.int IntKind.i64 a0_2, D.int IntKind.i64 a0_1, D.int IntKind.i64 a0_5, D.int IntKind.i64 a0_3, D.int IntKind.i64 a0_0, D.int IntKind.i64 a0_4]]
theorem impl_Die_roll.run (n : Nat) (a0_0 : Int) (a0_1 : Int) (a0_2 : Int) (a0_3 : Int) (a0_4 : Int) (a0_5 : Int) (a1 : Int) :
    run1 impl_Die_roll.cfg [RK.agg [LK.int IntKind.i64, LK.int IntKind.i64, LK.int IntKind.i64, LK.int IntKind.i64, LK.int IntKind.i64, LK.int IntKind.i64]] n Tryd.f138 [Q.agg [D.int IntKind.i64 a0_0, D.int IntKind.i64 a0_1, D.int IntKind.i64 a0_2, D.int IntKind.i64 a0_3, D.int IntKind.i64 a0_4, D.int IntKind.i64 a0_5], Q.one (D.int IntKind.u8 a1)] = impl_Die_roll.res n a0_0 a0_1 a0_2 a0_3 a0_4 a0_5 a1 := by kernel_rfl
theorem impl_Die_roll.ev {n : Nat} {a0_0 : Int} {a0_1 : Int} {a0_2 : Int} {a0_3 : Int} {a0_4 : Int} {a0_5 : Int} {a1 : Int} {r : List Q} (h : impl_Die_roll.res n a0_0 a0_1 a0_2 a0_3 a0_4 a0_5 a1 = some r) : Snd Tryd.prog C0 138 [.agg [.int .i64 a0_0, .int .i64 a0_1, .int .i64 a0_2, .int .i64 a0_3, .int .i64 a0_4, .int .i64 a0_5], .one (.int .u8 a1)] r :=
  snd_ev (C := impl_Die_roll.cfg) cfg0 mix rfl rfl rfl rfl rfl .nil .nil rfl Tryd.func138 (by kernel_rfl) (by kernel_rfl) rfl ((impl_Die_roll.run n a0_0 a0_1 a0_2 a0_3 a0_4 a0_5 a1).trans h)

def impl_Die_roll.stub : Stub
  | [.agg [.int .i64 t, .int .i64 n, .int .i64 e, .int .i64 s, .int .i64 w, .int .i64 b], .one (.int .u8 k)] => .ret [.agg (dieC.enc (Sp.rollB ⟨t, n, e, s, w, b⟩ k))]
  | _ => .fail
theorem impl_Die_roll.ok : StubOk Tryd.prog C0 138 impl_Die_roll.stub := by
  intro args res h
  unfold impl_Die_roll.stub at h
  split at h
  · rename_i k
    cases h
    refine impl_Die_roll.ev (n := 0) ?_
    unfold impl_Die_roll.res Sp.rollB
    simp only [ieq]
    cases decide (k = 110) <;> cases decide (k = 101) <;> cases decide (k = 115) <;> rfl
  · cases h
theorem inR6 {x : Int} (h : inR x 0 6 = true) : 0 ≤ x ∧ x ≤ 6 := inR_out h
/-! spec_boNext -/
noncomputable def spec_boNext.cfg : Cfg := { C0 with keep := fun _ => none, nb := 0, M := tabM [], MM := tabB [] }
noncomputable def spec_boNext.res (n : Nat) (a0 : Int) (a1 : Int) (a2 : Int) : Option (List Q) :=
  bif a2 == (0 : Int) then some [Q.one (D.int IntKind.i64 a0), Q.one (D.int IntKind.i64 (IntKind.wrap IntKind.i64 (a1 - (1 : Int))))] else bif a2 == (1 : Int) then some [Q.one (D.int IntKind.i64 (IntKind.wrap IntKind.i64 (a0 + (1 : Int)))), Q.one (D.int IntKind.i64 a1)] else bif a2 == (2 : Int) then some [Q.one (D.int IntKind.i64 a0), Q.one (D.int IntKind.i64 (IntKind.wrap IntKind.i64 (a1 + (1 : Int))))] else some [Q.one (D.int IntKind.i64 (IntKind.wrap IntKind.i64 (a0 - (1 : Int)))), Q.one (D.int IntKind.i64 a1)]
theorem spec_boNext.run (n : Nat) (a0 : Int) (a1 : Int) (a2 : Int) :
    run1 spec_boNext.cfg [RK.one (LK.int IntKind.i64), RK.one (LK.int IntKind.i64)] n Tryd.f131 [Q.one (D.int IntKind.i64 a0), Q.one (D.int IntKind.i64 a1), Q.one (D.int IntKind.i64 a2)] = spec_boNext.res n a0 a1 a2 := by kernel_rfl
theorem spec_boNext.ev {n : Nat} {a0 : Int} {a1 : Int} {a2 : Int} {r : List Q} (h : spec_boNext.res n a0 a1 a2 = some r) : Snd Tryd.prog C0 131 [.one (.int .i64 a0), .one (.int .i64 a1), .one (.int .i64 a2)] r :=
  snd_ev (C := spec_boNext.cfg) cfg0 mix rfl rfl rfl rfl rfl .nil .nil rfl Tryd.func131 (by kernel_rfl) (by kernel_rfl) rfl ((spec_boNext.run n a0 a1 a2).trans h)

def spec_boNext.stub : Stub
  | [.one (.int .i64 x), .one (.int .i64 y), .one (.int .i64 k)] => .gd (Sp.inR x 0 6) (.gd (Sp.inR y 0 6) (.ret [.one (.int .i64 (Sp.nxX x k)), .one (.int .i64 (Sp.nxY y k))]))
  | _ => .fail
theorem spec_boNext.ok : StubOk Tryd.prog C0 131 spec_boNext.stub := by
  intro args res h
  unfold spec_boNext.stub at h
  split at h
  · rename_i x y k
    obtain ⟨h1, h⟩ := gd_out h
    obtain ⟨h2, h⟩ := gd_out h
    cases h
    obtain ⟨k1, k2⟩ := inR6 h1
    obtain ⟨k3, k4⟩ := inR6 h2
    refine spec_boNext.ev (n := 0) ?_
    unfold spec_boNext.res nxX nxY
    rw [wrap_in (x := y - 1) (by omega) (by omega), wrap_in (x := x + 1) (by omega) (by omega), wrap_in (x := y + 1) (by omega) (by omega), wrap_in (x := x - 1) (by omega) (by omega)]
    simp only [ieq]
    cases decide (k = 0) <;> cases decide (k = 1) <;> cases decide (k = 2) <;> rfl
  · cases h
/-! impl_next -/
noncomputable def impl_next.cfg : Cfg := { C0 with keep := fun _ => none, nb := 0, M := tabM [], MM := tabB [] }
noncomputable def impl_next.res (n : Nat) (a0 : Int) (a1 : Int) (a2 : Int) : Option (List Q) :=
  bif a2 == (110 : Int) then some [Q.one (D.int IntKind.i64 a0), Q.one (D.int IntKind.i64 (IntKind.wrap IntKind.i64 (a1 - (1 : Int))))] else bif a2 == (101 : Int) then some [Q.one (D.int IntKind.i64 (IntKind.wrap IntKind.i64 (a0 + (1 : Int)))), Q.one (D.int IntKind.i64 a1)] else bif a2 == (115 : Int) then some [Q.one (D.int IntKind.i64 a0), Q.one (D.int IntKind.i64 (IntKind.wrap IntKind.i64 (a1 + (1 : Int))))] else some [Q.one (D.int IntKind.i64 (IntKind.wrap IntKind.i64 (a0 - (1 : Int)))), Q.one (D.int IntKind.i64 a1)]
theorem impl_next.run (n : Nat) (a0 : Int) (a1 : Int) (a2 : Int) :
    run1 impl_next.cfg [RK.one (LK.int IntKind.i64), RK.one (LK.int IntKind.i64)] n Tryd.f137 [Q.one (D.int IntKind.i64 a0), Q.one (D.int IntKind.i64 a1), Q.one (D.int IntKind.u8 a2)] = impl_next.res n a0 a1 a2 := by kernel_rfl
theorem impl_next.ev {n : Nat} {a0 : Int} {a1 : Int} {a2 : Int} {r : List Q} (h : impl_next.res n a0 a1 a2 = some r) : Snd Tryd.prog C0 137 [.one (.int .i64 a0), .one (.int .i64 a1), .one (.int .u8 a2)] r :=
  snd_ev (C := impl_next.cfg) cfg0 mix rfl rfl rfl rfl rfl .nil .nil rfl Tryd.func137 (by kernel_rfl) (by kernel_rfl) rfl ((impl_next.run n a0 a1 a2).trans h)

def impl_next.stub : Stub
  | [.one (.int .i64 x), .one (.int .i64 y), .one (.int .u8 c)] => .gd (Sp.inR x 0 6) (.gd (Sp.inR y 0 6) (.ret [.one (.int .i64 (Sp.nxX x (Sp.dix c))), .one (.int .i64 (Sp.nxY y (Sp.dix c)))]))
  | _ => .fail
theorem impl_next.ok : StubOk Tryd.prog C0 137 impl_next.stub := by
  intro args res h
  unfold impl_next.stub at h
  split at h
  · rename_i x y c
    obtain ⟨h1, h⟩ := gd_out h
    obtain ⟨h2, h⟩ := gd_out h
    cases h
    obtain ⟨k1, k2⟩ := inR6 h1
    obtain ⟨k3, k4⟩ := inR6 h2
    refine impl_next.ev (n := 0) ?_
    unfold impl_next.res nxX nxY dix
    rw [wrap_in (x := y - 1) (by omega) (by omega), wrap_in (x := x + 1) (by omega) (by omega), wrap_in (x := y + 1) (by omega) (by omega), wrap_in (x := x - 1) (by omega) (by omega)]
    simp only [ieq]
    cases decide (c = 110) <;> cases decide (c = 101) <;> cases decide (c = 115) <;> rfl
  · cases h
/-! spec_boRoll -/
noncomputable def spec_boRoll.cfg : Cfg := { C0 with keep := fun _ => none, nb := 0, M := tabM [(131, spec_boNext.stub), (85, spec_boFloor.stub), (132, spec_diRoll.stub)], MM := tabB [] }
noncomputable def spec_boRoll.res (n : Nat) (a0_0 : Int) (a0_1 : Int) (a0_2 : List (List D)) (a1_0 : Int) (a1_1 : Int) (a1_2 : Int) (a1_3 : Int) (a1_4 : Int) (a1_5 : Int) (a1_6 : Int) (a1_7 : Int) (a2 : Int) : Option (List Q) :=
  bif inR a1_0 (0 : Int) (6 : Int) then bif inR a1_1 (0 : Int) (6 : Int) then Option.bind (Cod.decs u8C a0_2) fun (l1 : List UInt8) => bif inR a0_0 (0 : Int) (7 : Int) then bif inR a0_1 (0 : Int) (7 : Int) then bif decide (List.length l1 = Int.toNat a0_0 * Int.toNat a0_1) then bif !(inR (nxX a1_0 a2) (0 : Int) (a0_0 - (1 : Int)) && inR (nxY a1_1 a2) (0 : Int) (a0_1 - (1 : Int)) && isDot l1 (Int.toNat (nxY a1_1 a2) * Int.toNat a0_0 + Int.toNat (nxX a1_0 a2))) then some [Q.agg [D.int IntKind.i64 (0 : Int), D.int IntKind.i64 (0 : Int), D.int IntKind.i64 (0 : Int), D.int IntKind.i64 (0 : Int), D.int IntKind.i64 (0 : Int), D.int IntKind.i64 (0 : Int), D.int IntKind.i64 (0 : Int), D.int IntKind.i64 (0 : Int)], Q.one (D.bool false)] else some [Q.agg [D.int IntKind.i64 (nxX a1_0 a2), D.int IntKind.i64 (nxY a1_1 a2), D.int IntKind.i64 (Die.t (roll (Die.mk a1_2 a1_3 a1_4 a1_5 a1_6 a1_7) a2)), D.int IntKind.i64 (Die.n (roll (Die.mk a1_2 a1_3 a1_4 a1_5 a1_6 a1_7) a2)), D.int IntKind.i64 (Die.e (roll (Die.mk a1_2 a1_3 a1_4 a1_5 a1_6 a1_7) a2)), D.int IntKind.i64 (Die.s (roll (Die.mk a1_2 a1_3 a1_4 a1_5 a1_6 a1_7) a2)), D.int IntKind.i64 (Die.w (roll (Die.mk a1_2 a1_3 a1_4 a1_5 a1_6 a1_7) a2)), D.int IntKind.i64 (Die.b (roll (Die.mk a1_2 a1_3 a1_4 a1_5 a1_6 a1_7) a2))], Q.one (D.bool true)] else none else none else none else none else none
theorem spec_boRoll.run (n : Nat) (a0_0 : Int) (a0_1 : Int) (a0_2 : List (List D)) (a1_0 : Int) (a1_1 : Int) (a1_2 : Int) (a1_3 : Int) (a1_4 : Int) (a1_5 : Int) (a1_6 : Int) (a1_7 : Int) (a2 : Int) :
    run1 spec_boRoll.cfg [RK.agg [LK.int IntKind.i64, LK.int IntKind.i64, LK.int IntKind.i64, LK.int IntKind.i64, LK.int IntKind.i64, LK.int IntKind.i64, LK.int IntKind.i64, LK.int IntKind.i64], RK.one LK.bool] n Tryd.f115 [Q.agg [D.int IntKind.i64 a0_0, D.int IntKind.i64 a0_1, D.sl (1 : Nat) a0_2], Q.agg [D.int IntKind.i64 a1_0, D.int IntKind.i64 a1_1, D.int IntKind.i64 a1_2, D.int IntKind.i64 a1_3, D.int IntKind.i64 a1_4, D.int IntKind.i64 a1_5, D.int IntKind.i64 a1_6, D.int IntKind.i64 a1_7], Q.one (D.int IntKind.i64 a2)] = spec_boRoll.res n a0_0 a0_1 a0_2 a1_0 a1_1 a1_2 a1_3 a1_4 a1_5 a1_6 a1_7 a2 := by kernel_rfl
theorem spec_boRoll.ev {n : Nat} {a0_0 : Int} {a0_1 : Int} {a0_2 : List (List D)} {a1_0 : Int} {a1_1 : Int} {a1_2 : Int} {a1_3 : Int} {a1_4 : Int} {a1_5 : Int} {a1_6 : Int} {a1_7 : Int} {a2 : Int} {r : List Q} (h : spec_boRoll.res n a0_0 a0_1 a0_2 a1_0 a1_1 a1_2 a1_3 a1_4 a1_5 a1_6 a1_7 a2 = some r) : Snd Tryd.prog C0 115 [.agg [.int .i64 a0_0, .int .i64 a0_1, .sl 1 a0_2], .agg [.int .i64 a1_0, .int .i64 a1_1, .int .i64 a1_2, .int .i64 a1_3, .int .i64 a1_4, .int .i64 a1_5, .int .i64 a1_6, .int .i64 a1_7], .one (.int .i64 a2)] r :=
  snd_ev (C := spec_boRoll.cfg) cfg0 mix rfl rfl rfl rfl rfl (.cons spec_boNext.ok (.cons spec_boFloor.ok (.cons spec_diRoll.ok .nil))) .nil rfl Tryd.func115 (by kernel_rfl) (by kernel_rfl) rfl ((spec_boRoll.run n a0_0 a0_1 a0_2 a1_0 a1_1 a1_2 a1_3 a1_4 a1_5 a1_6 a1_7 a2).trans h)

def spec_boRoll.stub : Stub
  | [.agg [.int .i64 gw, .int .i64 gh, .sl 1 es], .agg [.int .i64 x, .int .i64 y, .int .i64 t, .int .i64 n, .int .i64 e, .int .i64 s, .int .i64 w, .int .i64 b], .one (.int .i64 k)] => .any (u8C.decs es) fun cs => .gd (Sp.inR gw 0 7) (.gd (Sp.inR gh 0 7) (.gd (decide (cs.length = gw.toNat * gh.toNat)) (.gd (Sp.inR x 0 6) (.gd (Sp.inR y 0 6) (.ret [.agg [.int .i64 (Sp.onI (Sp.flC gw gh cs (Sp.nxX x k) (Sp.nxY y k)) (Sp.nxX x k)), .int .i64 (Sp.onI (Sp.flC gw gh cs (Sp.nxX x k) (Sp.nxY y k)) (Sp.nxY y k)), .int .i64 (Sp.onI (Sp.flC gw gh cs (Sp.nxX x k) (Sp.nxY y k)) (Sp.roll ⟨t, n, e, s, w, b⟩ k).t), .int .i64 (Sp.onI (Sp.flC gw gh cs (Sp.nxX x k) (Sp.nxY y k)) (Sp.roll ⟨t, n, e, s, w, b⟩ k).n), .int .i64 (Sp.onI (Sp.flC gw gh cs (Sp.nxX x k) (Sp.nxY y k)) (Sp.roll ⟨t, n, e, s, w, b⟩ k).e), .int .i64 (Sp.onI (Sp.flC gw gh cs (Sp.nxX x k) (Sp.nxY y k)) (Sp.roll ⟨t, n, e, s, w, b⟩ k).s), .int .i64 (Sp.onI (Sp.flC gw gh cs (Sp.nxX x k) (Sp.nxY y k)) (Sp.roll ⟨t, n, e, s, w, b⟩ k).w), .int .i64 (Sp.onI (Sp.flC gw gh cs (Sp.nxX x k) (Sp.nxY y k)) (Sp.roll ⟨t, n, e, s, w, b⟩ k).b)], .one (.bool (Sp.flC gw gh cs (Sp.nxX x k) (Sp.nxY y k)))])))))
  | _ => .fail
theorem spec_boRoll.ok : StubOk Tryd.prog C0 115 spec_boRoll.stub := by
  intro args res h
  unfold spec_boRoll.stub at h
  split at h
  · rename_i gw g es x y t n e s w b k
    obtain ⟨cs, h1, h0⟩ := any_out h
    obtain ⟨h2, h0⟩ := gd_out h0
    obtain ⟨h3, h0⟩ := gd_out h0
    obtain ⟨h4, h0⟩ := gd_out h0
    obtain ⟨h5, h0⟩ := gd_out h0
    obtain ⟨h6, h0⟩ := gd_out h0
    cases h0
    refine spec_boRoll.ev (n := 0) ?_
    unfold spec_boRoll.res
    rw [h1]
    simp only [Option.bind_some, h2, h3, h4, h5, h6, cond_true]
    rw [show (inR (nxX x k) 0 (gw - 1) && inR (nxY y k) 0 (g - 1) && isDot cs ((nxY y k).toNat * gw.toNat + (nxX x k).toNat)) = flC gw g cs (nxX x k) (nxY y k) from rfl]
    cases flC gw g cs (nxX x k) (nxY y k) <;> rfl
  · cases h
/-! impl_grid_roll -/
noncomputable def impl_grid_roll.cfg : Cfg := { C0 with keep := fun _ => none, nb := 0, M := tabM [(137, impl_next.stub), (138, impl_Die_roll.stub), (51, impl_grid_at.stub)], MM := tabB [] }
noncomputable def impl_grid_roll.res (n : Nat) (a0 : List (List D)) (a1_0 : Int) (a1_1 : Int) (a1_2 : Int) (a1_3 : Int) (a1_4 : Int) (a1_5 : Int) (a1_6 : Int) (a1_7 : Int) (a2 : Int) : Option (List Q) :=
  bif inR a1_0 (0 : Int) (6 : Int) then bif inR a1_1 (0 : Int) (6 : Int) then Option.bind (Cod.decs strC a0) fun (l1 : List ByteArray) => bif unif (lb l1) then bif decide (List.length l1 ≤ (17179869184 : Nat)) then bif decide (wOf (lb l1) ≤ (17179869184 : Nat)) then some [Q.agg [D.int IntKind.i64 (nxX a1_0 (dix a2)), D.int IntKind.i64 (nxY a1_1 (dix a2)), D.int IntKind.i64 (Die.t (rollB (Die.mk a1_2 a1_3 a1_4 a1_5 a1_6 a1_7) a2)), D.int IntKind.i64 (Die.n (rollB (Die.mk a1_2 a1_3 a1_4 a1_5 a1_6 a1_7) a2)), D.int IntKind.i64 (Die.e (rollB (Die.mk a1_2 a1_3 a1_4 a1_5 a1_6 a1_7) a2)), D.int IntKind.i64 (Die.s (rollB (Die.mk a1_2 a1_3 a1_4 a1_5 a1_6 a1_7) a2)), D.int IntKind.i64 (Die.w (rollB (Die.mk a1_2 a1_3 a1_4 a1_5 a1_6 a1_7) a2)), D.int IntKind.i64 (Die.b (rollB (Die.mk a1_2 a1_3 a1_4 a1_5 a1_6 a1_7) a2))], Q.one (D.bool (atZ (lb l1) (nxX a1_0 (dix a2)) (nxY a1_1 (dix a2)) == (46 : Int)))] else none else none else none else none else none
theorem impl_grid_roll.run (n : Nat) (a0 : List (List D)) (a1_0 : Int) (a1_1 : Int) (a1_2 : Int) (a1_3 : Int) (a1_4 : Int) (a1_5 : Int) (a1_6 : Int) (a1_7 : Int) (a2 : Int) :
    run1 impl_grid_roll.cfg [RK.agg [LK.int IntKind.i64, LK.int IntKind.i64, LK.int IntKind.i64, LK.int IntKind.i64, LK.int IntKind.i64, LK.int IntKind.i64, LK.int IntKind.i64, LK.int IntKind.i64], RK.one LK.bool] n Tryd.f123 [Q.one (D.sl (1 : Nat) a0), Q.agg [D.int IntKind.i64 a1_0, D.int IntKind.i64 a1_1, D.int IntKind.i64 a1_2, D.int IntKind.i64 a1_3, D.int IntKind.i64 a1_4, D.int IntKind.i64 a1_5, D.int IntKind.i64 a1_6, D.int IntKind.i64 a1_7], Q.one (D.int IntKind.u8 a2)] = impl_grid_roll.res n a0 a1_0 a1_1 a1_2 a1_3 a1_4 a1_5 a1_6 a1_7 a2 := by kernel_rfl
theorem impl_grid_roll.ev {n : Nat} {a0 : List (List D)} {a1_0 : Int} {a1_1 : Int} {a1_2 : Int} {a1_3 : Int} {a1_4 : Int} {a1_5 : Int} {a1_6 : Int} {a1_7 : Int} {a2 : Int} {r : List Q} (h : impl_grid_roll.res n a0 a1_0 a1_1 a1_2 a1_3 a1_4 a1_5 a1_6 a1_7 a2 = some r) : Snd Tryd.prog C0 123 [.one (.sl 1 a0), .agg [.int .i64 a1_0, .int .i64 a1_1, .int .i64 a1_2, .int .i64 a1_3, .int .i64 a1_4, .int .i64 a1_5, .int .i64 a1_6, .int .i64 a1_7], .one (.int .u8 a2)] r :=
  snd_ev (C := impl_grid_roll.cfg) cfg0 mix rfl rfl rfl rfl rfl (.cons impl_next.ok (.cons impl_Die_roll.ok (.cons impl_grid_at.ok .nil))) .nil rfl Tryd.func123 (by kernel_rfl) (by kernel_rfl) rfl ((impl_grid_roll.run n a0 a1_0 a1_1 a1_2 a1_3 a1_4 a1_5 a1_6 a1_7 a2).trans h)

def impl_grid_roll.stub : Stub
  | [.one (.sl 1 es), .agg [.int .i64 x, .int .i64 y, .int .i64 t, .int .i64 n, .int .i64 e, .int .i64 s, .int .i64 w, .int .i64 b], .one (.int .u8 c)] => .any (strC.decs es) fun l => .gd (Sp.unif (Sp.lb l)) (.gd (Sp.smallR l) (.gd (Sp.inR x 0 6) (.gd (Sp.inR y 0 6) (.ret [.agg [.int .i64 (Sp.nxX x (Sp.dix c)), .int .i64 (Sp.nxY y (Sp.dix c)), .int .i64 (Sp.rollB ⟨t, n, e, s, w, b⟩ c).t, .int .i64 (Sp.rollB ⟨t, n, e, s, w, b⟩ c).n, .int .i64 (Sp.rollB ⟨t, n, e, s, w, b⟩ c).e, .int .i64 (Sp.rollB ⟨t, n, e, s, w, b⟩ c).s, .int .i64 (Sp.rollB ⟨t, n, e, s, w, b⟩ c).w, .int .i64 (Sp.rollB ⟨t, n, e, s, w, b⟩ c).b], .one (.bool (Sp.isFl (Sp.lb l) (Sp.nxX x (Sp.dix c)) (Sp.nxY y (Sp.dix c))))]))))
  | _ => .fail
theorem small_w {l : List ByteArray} (h : smallR l = true) : l.length ≤ 17179869184 ∧ wOf (lb l) ≤ 17179869184 ∧ l.length ≤ 7 ∧ wOf (lb l) ≤ 7 := by
  obtain ⟨h1, h2⟩ := smallR_out h
  have : wOf (lb l) ≤ 7 := by
    cases l with
    | nil => simp [lb, wOf]
    | cons a l => exact h2 a List.mem_cons_self
  exact ⟨by omega, by omega, h1, this⟩
theorem impl_grid_roll.ok : StubOk Tryd.prog C0 123 impl_grid_roll.stub := by
  intro args res h
  unfold impl_grid_roll.stub at h
  split at h
  · rename_i es x y t n e s w b c
    obtain ⟨l, h1, h0⟩ := any_out h
    obtain ⟨h2, h0⟩ := gd_out h0
    obtain ⟨h3, h0⟩ := gd_out h0
    obtain ⟨h5, h0⟩ := gd_out h0
    obtain ⟨h6, h0⟩ := gd_out h0
    cases h0
    obtain ⟨k1, k2, _, _⟩ := small_w h3
    refine impl_grid_roll.ev (n := 0) ?_
    unfold impl_grid_roll.res
    rw [h1]
    simp only [Option.bind_some, h2, k1, k2, h5, h6, decide_true, cond_true]
    rfl
  · cases h
end Go.Proofs.EV.PL
set_option linter.unusedVariables false
set_option linter.unusedSimpArgs false
/-! States along a word. -/
namespace Go.Proofs.EV.PL
open Go Go.Proofs Go.Proofs.EV Sp
/-! spec_boAlong -/
noncomputable def spec_boAlong.cfg : Cfg := { C0 with keep := fun | 3 => some [2, 3, 4, 7, 8] | _ => none, nb := 0, M := tabM [(115, spec_boRoll.stub), (92, spec_diDir.stub)], MM := tabB [] }
noncomputable def spec_boAlong.l3 (n : Nat) (m3 : Nat) (s0 : ByteArray) (i1 : Int) (i2 : Int) (i3 : Int) (l4 : List (List D)) (i5 : Int) (i6 : Int) (i7 : Int) (i8 : Int) (i9 : Int) (i10 : Int) (i11 : Int) (i12 : Int) (l13 : List (List D)) : Option (List Q) :=
  loopAt spec_boAlong.cfg [RK.own (8 : Nat)] n Tryd.f93 [1, 1, 0, 1, 0] [] m3 (St.mk [V.undef, V.undef, V.one true (D.str s0), V.rp (0 : Nat) (0 : Nat), V.rp (1 : Nat) (0 : Nat), V.undef, V.undef, V.rw (2 : Nat), V.one true (D.int IntKind.i64 i1), V.undef, V.undef, V.undef, V.undef, V.undef, V.undef, V.undef, V.undef, V.undef, V.undef, V.undef, V.undef, V.undef, V.undef, V.undef, V.undef, V.undef, V.undef, V.undef, V.undef, V.undef, V.undef, V.undef, V.undef, V.undef, V.undef, V.undef, V.undef, V.undef, V.undef, V.undef] [Ob.box [V.one true (D.int IntKind.i64 i2), V.one true (D.int IntKind.i64 i3), V.one false (D.sl (1 : Nat) l4)], Ob.box [V.one true (D.int IntKind.i64 i5), V.one true (D.int IntKind.i64 i6), V.one true (D.int IntKind.i64 i7), V.one true (D.int IntKind.i64 i8), V.one true (D.int IntKind.i64 i9), V.one true (D.int IntKind.i64 i10), V.one true (D.int IntKind.i64 i11), V.one true (D.int IntKind.i64 i12)], Ob.row false (8 : Nat) l13])
theorem spec_boAlong.l3_eq (n : Nat) (m3 : Nat) (s0 : ByteArray) (i1 : Int) (i2 : Int) (i3 : Int) (l4 : List (List D)) (i5 : Int) (i6 : Int) (i7 : Int) (i8 : Int) (i9 : Int) (i10 : Int) (i11 : Int) (i12 : Int) (l13 : List (List D)) :
    spec_boAlong.l3 n (m3 + 1) s0 i1 i2 i3 l4 i5 i6 i7 i8 i9 i10 i11 i12 l13 = bif decide (i1 < (↑(ByteArray.size s0) : Int)) then bif decide ((0 : Int) ≤ IntKind.wrap IntKind.i64 (i1 + (1 : Int))) then bif decide (IntKind.wrap IntKind.i64 (i1 + (1 : Int)) ≤ (↑(ByteArray.size s0) : Int)) then bif decide ((0 : Int) ≤ i1) then bif decide (i1 ≤ (↑(Int.toNat (IntKind.wrap IntKind.i64 (i1 + (1 : Int)))) : Int)) then bif decide (ByteArray.size (ByteArray.extract s0 (Int.toNat i1) (Int.toNat (IntKind.wrap IntKind.i64 (i1 + (1 : Int))))) = (1 : Nat)) then Option.bind (Cod.decs u8C l4) fun (l1 : List UInt8) => bif inR i2 (0 : Int) (7 : Int) then bif inR i3 (0 : Int) (7 : Int) then bif decide (List.length l1 = Int.toNat i2 * Int.toNat i3) then bif inR i5 (0 : Int) (6 : Int) then bif inR i6 (0 : Int) (6 : Int) then bif !flC i2 i3 l1 (nxX i5 (dirIx (byteAt (ByteArray.extract s0 (Int.toNat i1) (Int.toNat (IntKind.wrap IntKind.i64 (i1 + (1 : Int))))) (0 : Nat)))) (nxY i6 (dirIx (byteAt (ByteArray.extract s0 (Int.toNat i1) (Int.toNat (IntKind.wrap IntKind.i64 (i1 + (1 : Int))))) (0 : Nat)))) then some [Q.one (D.sl (8 : Nat) l13)] else bif decide (List.length l13 + (1 : Nat) ≤ (17179869184 : Nat)) then spec_boAlong.l3 n m3 s0 (IntKind.wrap IntKind.i64 (i1 + (1 : Int))) i2 i3 l4 (onI (flC i2 i3 l1 (nxX i5 (dirIx (byteAt (ByteArray.extract s0 (Int.toNat i1) (Int.toNat (IntKind.wrap IntKind.i64 (i1 + (1 : Int))))) (0 : Nat)))) (nxY i6 (dirIx (byteAt (ByteArray.extract s0 (Int.toNat i1) (Int.toNat (IntKind.wrap IntKind.i64 (i1 + (1 : Int))))) (0 : Nat))))) (nxX i5 (dirIx (byteAt (ByteArray.extract s0 (Int.toNat i1) (Int.toNat (IntKind.wrap IntKind.i64 (i1 + (1 : Int))))) (0 : Nat))))) (onI (flC i2 i3 l1 (nxX i5 (dirIx (byteAt (ByteArray.extract s0 (Int.toNat i1) (Int.toNat (IntKind.wrap IntKind.i64 (i1 + (1 : Int))))) (0 : Nat)))) (nxY i6 (dirIx (byteAt (ByteArray.extract s0 (Int.toNat i1) (Int.toNat (IntKind.wrap IntKind.i64 (i1 + (1 : Int))))) (0 : Nat))))) (nxY i6 (dirIx (byteAt (ByteArray.extract s0 (Int.toNat i1) (Int.toNat (IntKind.wrap IntKind.i64 (i1 + (1 : Int))))) (0 : Nat))))) (onI (flC i2 i3 l1 (nxX i5 (dirIx (byteAt (ByteArray.extract s0 (Int.toNat i1) (Int.toNat (IntKind.wrap IntKind.i64 (i1 + (1 : Int))))) (0 : Nat)))) (nxY i6 (dirIx (byteAt (ByteArray.extract s0 (Int.toNat i1) (Int.toNat (IntKind.wrap IntKind.i64 (i1 + (1 : Int))))) (0 : Nat))))) (Die.t (roll (Die.mk i7 i8 i9 i10 i11 i12) (dirIx (byteAt (ByteArray.extract s0 (Int.toNat i1) (Int.toNat (IntKind.wrap IntKind.i64 (i1 + (1 : Int))))) (0 : Nat)))))) (onI (flC i2 i3 l1 (nxX i5 (dirIx (byteAt (ByteArray.extract s0 (Int.toNat i1) (Int.toNat (IntKind.wrap IntKind.i64 (i1 + (1 : Int))))) (0 : Nat)))) (nxY i6 (dirIx (byteAt (ByteArray.extract s0 (Int.toNat i1) (Int.toNat (IntKind.wrap IntKind.i64 (i1 + (1 : Int))))) (0 : Nat))))) (Die.n (roll (Die.mk i7 i8 i9 i10 i11 i12) (dirIx (byteAt (ByteArray.extract s0 (Int.toNat i1) (Int.toNat (IntKind.wrap IntKind.i64 (i1 + (1 : Int))))) (0 : Nat)))))) (onI (flC i2 i3 l1 (nxX i5 (dirIx (byteAt (ByteArray.extract s0 (Int.toNat i1) (Int.toNat (IntKind.wrap IntKind.i64 (i1 + (1 : Int))))) (0 : Nat)))) (nxY i6 (dirIx (byteAt (ByteArray.extract s0 (Int.toNat i1) (Int.toNat (IntKind.wrap IntKind.i64 (i1 + (1 : Int))))) (0 : Nat))))) (Die.e (roll (Die.mk i7 i8 i9 i10 i11 i12) (dirIx (byteAt (ByteArray.extract s0 (Int.toNat i1) (Int.toNat (IntKind.wrap IntKind.i64 (i1 + (1 : Int))))) (0 : Nat)))))) (onI (flC i2 i3 l1 (nxX i5 (dirIx (byteAt (ByteArray.extract s0 (Int.toNat i1) (Int.toNat (IntKind.wrap IntKind.i64 (i1 + (1 : Int))))) (0 : Nat)))) (nxY i6 (dirIx (byteAt (ByteArray.extract s0 (Int.toNat i1) (Int.toNat (IntKind.wrap IntKind.i64 (i1 + (1 : Int))))) (0 : Nat))))) (Die.s (roll (Die.mk i7 i8 i9 i10 i11 i12) (dirIx (byteAt (ByteArray.extract s0 (Int.toNat i1) (Int.toNat (IntKind.wrap IntKind.i64 (i1 + (1 : Int))))) (0 : Nat)))))) (onI (flC i2 i3 l1 (nxX i5 (dirIx (byteAt (ByteArray.extract s0 (Int.toNat i1) (Int.toNat (IntKind.wrap IntKind.i64 (i1 + (1 : Int))))) (0 : Nat)))) (nxY i6 (dirIx (byteAt (ByteArray.extract s0 (Int.toNat i1) (Int.toNat (IntKind.wrap IntKind.i64 (i1 + (1 : Int))))) (0 : Nat))))) (Die.w (roll (Die.mk i7 i8 i9 i10 i11 i12) (dirIx (byteAt (ByteArray.extract s0 (Int.toNat i1) (Int.toNat (IntKind.wrap IntKind.i64 (i1 + (1 : Int))))) (0 : Nat)))))) (onI (flC i2 i3 l1 (nxX i5 (dirIx (byteAt (ByteArray.extract s0 (Int.toNat i1) (Int.toNat (IntKind.wrap IntKind.i64 (i1 + (1 : Int))))) (0 : Nat)))) (nxY i6 (dirIx (byteAt (ByteArray.extract s0 (Int.toNat i1) (Int.toNat (IntKind.wrap IntKind.i64 (i1 + (1 : Int))))) (0 : Nat))))) (Die.b (roll (Die.mk i7 i8 i9 i10 i11 i12) (dirIx (byteAt (ByteArray.extract s0 (Int.toNat i1) (Int.toNat (IntKind.wrap IntKind.i64 (i1 + (1 : Int))))) (0 : Nat)))))) (l13 ++ [[D.int IntKind.i64 (onI (flC i2 i3 l1 (nxX i5 (dirIx (byteAt (ByteArray.extract s0 (Int.toNat i1) (Int.toNat (IntKind.wrap IntKind.i64 (i1 + (1 : Int))))) (0 : Nat)))) (nxY i6 (dirIx (byteAt (ByteArray.extract s0 (Int.toNat i1) (Int.toNat (IntKind.wrap IntKind.i64 (i1 + (1 : Int))))) (0 : Nat))))) (nxX i5 (dirIx (byteAt (ByteArray.extract s0 (Int.toNat i1) (Int.toNat (IntKind.wrap IntKind.i64 (i1 + (1 : Int))))) (0 : Nat))))), D.int IntKind.i64 (onI (flC i2 i3 l1 (nxX i5 (dirIx (byteAt (ByteArray.extract s0 (Int.toNat i1) (Int.toNat (IntKind.wrap IntKind.i64 (i1 + (1 : Int))))) (0 : Nat)))) (nxY i6 (dirIx (byteAt (ByteArray.extract s0 (Int.toNat i1) (Int.toNat (IntKind.wrap IntKind.i64 (i1 + (1 : Int))))) (0 : Nat))))) (nxY i6 (dirIx (byteAt (ByteArray.extract s0 (Int.toNat i1) (Int.toNat (IntKind.wrap IntKind.i64 (i1 + (1 : Int))))) (0 : Nat))))), D.int IntKind.i64 (onI (flC i2 i3 l1 (nxX i5 (dirIx (byteAt (ByteArray.extract s0 (Int.toNat i1) (Int.toNat (IntKind.wrap IntKind.i64 (i1 + (1 : Int))))) (0 : Nat)))) (nxY i6 (dirIx (byteAt (ByteArray.extract s0 (Int.toNat i1) (Int.toNat (IntKind.wrap IntKind.i64 (i1 + (1 : Int))))) (0 : Nat))))) (Die.t (roll (Die.mk i7 i8 i9 i10 i11 i12) (dirIx (byteAt (ByteArray.extract s0 (Int.toNat i1) (Int.toNat (IntKind.wrap IntKind.i64 (i1 + (1 : Int))))) (0 : Nat)))))), D.int IntKind.i64 (onI (flC i2 i3 l1 (nxX i5 (dirIx (byteAt (ByteArray.extract s0 (Int.toNat i1) (Int.toNat (IntKind.wrap IntKind.i64 (i1 + (1 : Int))))) (0 : Nat)))) (nxY i6 (dirIx (byteAt (ByteArray.extract s0 (Int.toNat i1) (Int.toNat (IntKind.wrap IntKind.i64 (i1 + (1 : Int))))) (0 : Nat))))) (Die.n (roll (Die.mk i7 i8 i9 i10 i11 i12) (dirIx (byteAt (ByteArray.extract s0 (Int.toNat i1) (Int.toNat (IntKind.wrap IntKind.i64 (i1 + (1 : Int))))) (0 : Nat)))))), D.int IntKind.i64 (onI (flC i2 i3 l1 (nxX i5 (dirIx (byteAt (ByteArray.extract s0 (Int.toNat i1) (Int.toNat (IntKind.wrap IntKind.i64 (i1 + (1 : Int))))) (0 : Nat)))) (nxY i6 (dirIx (byteAt (ByteArray.extract s0 (Int.toNat i1) (Int.toNat (IntKind.wrap IntKind.i64 (i1 + (1 : Int))))) (0 : Nat))))) (Die.e (roll (Die.mk i7 i8 i9 i10 i11 i12) (dirIx (byteAt (ByteArray.extract s0 (Int.toNat i1) (Int.toNat (IntKind.wrap IntKind.i64 (i1 + (1 : Int))))) (0 : Nat)))))), D.int IntKind.i64 (onI (flC i2 i3 l1 (nxX i5 (dirIx (byteAt (ByteArray.extract s0 (Int.toNat i1) (Int.toNat (IntKind.wrap IntKind.i64 (i1 + (1 : Int))))) (0 : Nat)))) (nxY i6 (dirIx (byteAt (ByteArray.extract s0 (Int.toNat i1) (Int.toNat (IntKind.wrap IntKind.i64 (i1 + (1 : Int))))) (0 : Nat))))) (Die.s (roll (Die.mk i7 i8 i9 i10 i11 i12) (dirIx (byteAt (ByteArray.extract s0 (Int.toNat i1) (Int.toNat (IntKind.wrap IntKind.i64 (i1 + (1 : Int))))) (0 : Nat)))))), D.int IntKind.i64 (onI (flC i2 i3 l1 (nxX i5 (dirIx (byteAt (ByteArray.extract s0 (Int.toNat i1) (Int.toNat (IntKind.wrap IntKind.i64 (i1 + (1 : Int))))) (0 : Nat)))) (nxY i6 (dirIx (byteAt (ByteArray.extract s0 (Int.toNat i1) (Int.toNat (IntKind.wrap IntKind.i64 (i1 + (1 : Int))))) (0 : Nat))))) (Die.w (roll (Die.mk i7 i8 i9 i10 i11 i12) (dirIx (byteAt (ByteArray.extract s0 (Int.toNat i1) (Int.toNat (IntKind.wrap IntKind.i64 (i1 + (1 : Int))))) (0 : Nat)))))), D.int IntKind.i64 (onI (flC i2 i3 l1 (nxX i5 (dirIx (byteAt (ByteArray.extract s0 (Int.toNat i1) (Int.toNat (IntKind.wrap IntKind.i64 (i1 + (1 : Int))))) (0 : Nat)))) (nxY i6 (dirIx (byteAt (ByteArray.extract s0 (Int.toNat i1) (Int.toNat (IntKind.wrap IntKind.i64 (i1 + (1 : Int))))) (0 : Nat))))) (Die.b (roll (Die.mk i7 i8 i9 i10 i11 i12) (dirIx (byteAt (ByteArray.extract s0 (Int.toNat i1) (Int.toNat (IntKind.wrap IntKind.i64 (i1 + (1 : Int))))) (0 : Nat))))))]]) else none else none else none else none else none else none else none else none else none else none else none else some [Q.one (D.sl (8 : Nat) l13)] := by kernel_rfl
noncomputable def spec_boAlong.res (n : Nat) (a0_0 : Int) (a0_1 : Int) (a0_2 : List (List D)) (a1_0 : Int) (a1_1 : Int) (a1_2 : Int) (a1_3 : Int) (a1_4 : Int) (a1_5 : Int) (a1_6 : Int) (a1_7 : Int) (a2 : ByteArray) : Option (List Q) :=
  spec_boAlong.l3 n n a2 (0 : Int) a0_0 a0_1 a0_2 a1_0 a1_1 a1_2 a1_3 a1_4 a1_5 a1_6 a1_7 [[D.int IntKind.i64 a1_0, D.int IntKind.i64 a1_1, D.int IntKind.i64 a1_2, D.int IntKind.i64 a1_3, D.int IntKind.i64 a1_4, D.int IntKind.i64 a1_5, D.int IntKind.i64 a1_6, D.int IntKind.i64 a1_7]]
theorem spec_boAlong.run (n : Nat) (a0_0 : Int) (a0_1 : Int) (a0_2 : List (List D)) (a1_0 : Int) (a1_1 : Int) (a1_2 : Int) (a1_3 : Int) (a1_4 : Int) (a1_5 : Int) (a1_6 : Int) (a1_7 : Int) (a2 : ByteArray) :
    run1 spec_boAlong.cfg [RK.own (8 : Nat)] n Tryd.f93 [Q.agg [D.int IntKind.i64 a0_0, D.int IntKind.i64 a0_1, D.sl (1 : Nat) a0_2], Q.agg [D.int IntKind.i64 a1_0, D.int IntKind.i64 a1_1, D.int IntKind.i64 a1_2, D.int IntKind.i64 a1_3, D.int IntKind.i64 a1_4, D.int IntKind.i64 a1_5, D.int IntKind.i64 a1_6, D.int IntKind.i64 a1_7], Q.one (D.str a2)] = spec_boAlong.res n a0_0 a0_1 a0_2 a1_0 a1_1 a1_2 a1_3 a1_4 a1_5 a1_6 a1_7 a2 := by kernel_rfl
theorem spec_boAlong.ev {n : Nat} {a0_0 : Int} {a0_1 : Int} {a0_2 : List (List D)} {a1_0 : Int} {a1_1 : Int} {a1_2 : Int} {a1_3 : Int} {a1_4 : Int} {a1_5 : Int} {a1_6 : Int} {a1_7 : Int} {a2 : ByteArray} {r : List Q} (h : spec_boAlong.res n a0_0 a0_1 a0_2 a1_0 a1_1 a1_2 a1_3 a1_4 a1_5 a1_6 a1_7 a2 = some r) : Snd Tryd.prog C0 93 [.agg [.int .i64 a0_0, .int .i64 a0_1, .sl 1 a0_2], .agg [.int .i64 a1_0, .int .i64 a1_1, .int .i64 a1_2, .int .i64 a1_3, .int .i64 a1_4, .int .i64 a1_5, .int .i64 a1_6, .int .i64 a1_7], .one (.str a2)] r :=
  snd_ev (C := spec_boAlong.cfg) cfg0 mix rfl rfl rfl rfl rfl (.cons spec_boRoll.ok (.cons spec_diDir.ok .nil)) .nil rfl Tryd.func93 (by kernel_rfl) (by kernel_rfl) rfl ((spec_boAlong.run n a0_0 a0_1 a0_2 a1_0 a1_1 a1_2 a1_3 a1_4 a1_5 a1_6 a1_7 a2).trans h)

theorem spec_boAlong.l3_run {n : Nat} {wd : ByteArray} {gw gh : Int} {cs : List UInt8} (hgw : inR gw 0 7 = true) (hgh : inR gh 0 7 = true) (hc : decide (cs.length = gw.toNat * gh.toNat) = true) (hcd : u8C.decs (u8C.encs cs) = some cs) (hw : wd.size ≤ 60) (hd : ∀ c ∈ bl wd, dirB (c.toNat : Int) = true) :
    ∀ (d i m : Nat) (s : Sta) (done : List Sta), i + d = wd.size → d < m → inR s.x 0 6 = true → inR s.y 0 6 = true → done.length ≤ i + 1 →
    spec_boAlong.l3 n m wd (i : Int) gw gh (u8C.encs cs) s.x s.y s.d.t s.d.n s.d.e s.d.s s.d.w s.d.b (stC.encs done) = some [Q.one (.sl 8 (stC.encs (done ++ alT (flC gw gh cs) s ((bl wd).drop i))))] := by
  intro d
  induction d with
  | zero =>
    intro i m s done hi hm hx hy hl
    obtain ⟨m, rfl⟩ : ∃ m', m = m' + 1 := ⟨m - 1, by omega⟩
    have h1 : ¬ (i : Int) < ((wd.size : Nat) : Int) := by omega
    rw [spec_boAlong.l3_eq, List.drop_of_length_le (by rw [bl_len]; omega)]
    simp only [h1, decide_false, cond_false]
    rw [alT, List.append_nil]
  | succ d ih =>
    intro i m s done hi hm hx hy hl
    obtain ⟨m, rfl⟩ : ∃ m', m = m' + 1 := ⟨m - 1, by omega⟩
    have hlt : i < (bl wd).length := by rw [bl_len]; omega
    have h1 : (i : Int) < ((wd.size : Nat) : Int) := by omega
    have h2 : ((i + 1 : Nat) : Int) ≤ ((wd.size : Nat) : Int) := by omega
    have h3 : (i : Int) ≤ ((i + 1 : Nat) : Int) := by omega
    have h6 : done.length + 1 ≤ 17179869184 := by omega
    obtain ⟨h4, h5⟩ := ext_one hlt
    have hdir := dix_ix (hd _ (List.getElem_mem hlt))
    rw [spec_boAlong.l3_eq, List.drop_eq_getElem_cons hlt, alT]
    simp only [h1, h2, h3, h4, h5, h6, hdir, hgw, hgh, hc, hcd, hx, hy, wrap_succ (show i ≤ LIM by unfold LIM; omega), Int.natCast_nonneg, Int.toNat_natCast, decide_true, cond_true, Option.bind_some, Cod.encs_len, Die.eta, roll_dix]
    rw [show flC gw gh cs (mv s ((bl wd)[i].toNat : Int)).x (mv s ((bl wd)[i].toNat : Int)).y = flC gw gh cs (nxX s.x (dix ((bl wd)[i].toNat : Int))) (nxY s.y (dix ((bl wd)[i].toNat : Int))) from rfl]
    cases hp : flC gw gh cs (nxX s.x (dix ((bl wd)[i].toNat : Int))) (nxY s.y (dix ((bl wd)[i].toNat : Int))) with
    | false =>
      simp only [Bool.not_false, cond_true, cond_false, List.append_nil]
    | true =>
      obtain ⟨a1, a2⟩ := flC_in (inR_out hgw).2 (inR_out hgh).2 hp
      have step := ih (i + 1) m (mv s ((bl wd)[i].toNat : Int)) (done ++ [mv s ((bl wd)[i].toNat : Int)]) (by omega) (by omega) a1 a2 (by rw [List.length_append, List.length_singleton]; omega)
      rw [← stC_snoc, List.append_assoc, List.singleton_append] at step
      simp only [Bool.not_true, cond_true, cond_false]
      exact step
def spec_boAlong.stub : Stub
  | [.agg [.int .i64 gw, .int .i64 gh, .sl 1 es], .agg [.int .i64 x, .int .i64 y, .int .i64 t, .int .i64 n, .int .i64 e, .int .i64 s, .int .i64 w, .int .i64 b], .one (.str wd)] => .any (u8C.decs es) fun cs => .gd (Sp.inR gw 0 7) (.gd (Sp.inR gh 0 7) (.gd (decide (cs.length = gw.toNat * gh.toNat)) (.gd (Sp.inR x 0 6) (.gd (Sp.inR y 0 6) (.gd (Sp.isWord wd) (.ret [.one (.sl 8 (stC.encs (Sp.alL (Sp.flC gw gh cs) ⟨x, y, ⟨t, n, e, s, w, b⟩⟩ wd)))]))))))
  | _ => .fail
theorem spec_boAlong.ok : StubOk Tryd.prog C0 93 spec_boAlong.stub := by
  intro args res h
  unfold spec_boAlong.stub at h
  split at h
  · rename_i gw gh es x y t n e s w b wd
    obtain ⟨cs, h1, h0⟩ := any_out h
    obtain ⟨rfl, hl⟩ := Cod.decs_inv h1
    obtain ⟨h2, h0⟩ := gd_out h0
    obtain ⟨h3, h0⟩ := gd_out h0
    obtain ⟨h4, h0⟩ := gd_out h0
    obtain ⟨h5, h0⟩ := gd_out h0
    obtain ⟨h6, h0⟩ := gd_out h0
    obtain ⟨h7, h0⟩ := gd_out h0
    cases h0
    obtain ⟨k1, k2⟩ := isWord_out h7
    obtain ⟨N, hN⟩ : ∃ N, 64 ≤ N := ⟨64, Nat.le_refl _⟩
    refine spec_boAlong.ev (n := N) ?_
    have key := spec_boAlong.l3_run (n := N) h2 h3 h4 h1 k1 k2 wd.size 0 N ⟨x, y, ⟨t, n, e, s, w, b⟩⟩ [⟨x, y, ⟨t, n, e, s, w, b⟩⟩] (by omega) (by omega) h5 h6 (by simp)
    rw [List.drop_zero] at key
    exact key
  · cases h
/-! impl_grid_along -/
noncomputable def impl_grid_along.cfg : Cfg := { C0 with keep := fun | 3 => some [0, 2, 7, 14, 15] | _ => none, nb := 0, M := tabM [(123, impl_grid_roll.stub)], MM := tabB [] }
noncomputable def impl_grid_along.l3 (n : Nat) (m3 : Nat) (l0 : List (List D)) (s1 : ByteArray) (i2 : Int) (i3 : Int) (l4 : List (List D)) : Option (List Q) :=
  loopAt impl_grid_along.cfg [RK.own (8 : Nat)] n Tryd.f95 [1, 1, 0, 1, 0] [] m3 (St.mk [V.one false (D.sl (1 : Nat) l0), V.undef, V.one true (D.str s1), V.undef, V.undef, V.undef, V.undef, V.rw (0 : Nat), V.undef, V.undef, V.undef, V.undef, V.undef, V.undef, V.one true (D.int IntKind.i64 i2), V.one true (D.int IntKind.i64 i3), V.undef, V.undef, V.undef, V.undef, V.undef, V.undef, V.undef, V.undef, V.undef, V.undef, V.undef, V.undef, V.undef, V.undef, V.undef, V.undef, V.undef, V.undef, V.undef, V.undef, V.undef, V.undef] [Ob.row false (8 : Nat) l4])
theorem impl_grid_along.l3_eq (n : Nat) (m3 : Nat) (l0 : List (List D)) (s1 : ByteArray) (i2 : Int) (i3 : Int) (l4 : List (List D)) :
    impl_grid_along.l3 n (m3 + 1) l0 s1 i2 i3 l4 = bif decide (i3 < i2) then bif decide ((0 : Int) ≤ i3) then bif decide (i3 < (↑(List.length l4) : Int)) then Option.bind (Option.bind (some (cellD l4 (Int.toNat i3) (0 : Nat))) (D.int? IntKind.i64)) fun (i1 : Int) => Option.bind (Option.bind (some (cellD l4 (Int.toNat i3) (1 : Nat))) (D.int? IntKind.i64)) fun (i2_1 : Int) => Option.bind (Option.bind (some (cellD l4 (Int.toNat i3) (2 : Nat))) (D.int? IntKind.i64)) fun (i3_1 : Int) => Option.bind (Option.bind (some (cellD l4 (Int.toNat i3) (3 : Nat))) (D.int? IntKind.i64)) fun (i4 : Int) => Option.bind (Option.bind (some (cellD l4 (Int.toNat i3) (4 : Nat))) (D.int? IntKind.i64)) fun (i5 : Int) => Option.bind (Option.bind (some (cellD l4 (Int.toNat i3) (5 : Nat))) (D.int? IntKind.i64)) fun (i6 : Int) => Option.bind (Option.bind (some (cellD l4 (Int.toNat i3) (6 : Nat))) (D.int? IntKind.i64)) fun (i7 : Int) => Option.bind (Option.bind (some (cellD l4 (Int.toNat i3) (7 : Nat))) (D.int? IntKind.i64)) fun (i8 : Int) => bif decide ((0 : Int) ≤ i3) then bif decide (i3 < (↑(ByteArray.size s1) : Int)) then Option.bind (Cod.decs strC l0) fun (l9 : List ByteArray) => bif unif (lb l9) then bif smallR l9 then bif inR i1 (0 : Int) (6 : Int) then bif inR i2_1 (0 : Int) (6 : Int) then bif !isFl (lb l9) (nxX i1 (dix (byteAt s1 (Int.toNat i3)))) (nxY i2_1 (dix (byteAt s1 (Int.toNat i3)))) then some [Q.one (D.sl (8 : Nat) l4)] else bif decide (List.length l4 + (1 : Nat) ≤ (17179869184 : Nat)) then impl_grid_along.l3 n m3 l0 s1 i2 (IntKind.wrap IntKind.i64 (i3 + (1 : Int))) (l4 ++ [[D.int IntKind.i64 (nxX i1 (dix (byteAt s1 (Int.toNat i3)))), D.int IntKind.i64 (nxY i2_1 (dix (byteAt s1 (Int.toNat i3)))), D.int IntKind.i64 (Die.t (rollB (Die.mk i3_1 i4 i5 i6 i7 i8) (byteAt s1 (Int.toNat i3)))), D.int IntKind.i64 (Die.n (rollB (Die.mk i3_1 i4 i5 i6 i7 i8) (byteAt s1 (Int.toNat i3)))), D.int IntKind.i64 (Die.e (rollB (Die.mk i3_1 i4 i5 i6 i7 i8) (byteAt s1 (Int.toNat i3)))), D.int IntKind.i64 (Die.s (rollB (Die.mk i3_1 i4 i5 i6 i7 i8) (byteAt s1 (Int.toNat i3)))), D.int IntKind.i64 (Die.w (rollB (Die.mk i3_1 i4 i5 i6 i7 i8) (byteAt s1 (Int.toNat i3)))), D.int IntKind.i64 (Die.b (rollB (Die.mk i3_1 i4 i5 i6 i7 i8) (byteAt s1 (Int.toNat i3))))]]) else none else none else none else none else none else none else none else none else none else some [Q.one (D.sl (8 : Nat) l4)] := by kernel_rfl
noncomputable def impl_grid_along.res (n : Nat) (a0 : List (List D)) (a1_0 : Int) (a1_1 : Int) (a1_2 : Int) (a1_3 : Int) (a1_4 : Int) (a1_5 : Int) (a1_6 : Int) (a1_7 : Int) (a2 : ByteArray) : Option (List Q) :=
  impl_grid_along.l3 n n a0 a2 (↑(ByteArray.size a2) : Int) (0 : Int) [[D.int IntKind.i64 a1_0, D.int IntKind.i64 a1_1, D.int IntKind.i64 a1_2, D.int IntKind.i64 a1_3, D.int IntKind.i64 a1_4, D.int IntKind.i64 a1_5, D.int IntKind.i64 a1_6, D.int IntKind.i64 a1_7]]
theorem impl_grid_along.run (n : Nat) (a0 : List (List D)) (a1_0 : Int) (a1_1 : Int) (a1_2 : Int) (a1_3 : Int) (a1_4 : Int) (a1_5 : Int) (a1_6 : Int) (a1_7 : Int) (a2 : ByteArray) :
    run1 impl_grid_along.cfg [RK.own (8 : Nat)] n Tryd.f95 [Q.one (D.sl (1 : Nat) a0), Q.agg [D.int IntKind.i64 a1_0, D.int IntKind.i64 a1_1, D.int IntKind.i64 a1_2, D.int IntKind.i64 a1_3, D.int IntKind.i64 a1_4, D.int IntKind.i64 a1_5, D.int IntKind.i64 a1_6, D.int IntKind.i64 a1_7], Q.one (D.str a2)] = impl_grid_along.res n a0 a1_0 a1_1 a1_2 a1_3 a1_4 a1_5 a1_6 a1_7 a2 := by kernel_rfl
theorem impl_grid_along.ev {n : Nat} {a0 : List (List D)} {a1_0 : Int} {a1_1 : Int} {a1_2 : Int} {a1_3 : Int} {a1_4 : Int} {a1_5 : Int} {a1_6 : Int} {a1_7 : Int} {a2 : ByteArray} {r : List Q} (h : impl_grid_along.res n a0 a1_0 a1_1 a1_2 a1_3 a1_4 a1_5 a1_6 a1_7 a2 = some r) : Snd Tryd.prog C0 95 [.one (.sl 1 a0), .agg [.int .i64 a1_0, .int .i64 a1_1, .int .i64 a1_2, .int .i64 a1_3, .int .i64 a1_4, .int .i64 a1_5, .int .i64 a1_6, .int .i64 a1_7], .one (.str a2)] r :=
  snd_ev (C := impl_grid_along.cfg) cfg0 mix rfl rfl rfl rfl rfl (.cons impl_grid_roll.ok .nil) .nil rfl Tryd.func95 (by kernel_rfl) (by kernel_rfl) rfl ((impl_grid_along.run n a0 a1_0 a1_1 a1_2 a1_3 a1_4 a1_5 a1_6 a1_7 a2).trans h)

theorem impl_grid_along.l3_run {n : Nat} {wd : ByteArray} {l : List ByteArray} (hu : unif (lb l) = true) (hs : smallR l = true) (hld : strC.decs (strC.encs l) = some l) (hw : wd.size ≤ 60) :
    ∀ (d i m : Nat) (s : Sta) (pre : List Sta), i + d = wd.size → d < m → inR s.x 0 6 = true → inR s.y 0 6 = true → pre.length = i →
    impl_grid_along.l3 n m (strC.encs l) wd ((wd.size : Nat) : Int) (i : Int) (stC.encs (pre ++ [s])) = some [Q.one (.sl 8 (stC.encs (pre ++ [s] ++ alT (isFl (lb l)) s ((bl wd).drop i))))] := by
  intro d
  induction d with
  | zero =>
    intro i m s pre hi hm hx hy hl
    obtain ⟨m, rfl⟩ : ∃ m', m = m' + 1 := ⟨m - 1, by omega⟩
    have h1 : ¬ (i : Int) < ((wd.size : Nat) : Int) := by omega
    rw [impl_grid_along.l3_eq, List.drop_of_length_le (by rw [bl_len]; omega)]
    simp only [h1, decide_false, cond_false]
    rw [alT, List.append_nil]
  | succ d ih =>
    intro i m s pre hi hm hx hy hl
    obtain ⟨m, rfl⟩ : ∃ m', m = m' + 1 := ⟨m - 1, by omega⟩
    have hlt : i < (bl wd).length := by rw [bl_len]; omega
    have h1 : (i : Int) < ((wd.size : Nat) : Int) := by omega
    have hil : i < (pre ++ [s]).length := by rw [List.length_append, List.length_singleton]; omega
    have h2 : (i : Int) < (((pre ++ [s]).length : Nat) : Int) := by omega
    have hget : (pre ++ [s])[i] = s := by
      subst hl
      exact List.getElem_concat_length rfl _
    have h6 : (pre ++ [s]).length + 1 ≤ 17179869184 := by rw [List.length_append, List.length_singleton]; omega
    obtain ⟨c0, c1, c2, c3, c4, c5, c6, c7⟩ := st_cells hil
    rw [hget] at c0 c1 c2 c3 c4 c5 c6 c7
    rw [impl_grid_along.l3_eq, List.drop_eq_getElem_cons hlt, alT]
    simp only [h1, h2, h6, hu, hs, hld, hx, hy, c0, c1, c2, c3, c4, c5, c6, c7, byteAt_bl hlt, wrap_succ (show i ≤ LIM by unfold LIM; omega), Int.natCast_nonneg, Int.toNat_natCast, decide_true, cond_true, Option.bind_some, Cod.encs_len, Die.eta]
    rw [show isFl (lb l) (mv s ((bl wd)[i].toNat : Int)).x (mv s ((bl wd)[i].toNat : Int)).y = isFl (lb l) (nxX s.x (dix ((bl wd)[i].toNat : Int))) (nxY s.y (dix ((bl wd)[i].toNat : Int))) from rfl]
    cases hp : isFl (lb l) (nxX s.x (dix ((bl wd)[i].toNat : Int))) (nxY s.y (dix ((bl wd)[i].toNat : Int))) with
    | false =>
      simp only [Bool.not_false, cond_true, cond_false, List.append_nil]
    | true =>
      obtain ⟨_, _, k1, k2⟩ := small_w hs
      obtain ⟨a1, a2⟩ := isFl_in (by rw [lb_len]; exact k1) k2 hp
      have step := ih (i + 1) m (mv s ((bl wd)[i].toNat : Int)) (pre ++ [s]) (by omega) (by omega) a1 a2 (by rw [List.length_append, List.length_singleton]; omega)
      rw [← stC_snoc, List.append_assoc (pre ++ [s]), List.singleton_append] at step
      simp only [Bool.not_true, cond_true, cond_false]
      exact step
def impl_grid_along.stub : Stub
  | [.one (.sl 1 es), .agg [.int .i64 x, .int .i64 y, .int .i64 t, .int .i64 n, .int .i64 e, .int .i64 s, .int .i64 w, .int .i64 b], .one (.str wd)] => .any (strC.decs es) fun l => .gd (Sp.unif (Sp.lb l)) (.gd (Sp.smallR l) (.gd (Sp.inR x 0 6) (.gd (Sp.inR y 0 6) (.gd (Sp.isWord wd) (.ret [.one (.sl 8 (stC.encs (Sp.alL (Sp.isFl (Sp.lb l)) ⟨x, y, ⟨t, n, e, s, w, b⟩⟩ wd)))])))))
  | _ => .fail
theorem impl_grid_along.ok : StubOk Tryd.prog C0 95 impl_grid_along.stub := by
  intro args res h
  unfold impl_grid_along.stub at h
  split at h
  · rename_i es x y t n e s w b wd
    obtain ⟨l, h1, h0⟩ := any_out h
    obtain ⟨rfl, hl⟩ := Cod.decs_inv h1
    obtain ⟨h2, h0⟩ := gd_out h0
    obtain ⟨h3, h0⟩ := gd_out h0
    obtain ⟨h5, h0⟩ := gd_out h0
    obtain ⟨h6, h0⟩ := gd_out h0
    obtain ⟨h7, h0⟩ := gd_out h0
    cases h0
    obtain ⟨k1, k2⟩ := isWord_out h7
    obtain ⟨N, hN⟩ : ∃ N, 64 ≤ N := ⟨64, Nat.le_refl _⟩
    refine impl_grid_along.ev (n := N) ?_
    have key := impl_grid_along.l3_run (n := N) h2 h3 h1 k1 wd.size 0 N ⟨x, y, ⟨t, n, e, s, w, b⟩⟩ [] (by omega) (by omega) h5 h6 rfl
    rw [List.drop_zero] at key
    exact key
  · cases h
end Go.Proofs.EV.PL
set_option linter.unusedVariables false
set_option linter.unusedSimpArgs false
/-! Ways; puzzles solved. -/
namespace Go.Proofs.EV.PL
open Go Go.Proofs Go.Proofs.EV Sp
theorem fl_eq {q : ByteArray} (hb : isBo brd q = true) : flC (boW brd q : Int) (boH brd q : Int) (boC brd q) = isFl (rws q) := by
  funext x y
  exact bo_fl hb x y
/-! spec_boWay -/
noncomputable def spec_boWay.cfg : Cfg := { C0 with keep := fun _ => none, nb := 0, M := tabM [(83, spec_boAsked.stub), (64, spec_diWord.stub), (93, spec_boAlong.stub)], MM := tabB [] }
noncomputable def spec_boWay.res (n : Nat) (a0 : ByteArray) (a1_0 : Int) (a1_1 : Int) (a1_2 : Int) (a1_3 : Int) (a1_4 : Int) (a1_5 : Int) (a1_6 : Int) (a1_7 : Int) (a2 : ByteArray) : Option (List Q) :=
  bif !(isBo brd a0 && (Die.good (Die.mk a1_2 a1_3 a1_4 a1_5 a1_6 a1_7) && isFl (rws a0) a1_0 a1_1)) then some [Q.one (D.sl (8 : Nat) []), Q.one (D.bool false)] else bif !isWord a2 then some [Q.one (D.sl (8 : Nat) []), Q.one (D.bool false)] else Option.bind (Cod.decs u8C (Cod.encs u8C (boC brd a0))) fun (l1 : List UInt8) => bif inR (↑(boW brd a0) : Int) (0 : Int) (7 : Int) then bif inR (↑(boH brd a0) : Int) (0 : Int) (7 : Int) then bif decide (List.length l1 = Int.toNat (↑(boW brd a0) : Int) * Int.toNat (↑(boH brd a0) : Int)) then bif inR a1_0 (0 : Int) (6 : Int) then bif inR a1_1 (0 : Int) (6 : Int) then bif isWord a2 then bif (↑(List.length (Cod.encs stC (alL (flC (↑(boW brd a0) : Int) (↑(boH brd a0) : Int) l1) (Sta.mk a1_0 a1_1 (Die.mk a1_2 a1_3 a1_4 a1_5 a1_6 a1_7)) a2))) : Int) != IntKind.wrap IntKind.i64 ((↑(ByteArray.size a2) : Int) + (1 : Int)) then some [Q.one (D.sl (8 : Nat) []), Q.one (D.bool false)] else some [Q.one (D.sl (8 : Nat) (Cod.encs stC (alL (flC (↑(boW brd a0) : Int) (↑(boH brd a0) : Int) l1) (Sta.mk a1_0 a1_1 (Die.mk a1_2 a1_3 a1_4 a1_5 a1_6 a1_7)) a2))), Q.one (D.bool true)] else none else none else none else none else none else none
theorem spec_boWay.run (n : Nat) (a0 : ByteArray) (a1_0 : Int) (a1_1 : Int) (a1_2 : Int) (a1_3 : Int) (a1_4 : Int) (a1_5 : Int) (a1_6 : Int) (a1_7 : Int) (a2 : ByteArray) :
    run1 spec_boWay.cfg [RK.own (8 : Nat), RK.one LK.bool] n Tryd.f65 [Q.one (D.str a0), Q.agg [D.int IntKind.i64 a1_0, D.int IntKind.i64 a1_1, D.int IntKind.i64 a1_2, D.int IntKind.i64 a1_3, D.int IntKind.i64 a1_4, D.int IntKind.i64 a1_5, D.int IntKind.i64 a1_6, D.int IntKind.i64 a1_7], Q.one (D.str a2)] = spec_boWay.res n a0 a1_0 a1_1 a1_2 a1_3 a1_4 a1_5 a1_6 a1_7 a2 := by kernel_rfl
theorem spec_boWay.ev {n : Nat} {a0 : ByteArray} {a1_0 : Int} {a1_1 : Int} {a1_2 : Int} {a1_3 : Int} {a1_4 : Int} {a1_5 : Int} {a1_6 : Int} {a1_7 : Int} {a2 : ByteArray} {r : List Q} (h : spec_boWay.res n a0 a1_0 a1_1 a1_2 a1_3 a1_4 a1_5 a1_6 a1_7 a2 = some r) : Snd Tryd.prog C0 65 [.one (.str a0), .agg [.int .i64 a1_0, .int .i64 a1_1, .int .i64 a1_2, .int .i64 a1_3, .int .i64 a1_4, .int .i64 a1_5, .int .i64 a1_6, .int .i64 a1_7], .one (.str a2)] r :=
  snd_ev (C := spec_boWay.cfg) cfg0 mix rfl rfl rfl rfl rfl (.cons spec_boAsked.ok (.cons spec_diWord.ok (.cons spec_boAlong.ok .nil))) .nil rfl Tryd.func65 (by kernel_rfl) (by kernel_rfl) rfl ((spec_boWay.run n a0 a1_0 a1_1 a1_2 a1_3 a1_4 a1_5 a1_6 a1_7 a2).trans h)

def spec_boWay.stub : Stub
  | [.one (.str q), .agg [.int .i64 x, .int .i64 y, .int .i64 t, .int .i64 n, .int .i64 e, .int .i64 s, .int .i64 w, .int .i64 b], .one (.str wd)] => .ret [.one (.sl 8 (stC.encs (Sp.wayL q ⟨x, y, ⟨t, n, e, s, w, b⟩⟩ wd))), .one (.bool (Sp.wayOk q ⟨x, y, ⟨t, n, e, s, w, b⟩⟩ wd))]
  | _ => .fail
theorem spec_boWay.ok : StubOk Tryd.prog C0 65 spec_boWay.stub := by
  intro args res h
  unfold spec_boWay.stub at h
  split at h
  · rename_i q x y t n e s w b wd
    cases h
    refine spec_boWay.ev (n := 0) ?_
    unfold spec_boWay.res wayL wayOk
    rw [show (isBo brd q && (Die.good ⟨t, n, e, s, w, b⟩ && isFl (rws q) x y)) = okSt q ⟨x, y, ⟨t, n, e, s, w, b⟩⟩ from rfl]
    cases ho : okSt q ⟨x, y, ⟨t, n, e, s, w, b⟩⟩ with
    | false => rfl
    | true =>
      cases hw : isWord wd with
      | false => rfl
      | true =>
        obtain ⟨hb, _, _, hx, hy⟩ := okSt_out ho
        obtain ⟨k1, _⟩ := isWord_out hw
        obtain ⟨e1, e2, e3, e4, e5, e6, e7⟩ := bo_ok hb
        have e6' : (boC brd q).length = (boW brd q : Int).toNat * (boH brd q : Int).toNat := by rw [Int.toNat_natCast, Int.toNat_natCast, e6]
        have hx : inR x 0 6 = true := hx
        have hy : inR y 0 6 = true := hy
        simp only [Bool.not_true, cond_false, cond_true, Cod.decs_encs e7, Option.bind_some, e4, e5, decide_eq_true e6', hx, hy, fl_eq hb, Cod.encs_len, wrap_succ (show wd.size ≤ LIM by unfold LIM; omega), bne_nat, Bool.true_and]
        by_cases hl : (alL (isFl (rws q)) ⟨x, y, ⟨t, n, e, s, w, b⟩⟩ wd).length = wd.size + 1
        · simp only [hl, ne_eq, not_true, decide_true, decide_false, cond_true, cond_false]
        · simp only [hl, ne_eq, not_false_iff, decide_true, decide_false, cond_true, cond_false]
          rfl
  · cases h
/-! impl_statesAlong -/
noncomputable def impl_statesAlong.cfg : Cfg := { C0 with keep := fun _ => none, nb := 0, M := tabM [(49, impl_onBoard.stub), (67, impl_IsRolls.stub), (95, impl_grid_along.stub)], MM := tabB [] }
noncomputable def impl_statesAlong.res (n : Nat) (a0 : ByteArray) (a1_0 : Int) (a1_1 : Int) (a1_2 : Int) (a1_3 : Int) (a1_4 : Int) (a1_5 : Int) (a1_6 : Int) (a1_7 : Int) (a2 : ByteArray) : Option (List Q) :=
  bif decide (ByteArray.size a0 < (17179869184 : Nat)) then bif !(isBo brd a0 && (Die.good (Die.mk a1_2 a1_3 a1_4 a1_5 a1_6 a1_7) && isFl (rws a0) a1_0 a1_1)) then some [Q.one (D.sl (8 : Nat) []), Q.one (D.bool false)] else bif !isWord a2 then some [Q.one (D.sl (8 : Nat) []), Q.one (D.bool false)] else Option.bind (Cod.decs strC (Cod.encs strC (gridI brd a0))) fun (l1 : List ByteArray) => bif unif (lb l1) then bif smallR l1 then bif inR a1_0 (0 : Int) (6 : Int) then bif inR a1_1 (0 : Int) (6 : Int) then bif isWord a2 then some [Q.one (D.sl (8 : Nat) (Cod.encs stC (alL (isFl (lb l1)) (Sta.mk a1_0 a1_1 (Die.mk a1_2 a1_3 a1_4 a1_5 a1_6 a1_7)) a2))), Q.one (D.bool ((↑(List.length (Cod.encs stC (alL (isFl (lb l1)) (Sta.mk a1_0 a1_1 (Die.mk a1_2 a1_3 a1_4 a1_5 a1_6 a1_7)) a2))) : Int) == IntKind.wrap IntKind.i64 ((↑(ByteArray.size a2) : Int) + (1 : Int))))] else none else none else none else none else none else none
theorem impl_statesAlong.run (n : Nat) (a0 : ByteArray) (a1_0 : Int) (a1_1 : Int) (a1_2 : Int) (a1_3 : Int) (a1_4 : Int) (a1_5 : Int) (a1_6 : Int) (a1_7 : Int) (a2 : ByteArray) :
    run1 impl_statesAlong.cfg [RK.own (8 : Nat), RK.one LK.bool] n Tryd.f68 [Q.one (D.str a0), Q.agg [D.int IntKind.i64 a1_0, D.int IntKind.i64 a1_1, D.int IntKind.i64 a1_2, D.int IntKind.i64 a1_3, D.int IntKind.i64 a1_4, D.int IntKind.i64 a1_5, D.int IntKind.i64 a1_6, D.int IntKind.i64 a1_7], Q.one (D.str a2)] = impl_statesAlong.res n a0 a1_0 a1_1 a1_2 a1_3 a1_4 a1_5 a1_6 a1_7 a2 := by kernel_rfl
theorem impl_statesAlong.ev {n : Nat} {a0 : ByteArray} {a1_0 : Int} {a1_1 : Int} {a1_2 : Int} {a1_3 : Int} {a1_4 : Int} {a1_5 : Int} {a1_6 : Int} {a1_7 : Int} {a2 : ByteArray} {r : List Q} (h : impl_statesAlong.res n a0 a1_0 a1_1 a1_2 a1_3 a1_4 a1_5 a1_6 a1_7 a2 = some r) : Snd Tryd.prog C0 68 [.one (.str a0), .agg [.int .i64 a1_0, .int .i64 a1_1, .int .i64 a1_2, .int .i64 a1_3, .int .i64 a1_4, .int .i64 a1_5, .int .i64 a1_6, .int .i64 a1_7], .one (.str a2)] r :=
  snd_ev (C := impl_statesAlong.cfg) cfg0 mix rfl rfl rfl rfl rfl (.cons impl_onBoard.ok (.cons impl_IsRolls.ok (.cons impl_grid_along.ok .nil))) .nil rfl Tryd.func68 (by kernel_rfl) (by kernel_rfl) rfl ((impl_statesAlong.run n a0 a1_0 a1_1 a1_2 a1_3 a1_4 a1_5 a1_6 a1_7 a2).trans h)

def impl_statesAlong.stub : Stub
  | [.one (.str q), .agg [.int .i64 x, .int .i64 y, .int .i64 t, .int .i64 n, .int .i64 e, .int .i64 s, .int .i64 w, .int .i64 b], .one (.str wd)] => .gd (decide (q.size < LIM)) (.ret [.one (.sl 8 (stC.encs (Sp.wayI q ⟨x, y, ⟨t, n, e, s, w, b⟩⟩ wd))), .one (.bool (Sp.wayOk q ⟨x, y, ⟨t, n, e, s, w, b⟩⟩ wd))])
  | _ => .fail
theorem impl_statesAlong.ok : StubOk Tryd.prog C0 68 impl_statesAlong.stub := by
  intro args res h
  unfold impl_statesAlong.stub at h
  split at h
  · rename_i q x y t n e s w b wd
    obtain ⟨hs, h0⟩ := gd_out h
    cases h0
    unfold LIM at hs
    refine impl_statesAlong.ev (n := 0) ?_
    unfold impl_statesAlong.res wayI wayOk
    rw [hs, show (isBo brd q && (Die.good ⟨t, n, e, s, w, b⟩ && isFl (rws q) x y)) = okSt q ⟨x, y, ⟨t, n, e, s, w, b⟩⟩ from rfl]
    cases ho : okSt q ⟨x, y, ⟨t, n, e, s, w, b⟩⟩ with
    | false => rfl
    | true =>
      cases hw : isWord wd with
      | false => rfl
      | true =>
        obtain ⟨hb, _, _, hx, hy⟩ := okSt_out ho
        obtain ⟨k1, _⟩ := isWord_out hw
        obtain ⟨g1, g2, g3, g4, g5, g6⟩ := Sp.gr_ok hb
        have hx : inR x 0 6 = true := hx
        have hy : inR y 0 6 = true := hy
        simp only [Bool.not_true, cond_false, cond_true, g5, Option.bind_some, g1, g2, small_gr hb, hx, hy, Cod.encs_len, wrap_succ (show wd.size ≤ LIM by unfold LIM; omega), Bool.true_and]
        congr 5
        rw [Bool.eq_iff_iff, beq_iff_eq, decide_eq_true_eq]
        omega
  · cases h
/-! spec_puDone -/
noncomputable def spec_puDone.cfg : Cfg := { C0 with keep := fun _ => none, nb := 0, M := tabM [], MM := tabB [] }
noncomputable def spec_puDone.res (n : Nat) (a0_0 : ByteArray) (a0_1 : Int) (a0_2 : Int) (a0_3 : Int) (a0_4 : Int) (a0_5 : Int) (a0_6 : Int) (a0_7 : Int) (a0_8 : Int) (a0_9 : Int) (a0_10 : Int) (a0_11 : Int) (a1_0 : Int) (a1_1 : Int) (a1_2 : Int) (a1_3 : Int) (a1_4 : Int) (a1_5 : Int) (a1_6 : Int) (a1_7 : Int) : Option (List Q) :=
  bif a1_0 == a0_9 then bif a1_1 == a0_10 then some [Q.one (D.bool (a1_2 == a0_11))] else some [Q.one (D.bool false)] else some [Q.one (D.bool false)]
theorem spec_puDone.run (n : Nat) (a0_0 : ByteArray) (a0_1 : Int) (a0_2 : Int) (a0_3 : Int) (a0_4 : Int) (a0_5 : Int) (a0_6 : Int) (a0_7 : Int) (a0_8 : Int) (a0_9 : Int) (a0_10 : Int) (a0_11 : Int) (a1_0 : Int) (a1_1 : Int) (a1_2 : Int) (a1_3 : Int) (a1_4 : Int) (a1_5 : Int) (a1_6 : Int) (a1_7 : Int) :
    run1 spec_puDone.cfg [RK.one LK.bool] n Tryd.f66 [Q.agg [D.str a0_0, D.int IntKind.i64 a0_1, D.int IntKind.i64 a0_2, D.int IntKind.i64 a0_3, D.int IntKind.i64 a0_4, D.int IntKind.i64 a0_5, D.int IntKind.i64 a0_6, D.int IntKind.i64 a0_7, D.int IntKind.i64 a0_8, D.int IntKind.i64 a0_9, D.int IntKind.i64 a0_10, D.int IntKind.i64 a0_11], Q.agg [D.int IntKind.i64 a1_0, D.int IntKind.i64 a1_1, D.int IntKind.i64 a1_2, D.int IntKind.i64 a1_3, D.int IntKind.i64 a1_4, D.int IntKind.i64 a1_5, D.int IntKind.i64 a1_6, D.int IntKind.i64 a1_7]] = spec_puDone.res n a0_0 a0_1 a0_2 a0_3 a0_4 a0_5 a0_6 a0_7 a0_8 a0_9 a0_10 a0_11 a1_0 a1_1 a1_2 a1_3 a1_4 a1_5 a1_6 a1_7 := by kernel_rfl
theorem spec_puDone.ev {n : Nat} {a0_0 : ByteArray} {a0_1 : Int} {a0_2 : Int} {a0_3 : Int} {a0_4 : Int} {a0_5 : Int} {a0_6 : Int} {a0_7 : Int} {a0_8 : Int} {a0_9 : Int} {a0_10 : Int} {a0_11 : Int} {a1_0 : Int} {a1_1 : Int} {a1_2 : Int} {a1_3 : Int} {a1_4 : Int} {a1_5 : Int} {a1_6 : Int} {a1_7 : Int} {r : List Q} (h : spec_puDone.res n a0_0 a0_1 a0_2 a0_3 a0_4 a0_5 a0_6 a0_7 a0_8 a0_9 a0_10 a0_11 a1_0 a1_1 a1_2 a1_3 a1_4 a1_5 a1_6 a1_7 = some r) : Snd Tryd.prog C0 66 [.agg [.str a0_0, .int .i64 a0_1, .int .i64 a0_2, .int .i64 a0_3, .int .i64 a0_4, .int .i64 a0_5, .int .i64 a0_6, .int .i64 a0_7, .int .i64 a0_8, .int .i64 a0_9, .int .i64 a0_10, .int .i64 a0_11], .agg [.int .i64 a1_0, .int .i64 a1_1, .int .i64 a1_2, .int .i64 a1_3, .int .i64 a1_4, .int .i64 a1_5, .int .i64 a1_6, .int .i64 a1_7]] r :=
  snd_ev (C := spec_puDone.cfg) cfg0 mix rfl rfl rfl rfl rfl .nil .nil rfl Tryd.func66 (by kernel_rfl) (by kernel_rfl) rfl ((spec_puDone.run n a0_0 a0_1 a0_2 a0_3 a0_4 a0_5 a0_6 a0_7 a0_8 a0_9 a0_10 a0_11 a1_0 a1_1 a1_2 a1_3 a1_4 a1_5 a1_6 a1_7).trans h)

def spec_puDone.stub : Stub
  | [.agg [.str q, .int .i64 x, .int .i64 y, .int .i64 t, .int .i64 n, .int .i64 e, .int .i64 s, .int .i64 w, .int .i64 b, .int .i64 px, .int .i64 py, .int .i64 pt], .agg [.int .i64 x', .int .i64 y', .int .i64 t', .int .i64 n', .int .i64 e', .int .i64 s', .int .i64 w', .int .i64 b']] => .ret [.one (.bool (Sp.doneS px py pt ⟨x', y', ⟨t', n', e', s', w', b'⟩⟩))]
  | _ => .fail
theorem spec_puDone.ok : StubOk Tryd.prog C0 66 spec_puDone.stub := by
  intro args res h
  unfold spec_puDone.stub at h
  split at h
  · rename_i q x y t n e s w b px py pt x' y' t' n' e' s' w' b'
    cases h
    refine spec_puDone.ev (n := 0) ?_
    unfold spec_puDone.res doneS
    simp only [ieq]
    cases decide (x' = px) <;> cases decide (y' = py) <;> rfl
  · cases h
/-! impl_State_isAt -/
noncomputable def impl_State_isAt.cfg : Cfg := { C0 with keep := fun _ => none, nb := 0, M := tabM [], MM := tabB [] }
noncomputable def impl_State_isAt.res (n : Nat) (a0_0 : Int) (a0_1 : Int) (a0_2 : Int) (a0_3 : Int) (a0_4 : Int) (a0_5 : Int) (a0_6 : Int) (a0_7 : Int) (a1 : Int) (a2 : Int) : Option (List Q) :=
  bif a0_0 == a1 then some [Q.one (D.bool (a0_1 == a2))] else some [Q.one (D.bool false)]
theorem impl_State_isAt.run (n : Nat) (a0_0 : Int) (a0_1 : Int) (a0_2 : Int) (a0_3 : Int) (a0_4 : Int) (a0_5 : Int) (a0_6 : Int) (a0_7 : Int) (a1 : Int) (a2 : Int) :
    run1 impl_State_isAt.cfg [RK.one LK.bool] n Tryd.f96 [Q.agg [D.int IntKind.i64 a0_0, D.int IntKind.i64 a0_1, D.int IntKind.i64 a0_2, D.int IntKind.i64 a0_3, D.int IntKind.i64 a0_4, D.int IntKind.i64 a0_5, D.int IntKind.i64 a0_6, D.int IntKind.i64 a0_7], Q.one (D.int IntKind.i64 a1), Q.one (D.int IntKind.i64 a2)] = impl_State_isAt.res n a0_0 a0_1 a0_2 a0_3 a0_4 a0_5 a0_6 a0_7 a1 a2 := by kernel_rfl
theorem impl_State_isAt.ev {n : Nat} {a0_0 : Int} {a0_1 : Int} {a0_2 : Int} {a0_3 : Int} {a0_4 : Int} {a0_5 : Int} {a0_6 : Int} {a0_7 : Int} {a1 : Int} {a2 : Int} {r : List Q} (h : impl_State_isAt.res n a0_0 a0_1 a0_2 a0_3 a0_4 a0_5 a0_6 a0_7 a1 a2 = some r) : Snd Tryd.prog C0 96 [.agg [.int .i64 a0_0, .int .i64 a0_1, .int .i64 a0_2, .int .i64 a0_3, .int .i64 a0_4, .int .i64 a0_5, .int .i64 a0_6, .int .i64 a0_7], .one (.int .i64 a1), .one (.int .i64 a2)] r :=
  snd_ev (C := impl_State_isAt.cfg) cfg0 mix rfl rfl rfl rfl rfl .nil .nil rfl Tryd.func96 (by kernel_rfl) (by kernel_rfl) rfl ((impl_State_isAt.run n a0_0 a0_1 a0_2 a0_3 a0_4 a0_5 a0_6 a0_7 a1 a2).trans h)

def impl_State_isAt.stub : Stub
  | [.agg [.int .i64 x, .int .i64 y, .int .i64 t, .int .i64 n, .int .i64 e, .int .i64 s, .int .i64 w, .int .i64 b], .one (.int .i64 px), .one (.int .i64 py)] => .ret [.one (.bool (decide (x = px) && decide (y = py)))]
  | _ => .fail
theorem impl_State_isAt.ok : StubOk Tryd.prog C0 96 impl_State_isAt.stub := by
  intro args res h
  unfold impl_State_isAt.stub at h
  split at h
  · rename_i x y t n e s w b px py
    cases h
    refine impl_State_isAt.ev (n := 0) ?_
    unfold impl_State_isAt.res
    simp only [ieq]
    cases decide (x = px) <;> rfl
  · cases h
/-! impl_Puzzle_isGoal -/
noncomputable def impl_Puzzle_isGoal.cfg : Cfg := { C0 with keep := fun _ => none, nb := 0, M := tabM [(96, impl_State_isAt.stub)], MM := tabB [] }
noncomputable def impl_Puzzle_isGoal.res (n : Nat) (a0_0 : ByteArray) (a0_1 : Int) (a0_2 : Int) (a0_3 : Int) (a0_4 : Int) (a0_5 : Int) (a0_6 : Int) (a0_7 : Int) (a0_8 : Int) (a0_9 : Int) (a0_10 : Int) (a0_11 : Int) (a1_0 : Int) (a1_1 : Int) (a1_2 : Int) (a1_3 : Int) (a1_4 : Int) (a1_5 : Int) (a1_6 : Int) (a1_7 : Int) : Option (List Q) :=
  bif decide (a1_0 = a0_9) && decide (a1_1 = a0_10) then some [Q.one (D.bool (a1_2 == a0_11))] else some [Q.one (D.bool false)]
theorem impl_Puzzle_isGoal.run (n : Nat) (a0_0 : ByteArray) (a0_1 : Int) (a0_2 : Int) (a0_3 : Int) (a0_4 : Int) (a0_5 : Int) (a0_6 : Int) (a0_7 : Int) (a0_8 : Int) (a0_9 : Int) (a0_10 : Int) (a0_11 : Int) (a1_0 : Int) (a1_1 : Int) (a1_2 : Int) (a1_3 : Int) (a1_4 : Int) (a1_5 : Int) (a1_6 : Int) (a1_7 : Int) :
    run1 impl_Puzzle_isGoal.cfg [RK.one LK.bool] n Tryd.f69 [Q.agg [D.str a0_0, D.int IntKind.i64 a0_1, D.int IntKind.i64 a0_2, D.int IntKind.i64 a0_3, D.int IntKind.i64 a0_4, D.int IntKind.i64 a0_5, D.int IntKind.i64 a0_6, D.int IntKind.i64 a0_7, D.int IntKind.i64 a0_8, D.int IntKind.i64 a0_9, D.int IntKind.i64 a0_10, D.int IntKind.i64 a0_11], Q.agg [D.int IntKind.i64 a1_0, D.int IntKind.i64 a1_1, D.int IntKind.i64 a1_2, D.int IntKind.i64 a1_3, D.int IntKind.i64 a1_4, D.int IntKind.i64 a1_5, D.int IntKind.i64 a1_6, D.int IntKind.i64 a1_7]] = impl_Puzzle_isGoal.res n a0_0 a0_1 a0_2 a0_3 a0_4 a0_5 a0_6 a0_7 a0_8 a0_9 a0_10 a0_11 a1_0 a1_1 a1_2 a1_3 a1_4 a1_5 a1_6 a1_7 := by kernel_rfl
theorem impl_Puzzle_isGoal.ev {n : Nat} {a0_0 : ByteArray} {a0_1 : Int} {a0_2 : Int} {a0_3 : Int} {a0_4 : Int} {a0_5 : Int} {a0_6 : Int} {a0_7 : Int} {a0_8 : Int} {a0_9 : Int} {a0_10 : Int} {a0_11 : Int} {a1_0 : Int} {a1_1 : Int} {a1_2 : Int} {a1_3 : Int} {a1_4 : Int} {a1_5 : Int} {a1_6 : Int} {a1_7 : Int} {r : List Q} (h : impl_Puzzle_isGoal.res n a0_0 a0_1 a0_2 a0_3 a0_4 a0_5 a0_6 a0_7 a0_8 a0_9 a0_10 a0_11 a1_0 a1_1 a1_2 a1_3 a1_4 a1_5 a1_6 a1_7 = some r) : Snd Tryd.prog C0 69 [.agg [.str a0_0, .int .i64 a0_1, .int .i64 a0_2, .int .i64 a0_3, .int .i64 a0_4, .int .i64 a0_5, .int .i64 a0_6, .int .i64 a0_7, .int .i64 a0_8, .int .i64 a0_9, .int .i64 a0_10, .int .i64 a0_11], .agg [.int .i64 a1_0, .int .i64 a1_1, .int .i64 a1_2, .int .i64 a1_3, .int .i64 a1_4, .int .i64 a1_5, .int .i64 a1_6, .int .i64 a1_7]] r :=
  snd_ev (C := impl_Puzzle_isGoal.cfg) cfg0 mix rfl rfl rfl rfl rfl (.cons impl_State_isAt.ok .nil) .nil rfl Tryd.func69 (by kernel_rfl) (by kernel_rfl) rfl ((impl_Puzzle_isGoal.run n a0_0 a0_1 a0_2 a0_3 a0_4 a0_5 a0_6 a0_7 a0_8 a0_9 a0_10 a0_11 a1_0 a1_1 a1_2 a1_3 a1_4 a1_5 a1_6 a1_7).trans h)

def impl_Puzzle_isGoal.stub : Stub
  | [.agg [.str q, .int .i64 x, .int .i64 y, .int .i64 t, .int .i64 n, .int .i64 e, .int .i64 s, .int .i64 w, .int .i64 b, .int .i64 px, .int .i64 py, .int .i64 pt], .agg [.int .i64 x', .int .i64 y', .int .i64 t', .int .i64 n', .int .i64 e', .int .i64 s', .int .i64 w', .int .i64 b']] => .ret [.one (.bool (Sp.doneS px py pt ⟨x', y', ⟨t', n', e', s', w', b'⟩⟩))]
  | _ => .fail
theorem impl_Puzzle_isGoal.ok : StubOk Tryd.prog C0 69 impl_Puzzle_isGoal.stub := by
  intro args res h
  unfold impl_Puzzle_isGoal.stub at h
  split at h
  · rename_i q x y t n e s w b px py pt x' y' t' n' e' s' w' b'
    cases h
    refine impl_Puzzle_isGoal.ev (n := 0) ?_
    unfold impl_Puzzle_isGoal.res doneS
    simp only [ieq]
    cases decide (x' = px) <;> cases decide (y' = py) <;> rfl
  · cases h
/-! spec_IsSolvedBy -/
noncomputable def spec_IsSolvedBy.cfg : Cfg := { C0 with keep := fun _ => none, nb := 0, M := tabM [(50, spec_puGood.stub), (64, spec_diWord.stub), (65, spec_boWay.stub), (66, spec_puDone.stub)], MM := tabB [] }
noncomputable def spec_IsSolvedBy.res (n : Nat) (a0_0 : ByteArray) (a0_1 : Int) (a0_2 : Int) (a0_3 : Int) (a0_4 : Int) (a0_5 : Int) (a0_6 : Int) (a0_7 : Int) (a0_8 : Int) (a0_9 : Int) (a0_10 : Int) (a0_11 : Int) (a1 : ByteArray) : Option (List Q) :=
  bif !(isBo brd a0_0 && (Die.good (Die.mk a0_3 a0_4 a0_5 a0_6 a0_7 a0_8) && isFl (rws a0_0) a0_1 a0_2) && (isFl (rws a0_0) a0_9 a0_10 && inR a0_11 (0 : Int) (9 : Int))) then some [Q.one (D.bool false), Q.one (D.bool false)] else bif !isWord a1 then some [Q.one (D.bool false), Q.one (D.bool false)] else bif wayOk a0_0 (Sta.mk a0_1 a0_2 (Die.mk a0_3 a0_4 a0_5 a0_6 a0_7 a0_8)) a1 then bif decide ((0 : Int) ≤ IntKind.wrap IntKind.i64 ((↑(List.length (Cod.encs stC (wayL a0_0 (Sta.mk a0_1 a0_2 (Die.mk a0_3 a0_4 a0_5 a0_6 a0_7 a0_8)) a1))) : Int) - (1 : Int))) then bif decide (IntKind.wrap IntKind.i64 ((↑(List.length (Cod.encs stC (wayL a0_0 (Sta.mk a0_1 a0_2 (Die.mk a0_3 a0_4 a0_5 a0_6 a0_7 a0_8)) a1))) : Int) - (1 : Int)) < (↑(List.length (Cod.encs stC (wayL a0_0 (Sta.mk a0_1 a0_2 (Die.mk a0_3 a0_4 a0_5 a0_6 a0_7 a0_8)) a1))) : Int)) then Option.bind (Option.bind (some (cellD (Cod.encs stC (wayL a0_0 (Sta.mk a0_1 a0_2 (Die.mk a0_3 a0_4 a0_5 a0_6 a0_7 a0_8)) a1)) (Int.toNat (IntKind.wrap IntKind.i64 ((↑(List.length (Cod.encs stC (wayL a0_0 (Sta.mk a0_1 a0_2 (Die.mk a0_3 a0_4 a0_5 a0_6 a0_7 a0_8)) a1))) : Int) - (1 : Int)))) (0 : Nat))) (D.int? IntKind.i64)) fun (i1 : Int) => Option.bind (Option.bind (some (cellD (Cod.encs stC (wayL a0_0 (Sta.mk a0_1 a0_2 (Die.mk a0_3 a0_4 a0_5 a0_6 a0_7 a0_8)) a1)) (Int.toNat (IntKind.wrap IntKind.i64 ((↑(List.length (Cod.encs stC (wayL a0_0 (Sta.mk a0_1 a0_2 (Die.mk a0_3 a0_4 a0_5 a0_6 a0_7 a0_8)) a1))) : Int) - (1 : Int)))) (1 : Nat))) (D.int? IntKind.i64)) fun (i2 : Int) => Option.bind (Option.bind (some (cellD (Cod.encs stC (wayL a0_0 (Sta.mk a0_1 a0_2 (Die.mk a0_3 a0_4 a0_5 a0_6 a0_7 a0_8)) a1)) (Int.toNat (IntKind.wrap IntKind.i64 ((↑(List.length (Cod.encs stC (wayL a0_0 (Sta.mk a0_1 a0_2 (Die.mk a0_3 a0_4 a0_5 a0_6 a0_7 a0_8)) a1))) : Int) - (1 : Int)))) (2 : Nat))) (D.int? IntKind.i64)) fun (i3 : Int) => Option.bind (Option.bind (some (cellD (Cod.encs stC (wayL a0_0 (Sta.mk a0_1 a0_2 (Die.mk a0_3 a0_4 a0_5 a0_6 a0_7 a0_8)) a1)) (Int.toNat (IntKind.wrap IntKind.i64 ((↑(List.length (Cod.encs stC (wayL a0_0 (Sta.mk a0_1 a0_2 (Die.mk a0_3 a0_4 a0_5 a0_6 a0_7 a0_8)) a1))) : Int) - (1 : Int)))) (3 : Nat))) (D.int? IntKind.i64)) fun (i4 : Int) => Option.bind (Option.bind (some (cellD (Cod.encs stC (wayL a0_0 (Sta.mk a0_1 a0_2 (Die.mk a0_3 a0_4 a0_5 a0_6 a0_7 a0_8)) a1)) (Int.toNat (IntKind.wrap IntKind.i64 ((↑(List.length (Cod.encs stC (wayL a0_0 (Sta.mk a0_1 a0_2 (Die.mk a0_3 a0_4 a0_5 a0_6 a0_7 a0_8)) a1))) : Int) - (1 : Int)))) (4 : Nat))) (D.int? IntKind.i64)) fun (i5 : Int) => Option.bind (Option.bind (some (cellD (Cod.encs stC (wayL a0_0 (Sta.mk a0_1 a0_2 (Die.mk a0_3 a0_4 a0_5 a0_6 a0_7 a0_8)) a1)) (Int.toNat (IntKind.wrap IntKind.i64 ((↑(List.length (Cod.encs stC (wayL a0_0 (Sta.mk a0_1 a0_2 (Die.mk a0_3 a0_4 a0_5 a0_6 a0_7 a0_8)) a1))) : Int) - (1 : Int)))) (5 : Nat))) (D.int? IntKind.i64)) fun (i6 : Int) => Option.bind (Option.bind (some (cellD (Cod.encs stC (wayL a0_0 (Sta.mk a0_1 a0_2 (Die.mk a0_3 a0_4 a0_5 a0_6 a0_7 a0_8)) a1)) (Int.toNat (IntKind.wrap IntKind.i64 ((↑(List.length (Cod.encs stC (wayL a0_0 (Sta.mk a0_1 a0_2 (Die.mk a0_3 a0_4 a0_5 a0_6 a0_7 a0_8)) a1))) : Int) - (1 : Int)))) (6 : Nat))) (D.int? IntKind.i64)) fun (i7 : Int) => Option.bind (Option.bind (some (cellD (Cod.encs stC (wayL a0_0 (Sta.mk a0_1 a0_2 (Die.mk a0_3 a0_4 a0_5 a0_6 a0_7 a0_8)) a1)) (Int.toNat (IntKind.wrap IntKind.i64 ((↑(List.length (Cod.encs stC (wayL a0_0 (Sta.mk a0_1 a0_2 (Die.mk a0_3 a0_4 a0_5 a0_6 a0_7 a0_8)) a1))) : Int) - (1 : Int)))) (7 : Nat))) (D.int? IntKind.i64)) fun (i8 : Int) => some [Q.one (D.bool (doneS a0_9 a0_10 a0_11 (Sta.mk i1 i2 (Die.mk i3 i4 i5 i6 i7 i8)))), Q.one (D.bool true)] else none else none else some [Q.one (D.bool false), Q.one (D.bool true)]
theorem spec_IsSolvedBy.run (n : Nat) (a0_0 : ByteArray) (a0_1 : Int) (a0_2 : Int) (a0_3 : Int) (a0_4 : Int) (a0_5 : Int) (a0_6 : Int) (a0_7 : Int) (a0_8 : Int) (a0_9 : Int) (a0_10 : Int) (a0_11 : Int) (a1 : ByteArray) :
    run1 spec_IsSolvedBy.cfg [RK.one LK.bool, RK.one LK.bool] n Tryd.f31 [Q.agg [D.str a0_0, D.int IntKind.i64 a0_1, D.int IntKind.i64 a0_2, D.int IntKind.i64 a0_3, D.int IntKind.i64 a0_4, D.int IntKind.i64 a0_5, D.int IntKind.i64 a0_6, D.int IntKind.i64 a0_7, D.int IntKind.i64 a0_8, D.int IntKind.i64 a0_9, D.int IntKind.i64 a0_10, D.int IntKind.i64 a0_11], Q.one (D.str a1)] = spec_IsSolvedBy.res n a0_0 a0_1 a0_2 a0_3 a0_4 a0_5 a0_6 a0_7 a0_8 a0_9 a0_10 a0_11 a1 := by kernel_rfl
theorem spec_IsSolvedBy.ev {n : Nat} {a0_0 : ByteArray} {a0_1 : Int} {a0_2 : Int} {a0_3 : Int} {a0_4 : Int} {a0_5 : Int} {a0_6 : Int} {a0_7 : Int} {a0_8 : Int} {a0_9 : Int} {a0_10 : Int} {a0_11 : Int} {a1 : ByteArray} {r : List Q} (h : spec_IsSolvedBy.res n a0_0 a0_1 a0_2 a0_3 a0_4 a0_5 a0_6 a0_7 a0_8 a0_9 a0_10 a0_11 a1 = some r) : Snd Tryd.prog C0 31 [.agg [.str a0_0, .int .i64 a0_1, .int .i64 a0_2, .int .i64 a0_3, .int .i64 a0_4, .int .i64 a0_5, .int .i64 a0_6, .int .i64 a0_7, .int .i64 a0_8, .int .i64 a0_9, .int .i64 a0_10, .int .i64 a0_11], .one (.str a1)] r :=
  snd_ev (C := spec_IsSolvedBy.cfg) cfg0 mix rfl rfl rfl rfl rfl (.cons spec_puGood.ok (.cons spec_diWord.ok (.cons spec_boWay.ok (.cons spec_puDone.ok .nil)))) .nil rfl Tryd.func31 (by kernel_rfl) (by kernel_rfl) rfl ((spec_IsSolvedBy.run n a0_0 a0_1 a0_2 a0_3 a0_4 a0_5 a0_6 a0_7 a0_8 a0_9 a0_10 a0_11 a1).trans h)

def spec_IsSolvedBy.stub : Stub
  | [.agg [.str q, .int .i64 x, .int .i64 y, .int .i64 t, .int .i64 n, .int .i64 e, .int .i64 s, .int .i64 w, .int .i64 b, .int .i64 px, .int .i64 py, .int .i64 pt], .one (.str wd)] => .ret [.one (.bool (Sp.pzOk q ⟨x, y, ⟨t, n, e, s, w, b⟩⟩ px py pt && Sp.isWord wd && Sp.solved q ⟨x, y, ⟨t, n, e, s, w, b⟩⟩ px py pt wd)), .one (.bool (Sp.pzOk q ⟨x, y, ⟨t, n, e, s, w, b⟩⟩ px py pt && Sp.isWord wd))]
  | _ => .fail
theorem spec_IsSolvedBy.ok : StubOk Tryd.prog C0 31 spec_IsSolvedBy.stub := by
  intro args res h
  unfold spec_IsSolvedBy.stub at h
  split at h
  · rename_i q x y t n e s w b px py pt wd
    cases h
    refine spec_IsSolvedBy.ev (n := 0) ?_
    unfold spec_IsSolvedBy.res solved
    rw [show (isBo brd q && (Die.good ⟨t, n, e, s, w, b⟩ && isFl (rws q) x y) && (isFl (rws q) px py && inR pt 0 9)) = pzOk q ⟨x, y, ⟨t, n, e, s, w, b⟩⟩ px py pt from rfl]
    cases pzOk q ⟨x, y, ⟨t, n, e, s, w, b⟩⟩ px py pt with
    | false => rfl
    | true =>
      cases isWord wd with
      | false => rfl
      | true =>
        cases hk : wayOk q ⟨x, y, ⟨t, n, e, s, w, b⟩⟩ wd with
        | false => rfl
        | true =>
          obtain ⟨h1, h2, h3, h4, h5⟩ := way_out hk
          obtain ⟨k1, _⟩ := isWord_out h2
          have hlt : wd.size < (alL (isFl (rws q)) ⟨x, y, ⟨t, n, e, s, w, b⟩⟩ wd).length := by omega
          have ew : IntKind.wrap .i64 (((wd.size + 1 : Nat) : Int) - 1) = ((wd.size : Nat) : Int) := by rw [wrap_in (by omega) (by omega)]; omega
          have hlt' : ((wd.size : Nat) : Int) < ((wd.size + 1 : Nat) : Int) := by omega
          obtain ⟨c0, c1, c2, c3, c4, c5, c6, c7⟩ := st_cells hlt
          simp only [Bool.not_true, cond_false, cond_true, h4, Cod.encs_len, h3, ew, hlt', Int.natCast_nonneg, decide_true, Int.toNat_natCast, c0, c1, c2, c3, c4, c5, c6, c7, Option.bind_some, Bool.true_and]
          rw [List.getD_eq_getElem?_getD, List.getElem?_eq_getElem hlt]
          rfl
  · cases h
/-! impl_IsSolvedBy -/
noncomputable def impl_IsSolvedBy.cfg : Cfg := { C0 with keep := fun _ => none, nb := 0, M := tabM [(22, impl_IsPuzzle.stub), (67, impl_IsRolls.stub), (68, impl_statesAlong.stub), (69, impl_Puzzle_isGoal.stub)], MM := tabB [] }
noncomputable def impl_IsSolvedBy.res (n : Nat) (a0_0 : ByteArray) (a0_1 : Int) (a0_2 : Int) (a0_3 : Int) (a0_4 : Int) (a0_5 : Int) (a0_6 : Int) (a0_7 : Int) (a0_8 : Int) (a0_9 : Int) (a0_10 : Int) (a0_11 : Int) (a1 : ByteArray) : Option (List Q) :=
  bif decide (ByteArray.size a0_0 < (17179869184 : Nat)) then bif !(isBo brd a0_0 && (Die.good (Die.mk a0_3 a0_4 a0_5 a0_6 a0_7 a0_8) && isFl (rws a0_0) a0_1 a0_2) && (isFl (rws a0_0) a0_9 a0_10 && inR a0_11 (0 : Int) (9 : Int))) then some [Q.one (D.bool false), Q.one (D.bool false)] else bif !isWord a1 then some [Q.one (D.bool false), Q.one (D.bool false)] else bif decide (ByteArray.size a0_0 < (17179869184 : Nat)) then bif wayOk a0_0 (Sta.mk a0_1 a0_2 (Die.mk a0_3 a0_4 a0_5 a0_6 a0_7 a0_8)) a1 then bif decide ((↑(ByteArray.size a1) : Int) < (↑(List.length (Cod.encs stC (wayI a0_0 (Sta.mk a0_1 a0_2 (Die.mk a0_3 a0_4 a0_5 a0_6 a0_7 a0_8)) a1))) : Int)) then Option.bind (Option.bind (some (cellD (Cod.encs stC (wayI a0_0 (Sta.mk a0_1 a0_2 (Die.mk a0_3 a0_4 a0_5 a0_6 a0_7 a0_8)) a1)) (Int.toNat (↑(ByteArray.size a1) : Int)) (0 : Nat))) (D.int? IntKind.i64)) fun (i1 : Int) => Option.bind (Option.bind (some (cellD (Cod.encs stC (wayI a0_0 (Sta.mk a0_1 a0_2 (Die.mk a0_3 a0_4 a0_5 a0_6 a0_7 a0_8)) a1)) (Int.toNat (↑(ByteArray.size a1) : Int)) (1 : Nat))) (D.int? IntKind.i64)) fun (i2 : Int) => Option.bind (Option.bind (some (cellD (Cod.encs stC (wayI a0_0 (Sta.mk a0_1 a0_2 (Die.mk a0_3 a0_4 a0_5 a0_6 a0_7 a0_8)) a1)) (Int.toNat (↑(ByteArray.size a1) : Int)) (2 : Nat))) (D.int? IntKind.i64)) fun (i3 : Int) => Option.bind (Option.bind (some (cellD (Cod.encs stC (wayI a0_0 (Sta.mk a0_1 a0_2 (Die.mk a0_3 a0_4 a0_5 a0_6 a0_7 a0_8)) a1)) (Int.toNat (↑(ByteArray.size a1) : Int)) (3 : Nat))) (D.int? IntKind.i64)) fun (i4 : Int) => Option.bind (Option.bind (some (cellD (Cod.encs stC (wayI a0_0 (Sta.mk a0_1 a0_2 (Die.mk a0_3 a0_4 a0_5 a0_6 a0_7 a0_8)) a1)) (Int.toNat (↑(ByteArray.size a1) : Int)) (4 : Nat))) (D.int? IntKind.i64)) fun (i5 : Int) => Option.bind (Option.bind (some (cellD (Cod.encs stC (wayI a0_0 (Sta.mk a0_1 a0_2 (Die.mk a0_3 a0_4 a0_5 a0_6 a0_7 a0_8)) a1)) (Int.toNat (↑(ByteArray.size a1) : Int)) (5 : Nat))) (D.int? IntKind.i64)) fun (i6 : Int) => Option.bind (Option.bind (some (cellD (Cod.encs stC (wayI a0_0 (Sta.mk a0_1 a0_2 (Die.mk a0_3 a0_4 a0_5 a0_6 a0_7 a0_8)) a1)) (Int.toNat (↑(ByteArray.size a1) : Int)) (6 : Nat))) (D.int? IntKind.i64)) fun (i7 : Int) => Option.bind (Option.bind (some (cellD (Cod.encs stC (wayI a0_0 (Sta.mk a0_1 a0_2 (Die.mk a0_3 a0_4 a0_5 a0_6 a0_7 a0_8)) a1)) (Int.toNat (↑(ByteArray.size a1) : Int)) (7 : Nat))) (D.int? IntKind.i64)) fun (i8 : Int) => some [Q.one (D.bool (doneS a0_9 a0_10 a0_11 (Sta.mk i1 i2 (Die.mk i3 i4 i5 i6 i7 i8)))), Q.one (D.bool true)] else none else some [Q.one (D.bool false), Q.one (D.bool true)] else none else none
theorem impl_IsSolvedBy.run (n : Nat) (a0_0 : ByteArray) (a0_1 : Int) (a0_2 : Int) (a0_3 : Int) (a0_4 : Int) (a0_5 : Int) (a0_6 : Int) (a0_7 : Int) (a0_8 : Int) (a0_9 : Int) (a0_10 : Int) (a0_11 : Int) (a1 : ByteArray) :
    run1 impl_IsSolvedBy.cfg [RK.one LK.bool, RK.one LK.bool] n Tryd.f32 [Q.agg [D.str a0_0, D.int IntKind.i64 a0_1, D.int IntKind.i64 a0_2, D.int IntKind.i64 a0_3, D.int IntKind.i64 a0_4, D.int IntKind.i64 a0_5, D.int IntKind.i64 a0_6, D.int IntKind.i64 a0_7, D.int IntKind.i64 a0_8, D.int IntKind.i64 a0_9, D.int IntKind.i64 a0_10, D.int IntKind.i64 a0_11], Q.one (D.str a1)] = impl_IsSolvedBy.res n a0_0 a0_1 a0_2 a0_3 a0_4 a0_5 a0_6 a0_7 a0_8 a0_9 a0_10 a0_11 a1 := by kernel_rfl
theorem impl_IsSolvedBy.ev {n : Nat} {a0_0 : ByteArray} {a0_1 : Int} {a0_2 : Int} {a0_3 : Int} {a0_4 : Int} {a0_5 : Int} {a0_6 : Int} {a0_7 : Int} {a0_8 : Int} {a0_9 : Int} {a0_10 : Int} {a0_11 : Int} {a1 : ByteArray} {r : List Q} (h : impl_IsSolvedBy.res n a0_0 a0_1 a0_2 a0_3 a0_4 a0_5 a0_6 a0_7 a0_8 a0_9 a0_10 a0_11 a1 = some r) : Snd Tryd.prog C0 32 [.agg [.str a0_0, .int .i64 a0_1, .int .i64 a0_2, .int .i64 a0_3, .int .i64 a0_4, .int .i64 a0_5, .int .i64 a0_6, .int .i64 a0_7, .int .i64 a0_8, .int .i64 a0_9, .int .i64 a0_10, .int .i64 a0_11], .one (.str a1)] r :=
  snd_ev (C := impl_IsSolvedBy.cfg) cfg0 mix rfl rfl rfl rfl rfl (.cons impl_IsPuzzle.ok (.cons impl_IsRolls.ok (.cons impl_statesAlong.ok (.cons impl_Puzzle_isGoal.ok .nil)))) .nil rfl Tryd.func32 (by kernel_rfl) (by kernel_rfl) rfl ((impl_IsSolvedBy.run n a0_0 a0_1 a0_2 a0_3 a0_4 a0_5 a0_6 a0_7 a0_8 a0_9 a0_10 a0_11 a1).trans h)

def impl_IsSolvedBy.stub : Stub
  | [.agg [.str q, .int .i64 x, .int .i64 y, .int .i64 t, .int .i64 n, .int .i64 e, .int .i64 s, .int .i64 w, .int .i64 b, .int .i64 px, .int .i64 py, .int .i64 pt], .one (.str wd)] => .gd (decide (q.size < LIM)) (.ret [.one (.bool (Sp.pzOk q ⟨x, y, ⟨t, n, e, s, w, b⟩⟩ px py pt && Sp.isWord wd && Sp.solved q ⟨x, y, ⟨t, n, e, s, w, b⟩⟩ px py pt wd)), .one (.bool (Sp.pzOk q ⟨x, y, ⟨t, n, e, s, w, b⟩⟩ px py pt && Sp.isWord wd))])
  | _ => .fail
theorem impl_IsSolvedBy.ok : StubOk Tryd.prog C0 32 impl_IsSolvedBy.stub := by
  intro args res h
  unfold impl_IsSolvedBy.stub at h
  split at h
  · rename_i q x y t n e s w b px py pt wd
    obtain ⟨hs, h0⟩ := gd_out h
    cases h0
    unfold LIM at hs
    refine impl_IsSolvedBy.ev (n := 0) ?_
    unfold impl_IsSolvedBy.res solved
    rw [hs, show (isBo brd q && (Die.good ⟨t, n, e, s, w, b⟩ && isFl (rws q) x y) && (isFl (rws q) px py && inR pt 0 9)) = pzOk q ⟨x, y, ⟨t, n, e, s, w, b⟩⟩ px py pt from rfl]
    cases pzOk q ⟨x, y, ⟨t, n, e, s, w, b⟩⟩ px py pt with
    | false => rfl
    | true =>
      cases isWord wd with
      | false => rfl
      | true =>
        cases hk : wayOk q ⟨x, y, ⟨t, n, e, s, w, b⟩⟩ wd with
        | false => rfl
        | true =>
          obtain ⟨h1, h2, h3, h4, h5⟩ := way_out hk
          have hlt : wd.size < (alL (isFl (rws q)) ⟨x, y, ⟨t, n, e, s, w, b⟩⟩ wd).length := by omega
          have hlt' : ((wd.size : Nat) : Int) < ((wd.size + 1 : Nat) : Int) := by omega
          obtain ⟨c0, c1, c2, c3, c4, c5, c6, c7⟩ := st_cells hlt
          simp only [Bool.not_true, cond_false, cond_true, h5, Cod.encs_len, h3, hlt', Int.natCast_nonneg, decide_true, Int.toNat_natCast, c0, c1, c2, c3, c4, c5, c6, c7, Option.bind_some, Bool.true_and]
          rw [List.getD_eq_getElem?_getD, List.getElem?_eq_getElem hlt]
          rfl
  · cases h
/-! laws_FnExactIsSolvedBy -/
noncomputable def laws_FnExactIsSolvedBy.cfg : Cfg := { C0 with keep := fun _ => none, nb := 0, M := tabM [(19, laws_szPuzzle.stub), (21, laws_toPuzzle.stub), (31, spec_IsSolvedBy.stub), (32, impl_IsSolvedBy.stub)], MM := tabB [] }
noncomputable def laws_FnExactIsSolvedBy.res (n : Nat) (a0_0 : ByteArray) (a0_1 : Int) (a0_2 : Int) (a0_3 : Int) (a0_4 : Int) (a0_5 : Int) (a0_6 : Int) (a0_7 : Int) (a0_8 : Int) (a0_9 : Int) (a0_10 : Int) (a0_11 : Int) (a1 : ByteArray) : Option (List Q) :=
  bif decide ((↑(ByteArray.size a1) : Int) > (1048576 : Int)) then some [Q.one (D.bool true)] else bif decide (ByteArray.size a0_0 ≤ (9223372036854775807 : Nat)) then bif decide ((bif decide (ByteArray.size a0_0 ≤ (1048576 : Nat)) then (1048576 : Int) - (↑(ByteArray.size a0_0) : Int) else (-1 : Int)) < (0 : Int)) then some [Q.one (D.bool true)] else bif decide (ByteArray.size a0_0 < (17179869184 : Nat)) then bif !(pzOk a0_0 (Sta.mk a0_1 a0_2 (Die.mk a0_3 a0_4 a0_5 a0_6 a0_7 a0_8)) a0_9 a0_10 a0_11 && isWord a1 && solved a0_0 (Sta.mk a0_1 a0_2 (Die.mk a0_3 a0_4 a0_5 a0_6 a0_7 a0_8)) a0_9 a0_10 a0_11 a1) == (pzOk a0_0 (Sta.mk a0_1 a0_2 (Die.mk a0_3 a0_4 a0_5 a0_6 a0_7 a0_8)) a0_9 a0_10 a0_11 && isWord a1 && solved a0_0 (Sta.mk a0_1 a0_2 (Die.mk a0_3 a0_4 a0_5 a0_6 a0_7 a0_8)) a0_9 a0_10 a0_11 a1) then some [Q.one (D.bool false)] else bif !(pzOk a0_0 (Sta.mk a0_1 a0_2 (Die.mk a0_3 a0_4 a0_5 a0_6 a0_7 a0_8)) a0_9 a0_10 a0_11 && isWord a1) == (pzOk a0_0 (Sta.mk a0_1 a0_2 (Die.mk a0_3 a0_4 a0_5 a0_6 a0_7 a0_8)) a0_9 a0_10 a0_11 && isWord a1) then some [Q.one (D.bool false)] else some [Q.one (D.bool true)] else none else none
theorem laws_FnExactIsSolvedBy.run (n : Nat) (a0_0 : ByteArray) (a0_1 : Int) (a0_2 : Int) (a0_3 : Int) (a0_4 : Int) (a0_5 : Int) (a0_6 : Int) (a0_7 : Int) (a0_8 : Int) (a0_9 : Int) (a0_10 : Int) (a0_11 : Int) (a1 : ByteArray) :
    run1 laws_FnExactIsSolvedBy.cfg [RK.one LK.bool] n Tryd.f9 [Q.agg [D.str a0_0, D.int IntKind.i64 a0_1, D.int IntKind.i64 a0_2, D.int IntKind.i64 a0_3, D.int IntKind.i64 a0_4, D.int IntKind.i64 a0_5, D.int IntKind.i64 a0_6, D.int IntKind.i64 a0_7, D.int IntKind.i64 a0_8, D.int IntKind.i64 a0_9, D.int IntKind.i64 a0_10, D.int IntKind.i64 a0_11], Q.one (D.str a1)] = laws_FnExactIsSolvedBy.res n a0_0 a0_1 a0_2 a0_3 a0_4 a0_5 a0_6 a0_7 a0_8 a0_9 a0_10 a0_11 a1 := by kernel_rfl
theorem laws_FnExactIsSolvedBy.ev {n : Nat} {a0_0 : ByteArray} {a0_1 : Int} {a0_2 : Int} {a0_3 : Int} {a0_4 : Int} {a0_5 : Int} {a0_6 : Int} {a0_7 : Int} {a0_8 : Int} {a0_9 : Int} {a0_10 : Int} {a0_11 : Int} {a1 : ByteArray} {r : List Q} (h : laws_FnExactIsSolvedBy.res n a0_0 a0_1 a0_2 a0_3 a0_4 a0_5 a0_6 a0_7 a0_8 a0_9 a0_10 a0_11 a1 = some r) : Snd Tryd.prog C0 9 [.agg [.str a0_0, .int .i64 a0_1, .int .i64 a0_2, .int .i64 a0_3, .int .i64 a0_4, .int .i64 a0_5, .int .i64 a0_6, .int .i64 a0_7, .int .i64 a0_8, .int .i64 a0_9, .int .i64 a0_10, .int .i64 a0_11], .one (.str a1)] r :=
  snd_ev (C := laws_FnExactIsSolvedBy.cfg) cfg0 mix rfl rfl rfl rfl rfl (.cons laws_szPuzzle.ok (.cons laws_toPuzzle.ok (.cons spec_IsSolvedBy.ok (.cons impl_IsSolvedBy.ok .nil)))) .nil rfl Tryd.func9 (by kernel_rfl) (by kernel_rfl) rfl ((laws_FnExactIsSolvedBy.run n a0_0 a0_1 a0_2 a0_3 a0_4 a0_5 a0_6 a0_7 a0_8 a0_9 a0_10 a0_11 a1).trans h)

theorem laws_FnExactIsSolvedBy.law (q : ByteArray) (hq : q.size ≤ 9223372036854775807) (x y t n e s w b px py pt : Int) (wd : ByteArray) : Snd Tryd.prog C0 9 [.agg [.str q, .int .i64 x, .int .i64 y, .int .i64 t, .int .i64 n, .int .i64 e, .int .i64 s, .int .i64 w, .int .i64 b, .int .i64 px, .int .i64 py, .int .i64 pt], .one (.str wd)] [.one (.bool true)] := by
  refine laws_FnExactIsSolvedBy.ev (n := 0) ?_
  unfold laws_FnExactIsSolvedBy.res
  simp only [hq, decide_true, cond_true, szNeg]
  by_cases hl : ((wd.size : Nat) : Int) > 1048576
  · simp only [hl, decide_true, cond_true]
  · by_cases hs : q.size ≤ 1048576
    · have h1 : q.size < 17179869184 := by omega
      simp only [hl, hs, h1, decide_true, decide_false, cond_true, Bool.not_true, cond_false, beq_self_eq_true, bne_self_eq_false]
    · simp only [hl, hs, decide_false, Bool.not_false, cond_true, cond_false]
end Go.Proofs.EV.PL
namespace Go.Proofs
open Go.Shelf
def Tryd.cloneGrid_ren : Go.Shelf.Ren := ⟨fun | 41 => 104 | n => n, fun | 22 => 63 | 23 => 9 | 4 => 4 | n => n, fun | n => n⟩
theorem Tryd.cloneGrid : Go.Proofs.SlLaysE0.n41 Tryd.prog Tryd.cloneGrid_ren := {
  mixed := by kernel_rfl
  f41 := ⟨Tryd.f104.name, by decide, Tryd.func104.trans (congrArg some (by kernel_rfl))⟩
  t4 := Tryd.underlying4
  a4 := Tryd.isAgg4
  z4 := Tryd.sizeOf4
  v4 := Tryd.zeroValue4
  t22 := Tryd.underlying63
  a22 := Tryd.isAgg63
  z22 := Tryd.sizeOf63
  v22 := Tryd.zeroValue63 }
end Go.Proofs
set_option linter.unusedVariables false
set_option linter.unusedSimpArgs false
/-! Rows copied. -/
namespace Go.Proofs.EV.PL
open Go Go.Proofs Go.Proofs.EV Sp
def slices_Clone_impl_grid_string.stub : Stub
  | [.one (.sl 1 es)] => .any (strC.decs es) fun l => .gd (decide (0 < l.length)) (.ret [.one (.sl 1 (strC.encs l))])
  | _ => .fail
theorem slices_Clone_impl_grid_string.ok : StubOk Tryd.prog C0 104 slices_Clone_impl_grid_string.stub := by
  intro args res h
  unfold slices_Clone_impl_grid_string.stub at h
  split at h
  · rename_i es
    obtain ⟨l, h1, h0⟩ := any_out h
    obtain ⟨rfl, hl⟩ := Cod.decs_inv h1
    obtain ⟨h2, h0⟩ := gd_out h0
    cases h0
    have hinfo : (Tryd.prog.info? (Tryd.cloneGrid_ren.t 23)).map (fun i => (i.zero, i.size, i.bytes)) = some (some (.string ⟨#[]⟩), 1, 16) := by kernel_rfl
    obtain ⟨i0, hi, hi2⟩ := Option.map_eq_some_iff.1 hinfo
    simp only [Prod.mk.injEq] at hi2
    exact cloneStr_ok (C := C0) (fun h => h) Tryd.cloneGrid i0 hi hi2.1 hi2.2.1 hi2.2.2 Tryd.sizeOf9 (f := 104) rfl Tryd.func104 (by kernel_rfl) (by kernel_rfl) rfl l (of_decide_eq_true h2) hl
  · cases h
end Go.Proofs.EV.PL
set_option linter.unusedVariables false
set_option linter.unusedSimpArgs false
/-! Prints and labels along a word. -/
namespace Go.Proofs.EV.PL
open Go Go.Proofs Go.Proofs.EV Sp
/-! impl_grid_put -/
noncomputable def impl_grid_put.cfg : Cfg := { C0 with keep := fun _ => none, nb := 0, M := tabM [(104, slices_Clone_impl_grid_string.stub)], MM := tabB [] }
noncomputable def impl_grid_put.res (n : Nat) (a0 : List (List D)) (a1 : Int) (a2 : Int) (a3 : Int) : Option (List Q) :=
  Option.bind (Cod.decs strC a0) fun (l1 : List ByteArray) => bif decide ((0 : Nat) < List.length l1) then bif decide ((0 : Int) ≤ a2) then bif decide (a2 < (↑(List.length (Cod.encs strC l1)) : Int)) then Option.bind (Option.bind (some (cellD (Cod.encs strC l1) (Int.toNat a2) (0 : Nat))) D.str?) fun (s2 : ByteArray) => bif decide (ByteArray.size s2 ≤ (17179869184 : Nat)) then bif decide ((0 : Int) ≤ a1) then bif decide (a1 < (↑(List.length (strRow s2)) : Int)) then Option.bind (Option.map (fun (l : List UInt8) => ByteArray.mk (List.toArray l)) (rowStr? (setRow (1 : Nat) (strRow s2) (Int.toNat a1) (0 : Nat) [D.int IntKind.u8 (IntKind.wrap IntKind.u8 (IntKind.wrap IntKind.i64 ((48 : Int) + a3)))]))) fun (s3 : ByteArray) => bif decide ((0 : Int) ≤ a2) then bif decide (a2 < (↑(List.length (Cod.encs strC l1)) : Int)) then some [Q.one (D.sl (1 : Nat) (setRow (1 : Nat) (Cod.encs strC l1) (Int.toNat a2) (0 : Nat) [D.str s3]))] else none else none else none else none else none else none else none else none
theorem impl_grid_put.run (n : Nat) (a0 : List (List D)) (a1 : Int) (a2 : Int) (a3 : Int) :
    run1 impl_grid_put.cfg [RK.own (1 : Nat)] n Tryd.f80 [Q.one (D.sl (1 : Nat) a0), Q.one (D.int IntKind.i64 a1), Q.one (D.int IntKind.i64 a2), Q.one (D.int IntKind.i64 a3)] = impl_grid_put.res n a0 a1 a2 a3 := by kernel_rfl
theorem impl_grid_put.ev {n : Nat} {a0 : List (List D)} {a1 : Int} {a2 : Int} {a3 : Int} {r : List Q} (h : impl_grid_put.res n a0 a1 a2 a3 = some r) : Snd Tryd.prog C0 80 [.one (.sl 1 a0), .one (.int .i64 a1), .one (.int .i64 a2), .one (.int .i64 a3)] r :=
  snd_ev (C := impl_grid_put.cfg) cfg0 mix rfl rfl rfl rfl rfl (.cons slices_Clone_impl_grid_string.ok .nil) .nil rfl Tryd.func80 (by kernel_rfl) (by kernel_rfl) rfl ((impl_grid_put.run n a0 a1 a2 a3).trans h)

def impl_grid_put.stub : Stub
  | [.one (.sl 1 es), .one (.int .i64 x), .one (.int .i64 y), .one (.int .i64 n)] => .any (strC.decs es) fun l => .gd (Sp.unif (Sp.lb l)) (.gd (Sp.smallR l) (.gd (Sp.isIn (Sp.lb l) x y) (.gd (Sp.inR n 0 9) (.ret [.one (.sl 1 (strC.encs (Sp.putL l x.toNat y.toNat n)))]))))
  | _ => .fail
theorem impl_grid_put.ok : StubOk Tryd.prog C0 80 impl_grid_put.stub := by
  intro args res h
  unfold impl_grid_put.stub at h
  split at h
  · rename_i es x y n
    obtain ⟨l, h1, h0⟩ := any_out h
    obtain ⟨hu, h0⟩ := gd_out h0
    obtain ⟨hs, h0⟩ := gd_out h0
    obtain ⟨hi, h0⟩ := gd_out h0
    obtain ⟨hn, h0⟩ := gd_out h0
    cases h0
    obtain ⟨n0, n9⟩ := inR_out hn
    unfold isIn at hi
    rw [Bool.and_eq_true] at hi
    obtain ⟨y0, y1⟩ := inR_out hi.1
    obtain ⟨x0, x1⟩ := inR_out hi.2
    rw [lb_len] at y1
    have hy : y.toNat < l.length := by omega
    have hw := lb_wget hu hy
    obtain ⟨_, hsz⟩ := smallR_out hs
    have h7 := hsz l[y.toNat] (List.getElem_mem hy)
    have g1 : 0 < l.length := by omega
    have g2 : y < (l.length : Int) := by omega
    have g3 : l[y.toNat].size ≤ 17179869184 := by omega
    have g4 : x < ((l[y.toNat].size : Nat) : Int) := by omega
    refine impl_grid_put.ev (n := 0) ?_
    unfold impl_grid_put.res
    rw [h1]
    simp only [Option.bind_some, g1, y0, g2, g3, x0, Cod.encs_len, strC_cell hy, decide_true, cond_true, sgn_val n0 n9, strRow_u8, bl_len, g4, u8C_set, rowStr_u8, Option.map_some, strC_set]
    unfold putL putB
    rw [List.getD_eq_getElem?_getD, List.getElem?_eq_getElem hy]
    rfl
  · cases h
/-! impl_grid_label -/
noncomputable def impl_grid_label.cfg : Cfg := { C0 with keep := fun _ => none, nb := 0, M := tabM [(51, impl_grid_at.stub), (91, impl_isDigit.stub)], MM := tabB [] }
noncomputable def impl_grid_label.res (n : Nat) (a0 : List (List D)) (a1 : Int) (a2 : Int) : Option (List Q) :=
  Option.bind (Cod.decs strC a0) fun (l1 : List ByteArray) => bif unif (lb l1) then bif decide (List.length l1 ≤ (17179869184 : Nat)) then bif decide (wOf (lb l1) ≤ (17179869184 : Nat)) then some [Q.one (D.int IntKind.i64 (IntKind.wrap IntKind.i64 (IntKind.wrap IntKind.i64 (atZ (lb l1) a1 a2) - (48 : Int)))), Q.one (D.bool (digI (atZ (lb l1) a1 a2)))] else none else none else none
theorem impl_grid_label.run (n : Nat) (a0 : List (List D)) (a1 : Int) (a2 : Int) :
    run1 impl_grid_label.cfg [RK.one (LK.int IntKind.i64), RK.one LK.bool] n Tryd.f82 [Q.one (D.sl (1 : Nat) a0), Q.one (D.int IntKind.i64 a1), Q.one (D.int IntKind.i64 a2)] = impl_grid_label.res n a0 a1 a2 := by kernel_rfl
theorem impl_grid_label.ev {n : Nat} {a0 : List (List D)} {a1 : Int} {a2 : Int} {r : List Q} (h : impl_grid_label.res n a0 a1 a2 = some r) : Snd Tryd.prog C0 82 [.one (.sl 1 a0), .one (.int .i64 a1), .one (.int .i64 a2)] r :=
  snd_ev (C := impl_grid_label.cfg) cfg0 mix rfl rfl rfl rfl rfl (.cons impl_grid_at.ok (.cons impl_isDigit.ok .nil)) .nil rfl Tryd.func82 (by kernel_rfl) (by kernel_rfl) rfl ((impl_grid_label.run n a0 a1 a2).trans h)

def impl_grid_label.stub : Stub
  | [.one (.sl 1 es), .one (.int .i64 x), .one (.int .i64 y)] => .any (strC.decs es) fun l => .gd (Sp.unif (Sp.lb l)) (.gd (Sp.smallR l) (.ret [.one (.int .i64 (Sp.atZ (Sp.lb l) x y - 48)), .one (.bool (Sp.digI (Sp.atZ (Sp.lb l) x y)))]))
  | _ => .fail
theorem atZ_in (r : List (List UInt8)) (x y : Int) : 0 ≤ atZ r x y ∧ atZ r x y < 256 := by
  unfold atZ
  cases inR y 0 ((r.length : Int) - 1) && inR x 0 ((wOf r : Int) - 1) with
  | false => simp
  | true =>
    have := ((r.getD y.toNat []).getD x.toNat 0).toNat_lt
    simp only [cond_true]; omega
theorem impl_grid_label.ok : StubOk Tryd.prog C0 82 impl_grid_label.stub := by
  intro args res h
  unfold impl_grid_label.stub at h
  split at h
  · rename_i es x y
    obtain ⟨l, h1, h0⟩ := any_out h
    obtain ⟨hu, h0⟩ := gd_out h0
    obtain ⟨hs, h0⟩ := gd_out h0
    cases h0
    obtain ⟨k1, k2, _, _⟩ := small_w hs
    obtain ⟨a, b⟩ := atZ_in (lb l) x y
    refine impl_grid_label.ev (n := 0) ?_
    unfold impl_grid_label.res
    rw [h1]
    simp only [Option.bind_some, hu, k1, k2, decide_true, cond_true]
    rw [wrap_in (x := atZ (lb l) x y) (by omega) (by omega), wrap_in (by omega) (by omega)]
  · cases h
theorem gd_ix {w h : Nat} {u : Sta} (hw : w ≤ 7) (hh : h ≤ 7) (g : Gds w h u) : IntKind.wrap .i64 (IntKind.wrap .i64 (u.y * (w : Int)) + u.x) = ((u.y.toNat * w + u.x.toNat : Nat) : Int) ∧ u.y.toNat * w + u.x.toNat < w * h := by
  obtain ⟨x0, x1, y0, y1, _⟩ := g
  obtain ⟨x, hx⟩ : ∃ k : Nat, u.x = (k : Int) := ⟨u.x.toNat, by omega⟩
  obtain ⟨y, hy⟩ : ∃ k : Nat, u.y = (k : Int) := ⟨u.y.toNat, by omega⟩
  rw [hx] at x1 ⊢
  rw [hy] at y1 ⊢
  rw [Int.toNat_natCast, Int.toNat_natCast]
  have e1 : (y + 1) * w ≤ h * w := Nat.mul_le_mul_right _ (by omega)
  have e2 : (y + 1) * w = y * w + w := by rw [Nat.add_mul, Nat.one_mul]
  have e3 : h * w ≤ 49 := by
    have := Nat.mul_le_mul hh hw
    omega
  have e4 : w * h = h * w := Nat.mul_comm w h
  constructor
  · rw [← Int.natCast_mul, wrap_in (x := ((y * w : Nat) : Int)) (by omega) (by omega), ← Int.natCast_add, wrap_in (by omega) (by omega)]
  · omega
/-! spec_PrintsAlong -/
noncomputable def spec_PrintsAlong.cfg : Cfg := { C0 with keep := fun | 7 => some [10, 12, 33, 34, 35] | _ => none, nb := 0, M := tabM [(65, spec_boWay.stub), (53, spec_boRead.stub), (78, spec_prText.stub)], MM := tabB [] }
noncomputable def spec_PrintsAlong.l7 (n : Nat) (m7 : Nat) (i0 : Int) (i1 : Int) (i2 : Int) (i3 : Int) (l4 : List (List D)) (l5 : List (List D)) (l6 : List (List D)) : Option (List Q) :=
  loopAt spec_PrintsAlong.cfg [RK.one LK.str, RK.one LK.bool] n Tryd.f43 [1, 1, 1, 1, 1, 0, 1, 0] [] m7 (St.mk [V.undef, V.undef, V.undef, V.undef, V.undef, V.undef, V.undef, V.undef, V.undef, V.undef, V.rp (0 : Nat) (0 : Nat), V.undef, V.rw (1 : Nat), V.undef, V.undef, V.undef, V.undef, V.undef, V.undef, V.undef, V.undef, V.undef, V.undef, V.undef, V.undef, V.undef, V.undef, V.undef, V.undef, V.undef, V.undef, V.undef, V.undef, V.rw (2 : Nat), V.one true (D.int IntKind.i64 i0), V.one true (D.int IntKind.i64 i1), V.undef, V.undef, V.undef, V.undef, V.undef, V.undef, V.undef, V.undef, V.undef, V.undef, V.undef, V.undef, V.undef, V.undef, V.undef, V.undef, V.undef, V.undef, V.undef, V.undef, V.undef, V.undef] [Ob.box [V.one true (D.int IntKind.i64 i2), V.one true (D.int IntKind.i64 i3), V.one true (D.sl (1 : Nat) l4)], Ob.row false (1 : Nat) l5, Ob.row false (8 : Nat) l6])
theorem spec_PrintsAlong.l7_eq (n : Nat) (m7 : Nat) (i0 : Int) (i1 : Int) (i2 : Int) (i3 : Int) (l4 : List (List D)) (l5 : List (List D)) (l6 : List (List D)) :
    spec_PrintsAlong.l7 n (m7 + 1) i0 i1 i2 i3 l4 l5 l6 = bif decide (i1 < i0) then bif decide ((0 : Int) ≤ i1) then bif decide (i1 < (↑(List.length l6) : Int)) then Option.bind (Option.bind (some (cellD l6 (Int.toNat i1) (0 : Nat))) (D.int? IntKind.i64)) fun (i1_1 : Int) => Option.bind (Option.bind (some (cellD l6 (Int.toNat i1) (1 : Nat))) (D.int? IntKind.i64)) fun (i2_1 : Int) => Option.bind (Option.bind (some (cellD l6 (Int.toNat i1) (2 : Nat))) (D.int? IntKind.i64)) fun (i3_1 : Int) => Option.bind (Option.bind (some (cellD l6 (Int.toNat i1) (3 : Nat))) (D.int? IntKind.i64)) fun (i4 : Int) => Option.bind (Option.bind (some (cellD l6 (Int.toNat i1) (4 : Nat))) (D.int? IntKind.i64)) fun (i5 : Int) => Option.bind (Option.bind (some (cellD l6 (Int.toNat i1) (5 : Nat))) (D.int? IntKind.i64)) fun (i6 : Int) => Option.bind (Option.bind (some (cellD l6 (Int.toNat i1) (6 : Nat))) (D.int? IntKind.i64)) fun (i7 : Int) => Option.bind (Option.bind (some (cellD l6 (Int.toNat i1) (7 : Nat))) (D.int? IntKind.i64)) fun (i8 : Int) => bif decide ((0 : Int) ≤ IntKind.wrap IntKind.i64 (IntKind.wrap IntKind.i64 (i2_1 * i2) + i1_1)) then bif decide (IntKind.wrap IntKind.i64 (IntKind.wrap IntKind.i64 (i2_1 * i2) + i1_1) < (↑(List.length l5) : Int)) then spec_PrintsAlong.l7 n m7 i0 (IntKind.wrap IntKind.i64 (i1 + (1 : Int))) i2 i3 l4 (setRow (1 : Nat) l5 (Int.toNat (IntKind.wrap IntKind.i64 (IntKind.wrap IntKind.i64 (i2_1 * i2) + i1_1))) (0 : Nat) [D.int IntKind.u8 (IntKind.wrap IntKind.u8 (IntKind.wrap IntKind.i64 ((48 : Int) + i8)))]) l6 else none else none else none else none else Option.bind (Cod.decs u8C l5) fun (l9 : List UInt8) => bif inR i2 (0 : Int) (7 : Int) then bif inR i3 (0 : Int) (7 : Int) then bif decide (List.length l9 = Int.toNat i2 * Int.toNat i3) then some [Q.one (D.str (mkB (jn (chunk (Int.toNat i2) (Int.toNat i3) l9)))), Q.one (D.bool true)] else none else none else none := by kernel_rfl
noncomputable def spec_PrintsAlong.res (n : Nat) (a0 : ByteArray) (a1_0 : Int) (a1_1 : Int) (a1_2 : Int) (a1_3 : Int) (a1_4 : Int) (a1_5 : Int) (a1_6 : Int) (a1_7 : Int) (a2 : ByteArray) : Option (List Q) :=
  bif !wayOk a0 (Sta.mk a1_0 a1_1 (Die.mk a1_2 a1_3 a1_4 a1_5 a1_6 a1_7)) a2 then some [Q.one (D.str (ByteArray.mk #[])), Q.one (D.bool false)] else bif decide ((0 : Nat) + List.length (Cod.encs u8C (boC brd a0)) ≤ (17179869184 : Nat)) then spec_PrintsAlong.l7 n n (↑(List.length (Cod.encs stC (wayL a0 (Sta.mk a1_0 a1_1 (Die.mk a1_2 a1_3 a1_4 a1_5 a1_6 a1_7)) a2))) : Int) (0 : Int) (↑(boW brd a0) : Int) (↑(boH brd a0) : Int) (Cod.encs u8C (boC brd a0)) ([] ++ Cod.encs u8C (boC brd a0)) (Cod.encs stC (wayL a0 (Sta.mk a1_0 a1_1 (Die.mk a1_2 a1_3 a1_4 a1_5 a1_6 a1_7)) a2)) else none
theorem spec_PrintsAlong.run (n : Nat) (a0 : ByteArray) (a1_0 : Int) (a1_1 : Int) (a1_2 : Int) (a1_3 : Int) (a1_4 : Int) (a1_5 : Int) (a1_6 : Int) (a1_7 : Int) (a2 : ByteArray) :
    run1 spec_PrintsAlong.cfg [RK.one LK.str, RK.one LK.bool] n Tryd.f43 [Q.one (D.str a0), Q.agg [D.int IntKind.i64 a1_0, D.int IntKind.i64 a1_1, D.int IntKind.i64 a1_2, D.int IntKind.i64 a1_3, D.int IntKind.i64 a1_4, D.int IntKind.i64 a1_5, D.int IntKind.i64 a1_6, D.int IntKind.i64 a1_7], Q.one (D.str a2)] = spec_PrintsAlong.res n a0 a1_0 a1_1 a1_2 a1_3 a1_4 a1_5 a1_6 a1_7 a2 := by kernel_rfl
theorem spec_PrintsAlong.ev {n : Nat} {a0 : ByteArray} {a1_0 : Int} {a1_1 : Int} {a1_2 : Int} {a1_3 : Int} {a1_4 : Int} {a1_5 : Int} {a1_6 : Int} {a1_7 : Int} {a2 : ByteArray} {r : List Q} (h : spec_PrintsAlong.res n a0 a1_0 a1_1 a1_2 a1_3 a1_4 a1_5 a1_6 a1_7 a2 = some r) : Snd Tryd.prog C0 43 [.one (.str a0), .agg [.int .i64 a1_0, .int .i64 a1_1, .int .i64 a1_2, .int .i64 a1_3, .int .i64 a1_4, .int .i64 a1_5, .int .i64 a1_6, .int .i64 a1_7], .one (.str a2)] r :=
  snd_ev (C := spec_PrintsAlong.cfg) cfg0 mix rfl rfl rfl rfl rfl (.cons spec_boWay.ok (.cons spec_boRead.ok (.cons spec_prText.ok .nil))) .nil rfl Tryd.func43 (by kernel_rfl) (by kernel_rfl) rfl ((spec_PrintsAlong.run n a0 a1_0 a1_1 a1_2 a1_3 a1_4 a1_5 a1_6 a1_7 a2).trans h)

theorem spec_PrintsAlong.l7_run {n : Nat} {w h : Nat} {L : List Sta} {l4 : List (List D)} (hw : w ≤ 7) (hh : h ≤ 7) (hL : L.length ≤ LIM) (hg : ∀ u ∈ L, Gds w h u) : ∀ (d i m : Nat) (cs : List UInt8), i + d = L.length → d < m → cs.length = w * h →
    spec_PrintsAlong.l7 n m ((L.length : Nat) : Int) (i : Int) (w : Int) (h : Int) l4 (u8C.encs cs) (stC.encs L) = some [Q.one (.str (mkB (jn (chunk w h (paintC w botS (L.drop i) cs))))), Q.one (.bool true)] := by
  intro d
  induction d with
  | zero =>
    intro i m cs hi hm hc
    obtain ⟨m, rfl⟩ : ∃ m', m = m' + 1 := ⟨m - 1, by omega⟩
    have h1 : ¬ (i : Int) < ((L.length : Nat) : Int) := by omega
    have hwh : w * h ≤ 49 := by
      have := Nat.mul_le_mul hw hh
      omega
    have i1 : inR (w : Int) 0 7 = true := by
      unfold inR
      rw [Bool.and_eq_true, decide_eq_true_eq, decide_eq_true_eq]; omega
    have i2 : inR (h : Int) 0 7 = true := by
      unfold inR
      rw [Bool.and_eq_true, decide_eq_true_eq, decide_eq_true_eq]; omega
    rw [spec_PrintsAlong.l7_eq, List.drop_of_length_le (by omega)]
    simp only [h1, decide_false, cond_false, Cod.decs_encs (c := u8C) (l := cs) (by unfold LIM; omega), Option.bind_some, i1, i2, Int.toNat_natCast, hc, decide_true, cond_true]
    rfl
  | succ d ih =>
    intro i m cs hi hm hc
    obtain ⟨m, rfl⟩ : ∃ m', m = m' + 1 := ⟨m - 1, by omega⟩
    have hlt : i < L.length := by omega
    have h1 : (i : Int) < ((L.length : Nat) : Int) := by omega
    obtain ⟨c0, c1, c2, c3, c4, c5, c6, c7⟩ := st_cells hlt
    have g := hg L[i] (List.getElem_mem hlt)
    obtain ⟨e1, e2⟩ := gd_ix hw hh g
    have e3 : ((L[i].y.toNat * w + L[i].x.toNat : Nat) : Int) < ((cs.length : Nat) : Int) := by omega
    have gg := (good_all L[i].d).1 g.g
    have hb := gg.2.2.2.2.2
    have step := ih (i + 1) m (cs.set (L[i].y.toNat * w + L[i].x.toNat) (sgn (botS L[i]))) (by omega) (by omega) (by rw [List.length_set]; exact hc)
    rw [spec_PrintsAlong.l7_eq, List.drop_eq_getElem_cons hlt, paintC]
    simp only [h1, Cod.encs_len, Int.natCast_nonneg, Int.toNat_natCast, decide_true, cond_true, c0, c1, c2, c3, c4, c5, c6, c7, Option.bind_some, e1, e3, sgn_val hb.1 hb.2, u8C_set, wrap_succ (show i ≤ LIM by omega)]
    exact step
def spec_PrintsAlong.stub : Stub
  | [.one (.str q), .agg [.int .i64 x, .int .i64 y, .int .i64 t, .int .i64 n, .int .i64 e, .int .i64 s, .int .i64 w, .int .i64 b], .one (.str wd)] => .ret [.one (.str (Sp.printT q ⟨x, y, ⟨t, n, e, s, w, b⟩⟩ wd)), .one (.bool (Sp.wayOk q ⟨x, y, ⟨t, n, e, s, w, b⟩⟩ wd))]
  | _ => .fail
theorem spec_PrintsAlong.ok : StubOk Tryd.prog C0 43 spec_PrintsAlong.stub := by
  intro args res h
  unfold spec_PrintsAlong.stub at h
  split at h
  · rename_i q x y t n e s w b wd
    cases h
    obtain ⟨N, hN⟩ : ∃ N, 64 ≤ N := ⟨64, Nat.le_refl _⟩
    refine spec_PrintsAlong.ev (n := N) ?_
    unfold spec_PrintsAlong.res printT
    cases hk : wayOk q ⟨x, y, ⟨t, n, e, s, w, b⟩⟩ wd with
    | false => rfl
    | true =>
      obtain ⟨h1, h2, h3, h4, h5⟩ := way_out hk
      obtain ⟨hb, _, _, _, _⟩ := okSt_out h1
      obtain ⟨k1, _⟩ := isWord_out h2
      obtain ⟨b1, b2, b3, b4⟩ := isBo_fine hb
      obtain ⟨e1, e2, e3, _, _, e6, e7⟩ := bo_ok hb
      rw [e1] at e7
      have hl0 : 0 + (rws q).flatten.length ≤ 17179869184 := by unfold LIM at e7; omega
      have key := spec_PrintsAlong.l7_run (n := N) (l4 := u8C.encs (rws q).flatten) b3.2 b2.2 (L := alL (isFl (rws q)) ⟨x, y, ⟨t, n, e, s, w, b⟩⟩ wd) (by unfold LIM; omega) (alL_gd h1) (alL (isFl (rws q)) ⟨x, y, ⟨t, n, e, s, w, b⟩⟩ wd).length 0 N (rws q).flatten (by omega) (by omega) (flat_len b1)
      rw [List.drop_zero] at key
      obtain ⟨p1, p2⟩ := paint_flat botS (alL (isFl (rws q)) ⟨x, y, ⟨t, n, e, s, w, b⟩⟩ wd) (rws q) (rws_rw hb) (alL_gd h1)
      have p3 := chunk_flat _ _ p2.row
      rw [p2.len] at p3
      rw [p1, p3] at key
      simp only [Bool.not_true, cond_false, h4, e1, e2, e3, Cod.encs_len, hl0, decide_true, cond_true, List.nil_append]
      exact key
  · cases h
/-! impl_PrintsAlong -/
noncomputable def impl_PrintsAlong.cfg : Cfg := { C0 with keep := fun | 6 => some [10, 28, 29, 30] | _ => none, nb := 0, M := tabM [(68, impl_statesAlong.stub), (56, impl_board.stub), (80, impl_grid_put.stub), (58, impl_grid_text.stub)], MM := tabB [] }
noncomputable def impl_PrintsAlong.l6 (n : Nat) (m6 : Nat) (i0 : Int) (i1 : Int) (l2 : List (List D)) (l3 : List (List D)) : Option (List Q) :=
  loopAt impl_PrintsAlong.cfg [RK.one LK.str, RK.one LK.bool] n Tryd.f45 [1, 1, 1, 1, 0, 1, 0] [] m6 (St.mk [V.undef, V.undef, V.undef, V.undef, V.undef, V.undef, V.undef, V.undef, V.undef, V.undef, V.rw (0 : Nat), V.undef, V.undef, V.undef, V.undef, V.undef, V.undef, V.undef, V.undef, V.undef, V.undef, V.undef, V.undef, V.undef, V.undef, V.undef, V.undef, V.undef, V.rw (1 : Nat), V.one true (D.int IntKind.i64 i0), V.one true (D.int IntKind.i64 i1), V.undef, V.undef, V.undef, V.undef, V.undef, V.undef, V.undef, V.undef, V.undef, V.undef, V.undef, V.undef, V.undef, V.undef, V.undef] [Ob.row false (1 : Nat) l2, Ob.row false (8 : Nat) l3])
theorem impl_PrintsAlong.l6_eq (n : Nat) (m6 : Nat) (i0 : Int) (i1 : Int) (l2 : List (List D)) (l3 : List (List D)) :
    impl_PrintsAlong.l6 n (m6 + 1) i0 i1 l2 l3 = bif decide (i1 < i0) then bif decide ((0 : Int) ≤ i1) then bif decide (i1 < (↑(List.length l3) : Int)) then Option.bind (Option.bind (some (cellD l3 (Int.toNat i1) (0 : Nat))) (D.int? IntKind.i64)) fun (i1_1 : Int) => Option.bind (Option.bind (some (cellD l3 (Int.toNat i1) (1 : Nat))) (D.int? IntKind.i64)) fun (i2 : Int) => Option.bind (Option.bind (some (cellD l3 (Int.toNat i1) (2 : Nat))) (D.int? IntKind.i64)) fun (i3 : Int) => Option.bind (Option.bind (some (cellD l3 (Int.toNat i1) (3 : Nat))) (D.int? IntKind.i64)) fun (i4 : Int) => Option.bind (Option.bind (some (cellD l3 (Int.toNat i1) (4 : Nat))) (D.int? IntKind.i64)) fun (i5 : Int) => Option.bind (Option.bind (some (cellD l3 (Int.toNat i1) (5 : Nat))) (D.int? IntKind.i64)) fun (i6 : Int) => Option.bind (Option.bind (some (cellD l3 (Int.toNat i1) (6 : Nat))) (D.int? IntKind.i64)) fun (i7 : Int) => Option.bind (Option.bind (some (cellD l3 (Int.toNat i1) (7 : Nat))) (D.int? IntKind.i64)) fun (i8 : Int) => Option.bind (Cod.decs strC l2) fun (l9 : List ByteArray) => bif unif (lb l9) then bif smallR l9 then bif isIn (lb l9) i1_1 i2 then bif inR i8 (0 : Int) (9 : Int) then impl_PrintsAlong.l6 n m6 i0 (IntKind.wrap IntKind.i64 (i1 + (1 : Int))) (Cod.encs strC (putL l9 (Int.toNat i1_1) (Int.toNat i2) i8)) l3 else none else none else none else none else none else none else Option.bind (Cod.decs strC l2) fun (l10 : List ByteArray) => bif decide (List.length (jn (lb l10)) ≤ (17179869184 : Nat)) then some [Q.one (D.str (mkB (jn (lb l10)))), Q.one (D.bool true)] else none := by kernel_rfl
noncomputable def impl_PrintsAlong.res (n : Nat) (a0 : ByteArray) (a1_0 : Int) (a1_1 : Int) (a1_2 : Int) (a1_3 : Int) (a1_4 : Int) (a1_5 : Int) (a1_6 : Int) (a1_7 : Int) (a2 : ByteArray) : Option (List Q) :=
  bif decide (ByteArray.size a0 < (17179869184 : Nat)) then bif !wayOk a0 (Sta.mk a1_0 a1_1 (Die.mk a1_2 a1_3 a1_4 a1_5 a1_6 a1_7)) a2 then some [Q.one (D.str (ByteArray.mk #[])), Q.one (D.bool false)] else bif decide (ByteArray.size a0 < (17179869184 : Nat)) then impl_PrintsAlong.l6 n n (↑(List.length (Cod.encs stC (wayI a0 (Sta.mk a1_0 a1_1 (Die.mk a1_2 a1_3 a1_4 a1_5 a1_6 a1_7)) a2))) : Int) (0 : Int) (Cod.encs strC (gridI brd a0)) (Cod.encs stC (wayI a0 (Sta.mk a1_0 a1_1 (Die.mk a1_2 a1_3 a1_4 a1_5 a1_6 a1_7)) a2)) else none else none
theorem impl_PrintsAlong.run (n : Nat) (a0 : ByteArray) (a1_0 : Int) (a1_1 : Int) (a1_2 : Int) (a1_3 : Int) (a1_4 : Int) (a1_5 : Int) (a1_6 : Int) (a1_7 : Int) (a2 : ByteArray) :
    run1 impl_PrintsAlong.cfg [RK.one LK.str, RK.one LK.bool] n Tryd.f45 [Q.one (D.str a0), Q.agg [D.int IntKind.i64 a1_0, D.int IntKind.i64 a1_1, D.int IntKind.i64 a1_2, D.int IntKind.i64 a1_3, D.int IntKind.i64 a1_4, D.int IntKind.i64 a1_5, D.int IntKind.i64 a1_6, D.int IntKind.i64 a1_7], Q.one (D.str a2)] = impl_PrintsAlong.res n a0 a1_0 a1_1 a1_2 a1_3 a1_4 a1_5 a1_6 a1_7 a2 := by kernel_rfl
theorem impl_PrintsAlong.ev {n : Nat} {a0 : ByteArray} {a1_0 : Int} {a1_1 : Int} {a1_2 : Int} {a1_3 : Int} {a1_4 : Int} {a1_5 : Int} {a1_6 : Int} {a1_7 : Int} {a2 : ByteArray} {r : List Q} (h : impl_PrintsAlong.res n a0 a1_0 a1_1 a1_2 a1_3 a1_4 a1_5 a1_6 a1_7 a2 = some r) : Snd Tryd.prog C0 45 [.one (.str a0), .agg [.int .i64 a1_0, .int .i64 a1_1, .int .i64 a1_2, .int .i64 a1_3, .int .i64 a1_4, .int .i64 a1_5, .int .i64 a1_6, .int .i64 a1_7], .one (.str a2)] r :=
  snd_ev (C := impl_PrintsAlong.cfg) cfg0 mix rfl rfl rfl rfl rfl (.cons impl_statesAlong.ok (.cons impl_board.ok (.cons impl_grid_put.ok (.cons impl_grid_text.ok .nil)))) .nil rfl Tryd.func45 (by kernel_rfl) (by kernel_rfl) rfl ((impl_PrintsAlong.run n a0 a1_0 a1_1 a1_2 a1_3 a1_4 a1_5 a1_6 a1_7 a2).trans h)

theorem impl_PrintsAlong.l6_run {n : Nat} {w h : Nat} {L : List Sta} (hw : w ≤ 7) (hh : h ≤ 7) (h0 : 0 < h) (hL : L.length ≤ LIM) (hg : ∀ u ∈ L, Gds w h u) : ∀ (d i m : Nat) (l : List ByteArray), i + d = L.length → d < m → Rw w h (lb l) →
    impl_PrintsAlong.l6 n m ((L.length : Nat) : Int) (i : Int) (strC.encs l) (stC.encs L) = some [Q.one (.str (mkB (jn (paintR botS (L.drop i) (lb l))))), Q.one (.bool true)] := by
  intro d
  induction d with
  | zero =>
    intro i m l hi hm hr
    obtain ⟨m, rfl⟩ : ∃ m', m = m' + 1 := ⟨m - 1, by omega⟩
    have h1 : ¬ (i : Int) < ((L.length : Nat) : Int) := by omega
    obtain ⟨r1, r2⟩ := rw_small hr hw hh
    rw [impl_PrintsAlong.l6_eq, List.drop_of_length_le (by omega)]
    simp only [h1, decide_false, cond_false, Cod.decs_encs (c := strC) (l := l) (by unfold LIM; omega), Option.bind_some, decide_eq_true (rw_jn hr hw hh), cond_true]
    rfl
  | succ d ih =>
    intro i m l hi hm hr
    obtain ⟨m, rfl⟩ : ∃ m', m = m' + 1 := ⟨m - 1, by omega⟩
    have hlt : i < L.length := by omega
    have h1 : (i : Int) < ((L.length : Nat) : Int) := by omega
    obtain ⟨c0, c1, c2, c3, c4, c5, c6, c7⟩ := st_cells hlt
    have g := hg L[i] (List.getElem_mem hlt)
    obtain ⟨r1, r2⟩ := rw_small hr hw hh
    obtain ⟨u1, u2⟩ := hr.out h0
    have gg := (good_all L[i].d).1 g.g
    have hb := gg.2.2.2.2.2
    have i9 : inR L[i].d.b 0 9 = true := by
      unfold inR
      rw [Bool.and_eq_true, decide_eq_true_eq, decide_eq_true_eq]; exact hb
    have hin : isIn (lb l) L[i].x L[i].y = true := by
      obtain ⟨x0, x1, y0, y1, _⟩ := g
      unfold isIn inR
      rw [u2, lb_len, r2]
      simp only [Bool.and_eq_true, decide_eq_true_eq]; omega
    have step := ih (i + 1) m (putL l L[i].x.toNat L[i].y.toNat L[i].d.b) (by omega) (by omega) (by rw [lb_put]; exact hr.set _ _ _)
    rw [lb_put] at step
    rw [impl_PrintsAlong.l6_eq, List.drop_eq_getElem_cons hlt, paintR]
    simp only [h1, Cod.encs_len, Int.natCast_nonneg, Int.toNat_natCast, decide_true, cond_true, c0, c1, c2, c3, c4, c5, c6, c7, Option.bind_some, Cod.decs_encs (c := strC) (l := l) (by unfold LIM; omega), u1, r1, hin, i9, wrap_succ (show i ≤ LIM by omega)]
    exact step
def impl_PrintsAlong.stub : Stub
  | [.one (.str q), .agg [.int .i64 x, .int .i64 y, .int .i64 t, .int .i64 n, .int .i64 e, .int .i64 s, .int .i64 w, .int .i64 b], .one (.str wd)] => .gd (decide (q.size < LIM)) (.ret [.one (.str (Sp.printT q ⟨x, y, ⟨t, n, e, s, w, b⟩⟩ wd)), .one (.bool (Sp.wayOk q ⟨x, y, ⟨t, n, e, s, w, b⟩⟩ wd))])
  | _ => .fail
theorem impl_PrintsAlong.ok : StubOk Tryd.prog C0 45 impl_PrintsAlong.stub := by
  intro args res h
  unfold impl_PrintsAlong.stub at h
  split at h
  · rename_i q x y t n e s w b wd
    obtain ⟨hs, h0⟩ := gd_out h
    cases h0
    unfold LIM at hs
    obtain ⟨N, hN⟩ : ∃ N, 64 ≤ N := ⟨64, Nat.le_refl _⟩
    refine impl_PrintsAlong.ev (n := N) ?_
    unfold impl_PrintsAlong.res printT
    rw [hs]
    cases hk : wayOk q ⟨x, y, ⟨t, n, e, s, w, b⟩⟩ wd with
    | false => rfl
    | true =>
      obtain ⟨h1, h2, h3, h4, h5⟩ := way_out hk
      obtain ⟨hb, _, _, _, _⟩ := okSt_out h1
      obtain ⟨k1, _⟩ := isWord_out h2
      obtain ⟨b1, b2, b3, b4⟩ := isBo_fine hb
      obtain ⟨g1, _, _, _, _, _⟩ := Sp.gr_ok hb
      have key := impl_PrintsAlong.l6_run (n := N) b3.2 b2.2 (by omega) (L := alL (isFl (rws q)) ⟨x, y, ⟨t, n, e, s, w, b⟩⟩ wd) (by unfold LIM; omega) (alL_gd h1) (alL (isFl (rws q)) ⟨x, y, ⟨t, n, e, s, w, b⟩⟩ wd).length 0 N (gridI brd q) (by omega) (by omega) (by rw [g1]; exact rws_rw hb)
      rw [List.drop_zero, g1] at key
      simp only [Bool.not_true, cond_false, cond_true, h5, Cod.encs_len]
      exact key
  · cases h
/-! laws_FnExactPrintsAlong -/
noncomputable def laws_FnExactPrintsAlong.cfg : Cfg := { C0 with keep := fun _ => none, nb := 0, M := tabM [(44, laws_toState.stub), (43, spec_PrintsAlong.stub), (45, impl_PrintsAlong.stub)], MM := tabB [] }
noncomputable def laws_FnExactPrintsAlong.res (n : Nat) (a0 : ByteArray) (a1_0 : Int) (a1_1 : Int) (a1_2 : Int) (a1_3 : Int) (a1_4 : Int) (a1_5 : Int) (a1_6 : Int) (a1_7 : Int) (a2 : ByteArray) : Option (List Q) :=
  bif decide ((↑(ByteArray.size a0) : Int) > (1048576 : Int)) then some [Q.one (D.bool true)] else bif decide ((↑(ByteArray.size a2) : Int) > (1048576 : Int)) then some [Q.one (D.bool true)] else bif decide (ByteArray.size a0 < (17179869184 : Nat)) then bif !strEq (printT a0 (Sta.mk a1_0 a1_1 (Die.mk a1_2 a1_3 a1_4 a1_5 a1_6 a1_7)) a2) (printT a0 (Sta.mk a1_0 a1_1 (Die.mk a1_2 a1_3 a1_4 a1_5 a1_6 a1_7)) a2) then some [Q.one (D.bool false)] else bif !wayOk a0 (Sta.mk a1_0 a1_1 (Die.mk a1_2 a1_3 a1_4 a1_5 a1_6 a1_7)) a2 == wayOk a0 (Sta.mk a1_0 a1_1 (Die.mk a1_2 a1_3 a1_4 a1_5 a1_6 a1_7)) a2 then some [Q.one (D.bool false)] else some [Q.one (D.bool true)] else none
theorem laws_FnExactPrintsAlong.run (n : Nat) (a0 : ByteArray) (a1_0 : Int) (a1_1 : Int) (a1_2 : Int) (a1_3 : Int) (a1_4 : Int) (a1_5 : Int) (a1_6 : Int) (a1_7 : Int) (a2 : ByteArray) :
    run1 laws_FnExactPrintsAlong.cfg [RK.one LK.bool] n Tryd.f13 [Q.one (D.str a0), Q.agg [D.int IntKind.i64 a1_0, D.int IntKind.i64 a1_1, D.int IntKind.i64 a1_2, D.int IntKind.i64 a1_3, D.int IntKind.i64 a1_4, D.int IntKind.i64 a1_5, D.int IntKind.i64 a1_6, D.int IntKind.i64 a1_7], Q.one (D.str a2)] = laws_FnExactPrintsAlong.res n a0 a1_0 a1_1 a1_2 a1_3 a1_4 a1_5 a1_6 a1_7 a2 := by kernel_rfl
theorem laws_FnExactPrintsAlong.ev {n : Nat} {a0 : ByteArray} {a1_0 : Int} {a1_1 : Int} {a1_2 : Int} {a1_3 : Int} {a1_4 : Int} {a1_5 : Int} {a1_6 : Int} {a1_7 : Int} {a2 : ByteArray} {r : List Q} (h : laws_FnExactPrintsAlong.res n a0 a1_0 a1_1 a1_2 a1_3 a1_4 a1_5 a1_6 a1_7 a2 = some r) : Snd Tryd.prog C0 13 [.one (.str a0), .agg [.int .i64 a1_0, .int .i64 a1_1, .int .i64 a1_2, .int .i64 a1_3, .int .i64 a1_4, .int .i64 a1_5, .int .i64 a1_6, .int .i64 a1_7], .one (.str a2)] r :=
  snd_ev (C := laws_FnExactPrintsAlong.cfg) cfg0 mix rfl rfl rfl rfl rfl (.cons laws_toState.ok (.cons spec_PrintsAlong.ok (.cons impl_PrintsAlong.ok .nil))) .nil rfl Tryd.func13 (by kernel_rfl) (by kernel_rfl) rfl ((laws_FnExactPrintsAlong.run n a0 a1_0 a1_1 a1_2 a1_3 a1_4 a1_5 a1_6 a1_7 a2).trans h)

theorem laws_FnExactPrintsAlong.law (q : ByteArray) (x y t n e s w b : Int) (wd : ByteArray) : Snd Tryd.prog C0 13 [.one (.str q), .agg [.int .i64 x, .int .i64 y, .int .i64 t, .int .i64 n, .int .i64 e, .int .i64 s, .int .i64 w, .int .i64 b], .one (.str wd)] [.one (.bool true)] := by
  refine laws_FnExactPrintsAlong.ev (n := 0) ?_
  unfold laws_FnExactPrintsAlong.res
  by_cases hs : q.size ≤ 1048576
  · have h1 : q.size < 17179869184 := by omega
    have h2 : ¬ ((q.size : Nat) : Int) > 1048576 := by omega
    by_cases hl : ((wd.size : Nat) : Int) > 1048576
    · simp only [h2, hl, decide_true, decide_false, cond_true, cond_false]
    · simp only [h1, h2, hl, decide_true, decide_false, cond_true, cond_false, strEq_refl, Bool.not_true, beq_self_eq_true, bne_self_eq_false]
  · have h2 : ((q.size : Nat) : Int) > 1048576 := by omega
    simp only [h2, decide_true, cond_true]
end Go.Proofs.EV.PL
set_option linter.unusedVariables false
set_option linter.unusedSimpArgs false
/-! Labels of a word. -/
namespace Go.Proofs.EV.PL
open Go Go.Proofs Go.Proofs.EV Sp
def outC (w h : Nat) : Option (List UInt8) → List Q
  | some cs => [.one (.str (mkB (jn (chunk w h cs)))), .one (.bool true)]
  | none => [.one (.str ⟨#[]⟩), .one (.bool false)]
def outR : Option (List (List UInt8)) → List Q
  | some r => [.one (.str (mkB (jn r))), .one (.bool true)]
  | none => [.one (.str ⟨#[]⟩), .one (.bool false)]
theorem outR_eq (o : Option (List (List UInt8))) : outR o = [.one (.str (jnO o)), .one (.bool (isO o))] := by cases o <;> rfl
theorem bne_sgn (c : UInt8) {t : Int} (h0 : 0 ≤ t) (h9 : t ≤ 9) : ((c.toNat : Int) != ((sgn t).toNat : Int)) = !(c == sgn t) := u8bne c (sgn t) rfl
theorem bne_sub (c : UInt8) {t : Int} (h0 : 0 ≤ t) (h9 : t ≤ 9) : ((c.toNat : Int) - 48 != t) = !(c == sgn t) := by
  rw [← bne_sgn c h0 h9, sgn_nat h0 h9, bne, bne]
  congr 1
  rw [Bool.eq_iff_iff, beq_iff_eq, beq_iff_eq]
  omega
/-! spec_LabelsOfWord -/
noncomputable def spec_LabelsOfWord.cfg : Cfg := { C0 with keep := fun | 7 => some [10, 12, 35, 36, 37] | _ => none, nb := 0, M := tabM [(65, spec_boWay.stub), (53, spec_boRead.stub), (78, spec_prText.stub), (81, spec_prDigit.stub)], MM := tabB [] }
noncomputable def spec_LabelsOfWord.l7 (n : Nat) (m7 : Nat) (i0 : Int) (i1 : Int) (i2 : Int) (i3 : Int) (l4 : List (List D)) (l5 : List (List D)) (l6 : List (List D)) : Option (List Q) :=
  loopAt spec_LabelsOfWord.cfg [RK.one LK.str, RK.one LK.bool] n Tryd.f46 [1, 1, 1, 1, 1, 0, 1, 0] [] m7 (St.mk [V.undef, V.undef, V.undef, V.undef, V.undef, V.undef, V.undef, V.undef, V.undef, V.undef, V.rp (0 : Nat) (0 : Nat), V.undef, V.rw (1 : Nat), V.undef, V.undef, V.undef, V.undef, V.undef, V.undef, V.undef, V.undef, V.undef, V.undef, V.undef, V.undef, V.undef, V.undef, V.undef, V.undef, V.undef, V.undef, V.undef, V.undef, V.undef, V.undef, V.rw (2 : Nat), V.one true (D.int IntKind.i64 i0), V.one true (D.int IntKind.i64 i1), V.undef, V.undef, V.undef, V.undef, V.undef, V.undef, V.undef, V.undef, V.undef, V.undef, V.undef, V.undef, V.undef, V.undef, V.undef, V.undef, V.undef, V.undef, V.undef, V.undef, V.undef, V.undef, V.undef, V.undef, V.undef, V.undef, V.undef, V.undef, V.undef, V.undef, V.undef, V.undef, V.undef, V.undef, V.undef, V.undef, V.undef] [Ob.box [V.one true (D.int IntKind.i64 i2), V.one true (D.int IntKind.i64 i3), V.one true (D.sl (1 : Nat) l4)], Ob.row false (1 : Nat) l5, Ob.row false (8 : Nat) l6])
theorem spec_LabelsOfWord.l7_eq (n : Nat) (m7 : Nat) (i0 : Int) (i1 : Int) (i2 : Int) (i3 : Int) (l4 : List (List D)) (l5 : List (List D)) (l6 : List (List D)) :
    spec_LabelsOfWord.l7 n (m7 + 1) i0 i1 i2 i3 l4 l5 l6 = bif decide (i1 < i0) then bif decide ((0 : Int) ≤ i1) then bif decide (i1 < (↑(List.length l6) : Int)) then Option.bind (Option.bind (some (cellD l6 (Int.toNat i1) (0 : Nat))) (D.int? IntKind.i64)) fun (i1_1 : Int) => Option.bind (Option.bind (some (cellD l6 (Int.toNat i1) (1 : Nat))) (D.int? IntKind.i64)) fun (i2_1 : Int) => Option.bind (Option.bind (some (cellD l6 (Int.toNat i1) (2 : Nat))) (D.int? IntKind.i64)) fun (i3_1 : Int) => Option.bind (Option.bind (some (cellD l6 (Int.toNat i1) (3 : Nat))) (D.int? IntKind.i64)) fun (i4 : Int) => Option.bind (Option.bind (some (cellD l6 (Int.toNat i1) (4 : Nat))) (D.int? IntKind.i64)) fun (i5 : Int) => Option.bind (Option.bind (some (cellD l6 (Int.toNat i1) (5 : Nat))) (D.int? IntKind.i64)) fun (i6 : Int) => Option.bind (Option.bind (some (cellD l6 (Int.toNat i1) (6 : Nat))) (D.int? IntKind.i64)) fun (i7 : Int) => Option.bind (Option.bind (some (cellD l6 (Int.toNat i1) (7 : Nat))) (D.int? IntKind.i64)) fun (i8 : Int) => bif decide ((0 : Int) ≤ IntKind.wrap IntKind.i64 (IntKind.wrap IntKind.i64 (i2_1 * i2) + i1_1)) then bif decide (IntKind.wrap IntKind.i64 (IntKind.wrap IntKind.i64 (i2_1 * i2) + i1_1) < (↑(List.length l5) : Int)) then Option.bind (Option.bind (some (cellD l5 (Int.toNat (IntKind.wrap IntKind.i64 (IntKind.wrap IntKind.i64 (i2_1 * i2) + i1_1))) (0 : Nat))) (D.int? IntKind.u8)) fun (i9 : Int) => bif digI i9 then bif decide ((0 : Int) ≤ IntKind.wrap IntKind.i64 (IntKind.wrap IntKind.i64 (i2_1 * i2) + i1_1)) then bif decide (IntKind.wrap IntKind.i64 (IntKind.wrap IntKind.i64 (i2_1 * i2) + i1_1) < (↑(List.length l5) : Int)) then Option.bind (Option.bind (some (cellD l5 (Int.toNat (IntKind.wrap IntKind.i64 (IntKind.wrap IntKind.i64 (i2_1 * i2) + i1_1))) (0 : Nat))) (D.int? IntKind.u8)) fun (i10 : Int) => bif i10 != IntKind.wrap IntKind.u8 (IntKind.wrap IntKind.i64 ((48 : Int) + i3_1)) then some [Q.one (D.str (ByteArray.mk #[])), Q.one (D.bool false)] else bif decide ((0 : Int) ≤ IntKind.wrap IntKind.i64 (IntKind.wrap IntKind.i64 (i2_1 * i2) + i1_1)) then bif decide (IntKind.wrap IntKind.i64 (IntKind.wrap IntKind.i64 (i2_1 * i2) + i1_1) < (↑(List.length l5) : Int)) then spec_LabelsOfWord.l7 n m7 i0 (IntKind.wrap IntKind.i64 (i1 + (1 : Int))) i2 i3 l4 (setRow (1 : Nat) l5 (Int.toNat (IntKind.wrap IntKind.i64 (IntKind.wrap IntKind.i64 (i2_1 * i2) + i1_1))) (0 : Nat) [D.int IntKind.u8 (IntKind.wrap IntKind.u8 (IntKind.wrap IntKind.i64 ((48 : Int) + i3_1)))]) l6 else none else none else none else none else bif decide ((0 : Int) ≤ IntKind.wrap IntKind.i64 (IntKind.wrap IntKind.i64 (i2_1 * i2) + i1_1)) then bif decide (IntKind.wrap IntKind.i64 (IntKind.wrap IntKind.i64 (i2_1 * i2) + i1_1) < (↑(List.length l5) : Int)) then spec_LabelsOfWord.l7 n m7 i0 (IntKind.wrap IntKind.i64 (i1 + (1 : Int))) i2 i3 l4 (setRow (1 : Nat) l5 (Int.toNat (IntKind.wrap IntKind.i64 (IntKind.wrap IntKind.i64 (i2_1 * i2) + i1_1))) (0 : Nat) [D.int IntKind.u8 (IntKind.wrap IntKind.u8 (IntKind.wrap IntKind.i64 ((48 : Int) + i3_1)))]) l6 else none else none else none else none else none else none else Option.bind (Cod.decs u8C l5) fun (l11 : List UInt8) => bif inR i2 (0 : Int) (7 : Int) then bif inR i3 (0 : Int) (7 : Int) then bif decide (List.length l11 = Int.toNat i2 * Int.toNat i3) then some [Q.one (D.str (mkB (jn (chunk (Int.toNat i2) (Int.toNat i3) l11)))), Q.one (D.bool true)] else none else none else none := by kernel_rfl
noncomputable def spec_LabelsOfWord.res (n : Nat) (a0 : ByteArray) (a1_0 : Int) (a1_1 : Int) (a1_2 : Int) (a1_3 : Int) (a1_4 : Int) (a1_5 : Int) (a1_6 : Int) (a1_7 : Int) (a2 : ByteArray) : Option (List Q) :=
  bif !wayOk a0 (Sta.mk a1_0 a1_1 (Die.mk a1_2 a1_3 a1_4 a1_5 a1_6 a1_7)) a2 then some [Q.one (D.str (ByteArray.mk #[])), Q.one (D.bool false)] else bif decide ((0 : Nat) + List.length (Cod.encs u8C (boC brd a0)) ≤ (17179869184 : Nat)) then spec_LabelsOfWord.l7 n n (↑(List.length (Cod.encs stC (wayL a0 (Sta.mk a1_0 a1_1 (Die.mk a1_2 a1_3 a1_4 a1_5 a1_6 a1_7)) a2))) : Int) (0 : Int) (↑(boW brd a0) : Int) (↑(boH brd a0) : Int) (Cod.encs u8C (boC brd a0)) ([] ++ Cod.encs u8C (boC brd a0)) (Cod.encs stC (wayL a0 (Sta.mk a1_0 a1_1 (Die.mk a1_2 a1_3 a1_4 a1_5 a1_6 a1_7)) a2)) else none
theorem spec_LabelsOfWord.run (n : Nat) (a0 : ByteArray) (a1_0 : Int) (a1_1 : Int) (a1_2 : Int) (a1_3 : Int) (a1_4 : Int) (a1_5 : Int) (a1_6 : Int) (a1_7 : Int) (a2 : ByteArray) :
    run1 spec_LabelsOfWord.cfg [RK.one LK.str, RK.one LK.bool] n Tryd.f46 [Q.one (D.str a0), Q.agg [D.int IntKind.i64 a1_0, D.int IntKind.i64 a1_1, D.int IntKind.i64 a1_2, D.int IntKind.i64 a1_3, D.int IntKind.i64 a1_4, D.int IntKind.i64 a1_5, D.int IntKind.i64 a1_6, D.int IntKind.i64 a1_7], Q.one (D.str a2)] = spec_LabelsOfWord.res n a0 a1_0 a1_1 a1_2 a1_3 a1_4 a1_5 a1_6 a1_7 a2 := by kernel_rfl
theorem spec_LabelsOfWord.ev {n : Nat} {a0 : ByteArray} {a1_0 : Int} {a1_1 : Int} {a1_2 : Int} {a1_3 : Int} {a1_4 : Int} {a1_5 : Int} {a1_6 : Int} {a1_7 : Int} {a2 : ByteArray} {r : List Q} (h : spec_LabelsOfWord.res n a0 a1_0 a1_1 a1_2 a1_3 a1_4 a1_5 a1_6 a1_7 a2 = some r) : Snd Tryd.prog C0 46 [.one (.str a0), .agg [.int .i64 a1_0, .int .i64 a1_1, .int .i64 a1_2, .int .i64 a1_3, .int .i64 a1_4, .int .i64 a1_5, .int .i64 a1_6, .int .i64 a1_7], .one (.str a2)] r :=
  snd_ev (C := spec_LabelsOfWord.cfg) cfg0 mix rfl rfl rfl rfl rfl (.cons spec_boWay.ok (.cons spec_boRead.ok (.cons spec_prText.ok (.cons spec_prDigit.ok .nil)))) .nil rfl Tryd.func46 (by kernel_rfl) (by kernel_rfl) rfl ((spec_LabelsOfWord.run n a0 a1_0 a1_1 a1_2 a1_3 a1_4 a1_5 a1_6 a1_7 a2).trans h)

theorem spec_LabelsOfWord.l7_run {n : Nat} {w h : Nat} {L : List Sta} {l4 : List (List D)} (hw : w ≤ 7) (hh : h ≤ 7) (hL : L.length ≤ LIM) (hg : ∀ u ∈ L, Gds w h u) : ∀ (d i m : Nat) (cs : List UInt8), i + d = L.length → d < m → cs.length = w * h →
    spec_LabelsOfWord.l7 n m ((L.length : Nat) : Int) (i : Int) (w : Int) (h : Int) l4 (u8C.encs cs) (stC.encs L) = some (outC w h (paintLC w topS (L.drop i) cs)) := by
  intro d
  induction d with
  | zero =>
    intro i m cs hi hm hc
    obtain ⟨m, rfl⟩ : ∃ m', m = m' + 1 := ⟨m - 1, by omega⟩
    have h1 : ¬ (i : Int) < ((L.length : Nat) : Int) := by omega
    have hwh : w * h ≤ 49 := by
      have := Nat.mul_le_mul hw hh
      omega
    have i1 : inR (w : Int) 0 7 = true := by
      unfold inR
      rw [Bool.and_eq_true, decide_eq_true_eq, decide_eq_true_eq]; omega
    have i2 : inR (h : Int) 0 7 = true := by
      unfold inR
      rw [Bool.and_eq_true, decide_eq_true_eq, decide_eq_true_eq]; omega
    rw [spec_LabelsOfWord.l7_eq, List.drop_of_length_le (by omega)]
    simp only [h1, decide_false, cond_false, Cod.decs_encs (c := u8C) (l := cs) (by unfold LIM; omega), Option.bind_some, i1, i2, Int.toNat_natCast, hc, decide_true, cond_true]
    rfl
  | succ d ih =>
    intro i m cs hi hm hc
    obtain ⟨m, rfl⟩ : ∃ m', m = m' + 1 := ⟨m - 1, by omega⟩
    have hlt : i < L.length := by omega
    have h1 : (i : Int) < ((L.length : Nat) : Int) := by omega
    obtain ⟨c0, c1, c2, c3, c4, c5, c6, c7⟩ := st_cells hlt
    have g := hg L[i] (List.getElem_mem hlt)
    obtain ⟨e1, e2⟩ := gd_ix hw hh g
    have hlc : L[i].y.toNat * w + L[i].x.toNat < cs.length := by omega
    have e3 : ((L[i].y.toNat * w + L[i].x.toNat : Nat) : Int) < ((cs.length : Nat) : Int) := by omega
    have gg := (good_all L[i].d).1 g.g
    have ht := gg.1
    have step := ih (i + 1) m (cs.set (L[i].y.toNat * w + L[i].x.toNat) (sgn (topS L[i]))) (by omega) (by omega) (by rw [List.length_set]; exact hc)
    have hcell : cs.getD (L[i].y.toNat * w + L[i].x.toNat) 0 = cs[L[i].y.toNat * w + L[i].x.toNat] := by
      rw [List.getD_eq_getElem?_getD, List.getElem?_eq_getElem hlc]; rfl
    rw [spec_LabelsOfWord.l7_eq, List.drop_eq_getElem_cons hlt, paintLC, hcell]
    simp only [h1, Cod.encs_len, Int.natCast_nonneg, Int.toNat_natCast, decide_true, cond_true, c0, c1, c2, c3, c4, c5, c6, c7, Option.bind_some, e1, e3, u8C_cell hlc, sgn_val ht.1 ht.2, u8C_set, wrap_succ (show i ≤ LIM by omega)]
    rw [show digI (cs[L[i].y.toNat * w + L[i].x.toNat].toNat : Int) = dig cs[L[i].y.toNat * w + L[i].x.toNat] from rfl, bne_sgn _ ht.1 ht.2]
    have step : spec_LabelsOfWord.l7 n m ((L.length : Nat) : Int) ((i + 1 : Nat) : Int) (w : Int) (h : Int) l4 (u8C.encs (cs.set (L[i].y.toNat * w + L[i].x.toNat) (sgn L[i].d.t))) (stC.encs L) = _ := step
    rw [step, show sgn (topS L[i]) = sgn L[i].d.t from rfl]
    cases dig cs[L[i].y.toNat * w + L[i].x.toNat]
    · rfl
    · cases cs[L[i].y.toNat * w + L[i].x.toNat] == sgn L[i].d.t <;> rfl
def spec_LabelsOfWord.stub : Stub
  | [.one (.str q), .agg [.int .i64 x, .int .i64 y, .int .i64 t, .int .i64 n, .int .i64 e, .int .i64 s, .int .i64 w, .int .i64 b], .one (.str wd)] => .ret [.one (.str (Sp.jnO (Sp.labelO q ⟨x, y, ⟨t, n, e, s, w, b⟩⟩ wd))), .one (.bool (Sp.isO (Sp.labelO q ⟨x, y, ⟨t, n, e, s, w, b⟩⟩ wd)))]
  | _ => .fail
theorem spec_LabelsOfWord.ok : StubOk Tryd.prog C0 46 spec_LabelsOfWord.stub := by
  intro args res h
  unfold spec_LabelsOfWord.stub at h
  split at h
  · rename_i q x y t n e s w b wd
    cases h
    obtain ⟨N, hN⟩ : ∃ N, 64 ≤ N := ⟨64, Nat.le_refl _⟩
    refine spec_LabelsOfWord.ev (n := N) ?_
    unfold spec_LabelsOfWord.res labelO
    cases hk : wayOk q ⟨x, y, ⟨t, n, e, s, w, b⟩⟩ wd with
    | false => rfl
    | true =>
      obtain ⟨h1, h2, h3, h4, h5⟩ := way_out hk
      obtain ⟨hb, _, _, _, _⟩ := okSt_out h1
      obtain ⟨k1, _⟩ := isWord_out h2
      obtain ⟨b1, b2, b3, b4⟩ := isBo_fine hb
      obtain ⟨e1, e2, e3, _, _, e6, e7⟩ := bo_ok hb
      rw [e1] at e7
      have hl0 : 0 + (rws q).flatten.length ≤ 17179869184 := by unfold LIM at e7; omega
      have key := spec_LabelsOfWord.l7_run (n := N) (l4 := u8C.encs (rws q).flatten) b3.2 b2.2 (L := alL (isFl (rws q)) ⟨x, y, ⟨t, n, e, s, w, b⟩⟩ wd) (by unfold LIM; omega) (alL_gd h1) (alL (isFl (rws q)) ⟨x, y, ⟨t, n, e, s, w, b⟩⟩ wd).length 0 N (rws q).flatten (by omega) (by omega) (flat_len b1)
      rw [List.drop_zero] at key
      obtain ⟨p1, p2⟩ := paintL_flat topS (alL (isFl (rws q)) ⟨x, y, ⟨t, n, e, s, w, b⟩⟩ wd) (rws q) (rws_rw hb) (alL_gd h1)
      rw [p1] at key
      simp only [Bool.not_true, cond_false, cond_true, h4, e1, e2, e3, Cod.encs_len, hl0, decide_true, List.nil_append]
      refine key.trans ?_
      rw [← outR_eq]
      cases ho : paintL topS (alL (isFl (rws q)) ⟨x, y, ⟨t, n, e, s, w, b⟩⟩ wd) (rws q) with
      | none => rfl
      | some r' =>
        have hr := p2 r' ho
        have p3 := chunk_flat _ _ hr.row
        rw [hr.len] at p3
        show some [Q.one (.str (mkB (jn (chunk (wOf (rws q)) (rws q).length r'.flatten)))), Q.one (.bool true)] = some [Q.one (.str (mkB (jn r'))), Q.one (.bool true)]
        rw [p3]
  · cases h
/-! impl_LabelsOfWord -/
noncomputable def impl_LabelsOfWord.cfg : Cfg := { C0 with keep := fun | 6 => some [10, 30, 31, 32] | _ => none, nb := 0, M := tabM [(68, impl_statesAlong.stub), (56, impl_board.stub), (80, impl_grid_put.stub), (58, impl_grid_text.stub), (82, impl_grid_label.stub)], MM := tabB [] }
noncomputable def impl_LabelsOfWord.l6 (n : Nat) (m6 : Nat) (i0 : Int) (i1 : Int) (l2 : List (List D)) (l3 : List (List D)) : Option (List Q) :=
  loopAt impl_LabelsOfWord.cfg [RK.one LK.str, RK.one LK.bool] n Tryd.f47 [1, 1, 1, 1, 0, 1, 0] [] m6 (St.mk [V.undef, V.undef, V.undef, V.undef, V.undef, V.undef, V.undef, V.undef, V.undef, V.undef, V.rw (0 : Nat), V.undef, V.undef, V.undef, V.undef, V.undef, V.undef, V.undef, V.undef, V.undef, V.undef, V.undef, V.undef, V.undef, V.undef, V.undef, V.undef, V.undef, V.undef, V.undef, V.rw (1 : Nat), V.one true (D.int IntKind.i64 i0), V.one true (D.int IntKind.i64 i1), V.undef, V.undef, V.undef, V.undef, V.undef, V.undef, V.undef, V.undef, V.undef, V.undef, V.undef, V.undef, V.undef, V.undef, V.undef, V.undef, V.undef, V.undef, V.undef, V.undef, V.undef, V.undef, V.undef, V.undef, V.undef, V.undef, V.undef, V.undef, V.undef, V.undef, V.undef, V.undef] [Ob.row false (1 : Nat) l2, Ob.row false (8 : Nat) l3])
theorem impl_LabelsOfWord.l6_eq (n : Nat) (m6 : Nat) (i0 : Int) (i1 : Int) (l2 : List (List D)) (l3 : List (List D)) :
    impl_LabelsOfWord.l6 n (m6 + 1) i0 i1 l2 l3 = bif decide (i1 < i0) then bif decide ((0 : Int) ≤ i1) then bif decide (i1 < (↑(List.length l3) : Int)) then Option.bind (Option.bind (some (cellD l3 (Int.toNat i1) (0 : Nat))) (D.int? IntKind.i64)) fun (i1_1 : Int) => Option.bind (Option.bind (some (cellD l3 (Int.toNat i1) (1 : Nat))) (D.int? IntKind.i64)) fun (i2 : Int) => Option.bind (Option.bind (some (cellD l3 (Int.toNat i1) (2 : Nat))) (D.int? IntKind.i64)) fun (i3 : Int) => Option.bind (Option.bind (some (cellD l3 (Int.toNat i1) (3 : Nat))) (D.int? IntKind.i64)) fun (i4 : Int) => Option.bind (Option.bind (some (cellD l3 (Int.toNat i1) (4 : Nat))) (D.int? IntKind.i64)) fun (i5 : Int) => Option.bind (Option.bind (some (cellD l3 (Int.toNat i1) (5 : Nat))) (D.int? IntKind.i64)) fun (i6 : Int) => Option.bind (Option.bind (some (cellD l3 (Int.toNat i1) (6 : Nat))) (D.int? IntKind.i64)) fun (i7 : Int) => Option.bind (Option.bind (some (cellD l3 (Int.toNat i1) (7 : Nat))) (D.int? IntKind.i64)) fun (i8 : Int) => Option.bind (Cod.decs strC l2) fun (l9 : List ByteArray) => bif unif (lb l9) then bif smallR l9 then bif digI (atZ (lb l9) i1_1 i2) then bif atZ (lb l9) i1_1 i2 - (48 : Int) != i3 then some [Q.one (D.str (ByteArray.mk #[])), Q.one (D.bool false)] else Option.bind (Cod.decs strC l2) fun (l10 : List ByteArray) => bif unif (lb l10) then bif smallR l10 then bif isIn (lb l10) i1_1 i2 then bif inR i3 (0 : Int) (9 : Int) then impl_LabelsOfWord.l6 n m6 i0 (IntKind.wrap IntKind.i64 (i1 + (1 : Int))) (Cod.encs strC (putL l10 (Int.toNat i1_1) (Int.toNat i2) i3)) l3 else none else none else none else none else Option.bind (Cod.decs strC l2) fun (l11 : List ByteArray) => bif unif (lb l11) then bif smallR l11 then bif isIn (lb l11) i1_1 i2 then bif inR i3 (0 : Int) (9 : Int) then impl_LabelsOfWord.l6 n m6 i0 (IntKind.wrap IntKind.i64 (i1 + (1 : Int))) (Cod.encs strC (putL l11 (Int.toNat i1_1) (Int.toNat i2) i3)) l3 else none else none else none else none else none else none else none else none else Option.bind (Cod.decs strC l2) fun (l12 : List ByteArray) => bif decide (List.length (jn (lb l12)) ≤ (17179869184 : Nat)) then some [Q.one (D.str (mkB (jn (lb l12)))), Q.one (D.bool true)] else none := by kernel_rfl
noncomputable def impl_LabelsOfWord.res (n : Nat) (a0 : ByteArray) (a1_0 : Int) (a1_1 : Int) (a1_2 : Int) (a1_3 : Int) (a1_4 : Int) (a1_5 : Int) (a1_6 : Int) (a1_7 : Int) (a2 : ByteArray) : Option (List Q) :=
  bif decide (ByteArray.size a0 < (17179869184 : Nat)) then bif !wayOk a0 (Sta.mk a1_0 a1_1 (Die.mk a1_2 a1_3 a1_4 a1_5 a1_6 a1_7)) a2 then some [Q.one (D.str (ByteArray.mk #[])), Q.one (D.bool false)] else bif decide (ByteArray.size a0 < (17179869184 : Nat)) then impl_LabelsOfWord.l6 n n (↑(List.length (Cod.encs stC (wayI a0 (Sta.mk a1_0 a1_1 (Die.mk a1_2 a1_3 a1_4 a1_5 a1_6 a1_7)) a2))) : Int) (0 : Int) (Cod.encs strC (gridI brd a0)) (Cod.encs stC (wayI a0 (Sta.mk a1_0 a1_1 (Die.mk a1_2 a1_3 a1_4 a1_5 a1_6 a1_7)) a2)) else none else none
theorem impl_LabelsOfWord.run (n : Nat) (a0 : ByteArray) (a1_0 : Int) (a1_1 : Int) (a1_2 : Int) (a1_3 : Int) (a1_4 : Int) (a1_5 : Int) (a1_6 : Int) (a1_7 : Int) (a2 : ByteArray) :
    run1 impl_LabelsOfWord.cfg [RK.one LK.str, RK.one LK.bool] n Tryd.f47 [Q.one (D.str a0), Q.agg [D.int IntKind.i64 a1_0, D.int IntKind.i64 a1_1, D.int IntKind.i64 a1_2, D.int IntKind.i64 a1_3, D.int IntKind.i64 a1_4, D.int IntKind.i64 a1_5, D.int IntKind.i64 a1_6, D.int IntKind.i64 a1_7], Q.one (D.str a2)] = impl_LabelsOfWord.res n a0 a1_0 a1_1 a1_2 a1_3 a1_4 a1_5 a1_6 a1_7 a2 := by kernel_rfl
theorem impl_LabelsOfWord.ev {n : Nat} {a0 : ByteArray} {a1_0 : Int} {a1_1 : Int} {a1_2 : Int} {a1_3 : Int} {a1_4 : Int} {a1_5 : Int} {a1_6 : Int} {a1_7 : Int} {a2 : ByteArray} {r : List Q} (h : impl_LabelsOfWord.res n a0 a1_0 a1_1 a1_2 a1_3 a1_4 a1_5 a1_6 a1_7 a2 = some r) : Snd Tryd.prog C0 47 [.one (.str a0), .agg [.int .i64 a1_0, .int .i64 a1_1, .int .i64 a1_2, .int .i64 a1_3, .int .i64 a1_4, .int .i64 a1_5, .int .i64 a1_6, .int .i64 a1_7], .one (.str a2)] r :=
  snd_ev (C := impl_LabelsOfWord.cfg) cfg0 mix rfl rfl rfl rfl rfl (.cons impl_statesAlong.ok (.cons impl_board.ok (.cons impl_grid_put.ok (.cons impl_grid_text.ok (.cons impl_grid_label.ok .nil))))) .nil rfl Tryd.func47 (by kernel_rfl) (by kernel_rfl) rfl ((impl_LabelsOfWord.run n a0 a1_0 a1_1 a1_2 a1_3 a1_4 a1_5 a1_6 a1_7 a2).trans h)

theorem impl_LabelsOfWord.l6_run {n : Nat} {w h : Nat} {L : List Sta} (hw : w ≤ 7) (hh : h ≤ 7) (h0 : 0 < h) (hL : L.length ≤ LIM) (hg : ∀ u ∈ L, Gds w h u) : ∀ (d i m : Nat) (l : List ByteArray), i + d = L.length → d < m → Rw w h (lb l) →
    impl_LabelsOfWord.l6 n m ((L.length : Nat) : Int) (i : Int) (strC.encs l) (stC.encs L) = some (outR (paintL topS (L.drop i) (lb l))) := by
  intro d
  induction d with
  | zero =>
    intro i m l hi hm hr
    obtain ⟨m, rfl⟩ : ∃ m', m = m' + 1 := ⟨m - 1, by omega⟩
    have h1 : ¬ (i : Int) < ((L.length : Nat) : Int) := by omega
    obtain ⟨r1, r2⟩ := rw_small hr hw hh
    rw [impl_LabelsOfWord.l6_eq, List.drop_of_length_le (by omega)]
    simp only [h1, decide_false, cond_false, Cod.decs_encs (c := strC) (l := l) (by unfold LIM; omega), Option.bind_some, decide_eq_true (rw_jn hr hw hh), cond_true]
    rfl
  | succ d ih =>
    intro i m l hi hm hr
    obtain ⟨m, rfl⟩ : ∃ m', m = m' + 1 := ⟨m - 1, by omega⟩
    have hlt : i < L.length := by omega
    have h1 : (i : Int) < ((L.length : Nat) : Int) := by omega
    obtain ⟨c0, c1, c2, c3, c4, c5, c6, c7⟩ := st_cells hlt
    have g := hg L[i] (List.getElem_mem hlt)
    obtain ⟨r1, r2⟩ := rw_small hr hw hh
    obtain ⟨u1, u2⟩ := hr.out h0
    have gg := (good_all L[i].d).1 g.g
    have ht := gg.1
    have i9 : inR L[i].d.t 0 9 = true := by
      unfold inR
      rw [Bool.and_eq_true, decide_eq_true_eq, decide_eq_true_eq]; exact ht
    have hin : isIn (lb l) L[i].x L[i].y = true := by
      obtain ⟨x0, x1, y0, y1, _⟩ := g
      unfold isIn inR
      rw [u2, lb_len, r2]
      simp only [Bool.and_eq_true, decide_eq_true_eq]; omega
    have hat : atZ (lb l) L[i].x L[i].y = ((((lb l).getD L[i].y.toNat []).getD L[i].x.toNat 0).toNat : Int) := by
      unfold atZ
      unfold isIn at hin
      rw [hin]; rfl
    have step := ih (i + 1) m (putL l L[i].x.toNat L[i].y.toNat L[i].d.t) (by omega) (by omega) (by rw [lb_put]; exact hr.set _ _ _)
    rw [lb_put] at step
    rw [impl_LabelsOfWord.l6_eq, List.drop_eq_getElem_cons hlt, paintL]
    simp only [h1, Cod.encs_len, Int.natCast_nonneg, Int.toNat_natCast, decide_true, cond_true, c0, c1, c2, c3, c4, c5, c6, c7, Option.bind_some, Cod.decs_encs (c := strC) (l := l) (by unfold LIM; omega), u1, r1, hin, i9, wrap_succ (show i ≤ LIM by omega), hat, step]
    rw [show sgn (topS L[i]) = sgn L[i].d.t from rfl, bne_sub _ ht.1 ht.2]
    generalize ((lb l).getD L[i].y.toNat []).getD L[i].x.toNat 0 = c
    rw [show digI (c.toNat : Int) = dig c from rfl]
    cases dig c
    · rfl
    · cases c == sgn L[i].d.t <;> rfl
def impl_LabelsOfWord.stub : Stub
  | [.one (.str q), .agg [.int .i64 x, .int .i64 y, .int .i64 t, .int .i64 n, .int .i64 e, .int .i64 s, .int .i64 w, .int .i64 b], .one (.str wd)] => .gd (decide (q.size < LIM)) (.ret [.one (.str (Sp.jnO (Sp.labelO q ⟨x, y, ⟨t, n, e, s, w, b⟩⟩ wd))), .one (.bool (Sp.isO (Sp.labelO q ⟨x, y, ⟨t, n, e, s, w, b⟩⟩ wd)))])
  | _ => .fail
theorem impl_LabelsOfWord.ok : StubOk Tryd.prog C0 47 impl_LabelsOfWord.stub := by
  intro args res h
  unfold impl_LabelsOfWord.stub at h
  split at h
  · rename_i q x y t n e s w b wd
    obtain ⟨hs, h0⟩ := gd_out h
    cases h0
    unfold LIM at hs
    obtain ⟨N, hN⟩ : ∃ N, 64 ≤ N := ⟨64, Nat.le_refl _⟩
    refine impl_LabelsOfWord.ev (n := N) ?_
    unfold impl_LabelsOfWord.res labelO
    rw [hs]
    cases hk : wayOk q ⟨x, y, ⟨t, n, e, s, w, b⟩⟩ wd with
    | false => rfl
    | true =>
      obtain ⟨h1, h2, h3, h4, h5⟩ := way_out hk
      obtain ⟨hb, _, _, _, _⟩ := okSt_out h1
      obtain ⟨k1, _⟩ := isWord_out h2
      obtain ⟨b1, b2, b3, b4⟩ := isBo_fine hb
      obtain ⟨g1, _, _, _, _, _⟩ := Sp.gr_ok hb
      have key := impl_LabelsOfWord.l6_run (n := N) b3.2 b2.2 (by omega) (L := alL (isFl (rws q)) ⟨x, y, ⟨t, n, e, s, w, b⟩⟩ wd) (by unfold LIM; omega) (alL_gd h1) (alL (isFl (rws q)) ⟨x, y, ⟨t, n, e, s, w, b⟩⟩ wd).length 0 N (gridI brd q) (by omega) (by omega) (by rw [g1]; exact rws_rw hb)
      rw [List.drop_zero, g1, outR_eq] at key
      simp only [Bool.not_true, cond_false, cond_true, h5, Cod.encs_len]
      exact key
  · cases h
/-! laws_FnExactLabelsOfWord -/
noncomputable def laws_FnExactLabelsOfWord.cfg : Cfg := { C0 with keep := fun _ => none, nb := 0, M := tabM [(44, laws_toState.stub), (46, spec_LabelsOfWord.stub), (47, impl_LabelsOfWord.stub)], MM := tabB [] }
noncomputable def laws_FnExactLabelsOfWord.res (n : Nat) (a0 : ByteArray) (a1_0 : Int) (a1_1 : Int) (a1_2 : Int) (a1_3 : Int) (a1_4 : Int) (a1_5 : Int) (a1_6 : Int) (a1_7 : Int) (a2 : ByteArray) : Option (List Q) :=
  bif decide ((↑(ByteArray.size a0) : Int) > (1048576 : Int)) then some [Q.one (D.bool true)] else bif decide ((↑(ByteArray.size a2) : Int) > (1048576 : Int)) then some [Q.one (D.bool true)] else bif decide (ByteArray.size a0 < (17179869184 : Nat)) then bif !strEq (jnO (labelO a0 (Sta.mk a1_0 a1_1 (Die.mk a1_2 a1_3 a1_4 a1_5 a1_6 a1_7)) a2)) (jnO (labelO a0 (Sta.mk a1_0 a1_1 (Die.mk a1_2 a1_3 a1_4 a1_5 a1_6 a1_7)) a2)) then some [Q.one (D.bool false)] else bif !isO (labelO a0 (Sta.mk a1_0 a1_1 (Die.mk a1_2 a1_3 a1_4 a1_5 a1_6 a1_7)) a2) == isO (labelO a0 (Sta.mk a1_0 a1_1 (Die.mk a1_2 a1_3 a1_4 a1_5 a1_6 a1_7)) a2) then some [Q.one (D.bool false)] else some [Q.one (D.bool true)] else none
theorem laws_FnExactLabelsOfWord.run (n : Nat) (a0 : ByteArray) (a1_0 : Int) (a1_1 : Int) (a1_2 : Int) (a1_3 : Int) (a1_4 : Int) (a1_5 : Int) (a1_6 : Int) (a1_7 : Int) (a2 : ByteArray) :
    run1 laws_FnExactLabelsOfWord.cfg [RK.one LK.bool] n Tryd.f14 [Q.one (D.str a0), Q.agg [D.int IntKind.i64 a1_0, D.int IntKind.i64 a1_1, D.int IntKind.i64 a1_2, D.int IntKind.i64 a1_3, D.int IntKind.i64 a1_4, D.int IntKind.i64 a1_5, D.int IntKind.i64 a1_6, D.int IntKind.i64 a1_7], Q.one (D.str a2)] = laws_FnExactLabelsOfWord.res n a0 a1_0 a1_1 a1_2 a1_3 a1_4 a1_5 a1_6 a1_7 a2 := by kernel_rfl
theorem laws_FnExactLabelsOfWord.ev {n : Nat} {a0 : ByteArray} {a1_0 : Int} {a1_1 : Int} {a1_2 : Int} {a1_3 : Int} {a1_4 : Int} {a1_5 : Int} {a1_6 : Int} {a1_7 : Int} {a2 : ByteArray} {r : List Q} (h : laws_FnExactLabelsOfWord.res n a0 a1_0 a1_1 a1_2 a1_3 a1_4 a1_5 a1_6 a1_7 a2 = some r) : Snd Tryd.prog C0 14 [.one (.str a0), .agg [.int .i64 a1_0, .int .i64 a1_1, .int .i64 a1_2, .int .i64 a1_3, .int .i64 a1_4, .int .i64 a1_5, .int .i64 a1_6, .int .i64 a1_7], .one (.str a2)] r :=
  snd_ev (C := laws_FnExactLabelsOfWord.cfg) cfg0 mix rfl rfl rfl rfl rfl (.cons laws_toState.ok (.cons spec_LabelsOfWord.ok (.cons impl_LabelsOfWord.ok .nil))) .nil rfl Tryd.func14 (by kernel_rfl) (by kernel_rfl) rfl ((laws_FnExactLabelsOfWord.run n a0 a1_0 a1_1 a1_2 a1_3 a1_4 a1_5 a1_6 a1_7 a2).trans h)

theorem laws_FnExactLabelsOfWord.law (q : ByteArray) (x y t n e s w b : Int) (wd : ByteArray) : Snd Tryd.prog C0 14 [.one (.str q), .agg [.int .i64 x, .int .i64 y, .int .i64 t, .int .i64 n, .int .i64 e, .int .i64 s, .int .i64 w, .int .i64 b], .one (.str wd)] [.one (.bool true)] := by
  refine laws_FnExactLabelsOfWord.ev (n := 0) ?_
  unfold laws_FnExactLabelsOfWord.res
  by_cases hs : q.size ≤ 1048576
  · have h1 : q.size < 17179869184 := by omega
    have h2 : ¬ ((q.size : Nat) : Int) > 1048576 := by omega
    by_cases hl : ((wd.size : Nat) : Int) > 1048576
    · simp only [h2, hl, decide_true, decide_false, cond_true, cond_false]
    · simp only [h1, h2, hl, decide_true, decide_false, cond_true, cond_false, strEq_refl, Bool.not_true, beq_self_eq_true, bne_self_eq_false]
  · have h2 : ((q.size : Nat) : Int) > 1048576 := by omega
    simp only [h2, decide_true, cond_true]
end Go.Proofs.EV.PL
set_option linter.unusedVariables false
set_option linter.unusedSimpArgs false
/-! Dice shown along a word. -/
namespace Go.Proofs.EV.PL
open Go Go.Proofs Go.Proofs.EV Sp
theorem sgn_of {n : Int} (h0 : 0 ≤ n) (h9 : n ≤ 9) : UInt8.ofNat (Int.toNat (IntKind.wrap .u8 (IntKind.wrap .i64 (48 + n)))) = sgn n := by
  rw [sgn_val h0 h9, Int.toNat_natCast, UInt8.ofNat_toNat]
theorem intC_at {l : List Int} {k : Nat} (h : k < l.length) : D.int? .i64 (cellD (intC.encs l) k 0) = some l[k] := by rw [Cod.encs_cell h]; rfl
/-! spec_l1Num -/
noncomputable def spec_l1Num.cfg : Cfg := { C0 with keep := fun _ => none, nb := 0, M := tabM [], MM := tabB [] }
noncomputable def spec_l1Num.res (n : Nat) (a0 : Int) : Option (List Q) :=
  bif decide (a0 < (10 : Int)) then some [Q.one (D.str (ByteArray.mk #[UInt8.ofNat (Int.toNat (IntKind.wrap IntKind.u8 (IntKind.wrap IntKind.i64 ((48 : Int) + a0))))]))] else none
theorem spec_l1Num.run (n : Nat) (a0 : Int) :
    run1 spec_l1Num.cfg [RK.one LK.str] n Tryd.f101 [Q.one (D.int IntKind.i64 a0)] = spec_l1Num.res n a0 := by kernel_rfl
theorem spec_l1Num.ev {n : Nat} {a0 : Int} {r : List Q} (h : spec_l1Num.res n a0 = some r) : Snd Tryd.prog C0 101 [.one (.int .i64 a0)] r :=
  snd_ev (C := spec_l1Num.cfg) cfg0 mix rfl rfl rfl rfl rfl .nil .nil rfl Tryd.func101 (by kernel_rfl) (by kernel_rfl) rfl ((spec_l1Num.run n a0).trans h)

def spec_l1Num.stub : Stub
  | [.one (.int .i64 n)] => .gd (Sp.inR n 0 9) (.ret [.one (.str (Sp.mkB [Sp.sgn n]))])
  | _ => .fail
theorem spec_l1Num.ok : StubOk Tryd.prog C0 101 spec_l1Num.stub := by
  intro args res h
  unfold spec_l1Num.stub at h
  split at h
  · rename_i n
    obtain ⟨h1, h0⟩ := gd_out h
    cases h0
    obtain ⟨a, b⟩ := inR_out h1
    have h10 : n < 10 := by omega
    refine spec_l1Num.ev (n := 0) ?_
    unfold spec_l1Num.res
    rw [decide_eq_true h10, cond_true, sgn_of a b]; rfl
  · cases h
/-! spec_diText -/
noncomputable def spec_diText.cfg : Cfg := { C0 with keep := fun | 3 => some [3, 7, 8, 9] | _ => none, nb := 0, M := tabM [(100, spec_diFaces.stub), (101, spec_l1Num.stub)], MM := tabB [] }
noncomputable def spec_diText.l3 (n : Nat) (m3 : Nat) (s0 : ByteArray) (i1 : Int) (i2 : Int) (l3 : List (List D)) : Option (List Q) :=
  loopAt spec_diText.cfg [RK.one LK.str] n Tryd.f75 [1, 1, 0, 1, 0] [] m3 (St.mk [V.undef, V.undef, V.undef, V.one true (D.str s0), V.undef, V.undef, V.undef, V.rw (0 : Nat), V.one true (D.int IntKind.i64 i1), V.one true (D.int IntKind.i64 i2), V.undef, V.undef, V.undef, V.undef, V.undef, V.undef, V.undef, V.undef, V.undef] [Ob.row false (1 : Nat) l3])
theorem spec_diText.l3_eq (n : Nat) (m3 : Nat) (s0 : ByteArray) (i1 : Int) (i2 : Int) (l3 : List (List D)) :
    spec_diText.l3 n (m3 + 1) s0 i1 i2 l3 = bif decide (i2 < i1) then bif decide ((0 : Int) ≤ i2) then bif decide (i2 < (↑(List.length l3) : Int)) then Option.bind (Option.bind (some (cellD l3 (Int.toNat i2) (0 : Nat))) (D.int? IntKind.i64)) fun (i1_1 : Int) => bif inR i1_1 (0 : Int) (9 : Int) then bif decide (ByteArray.size s0 + ByteArray.size (mkB [sgn i1_1]) ≤ (17179869184 : Nat)) then spec_diText.l3 n m3 (s0 ++ mkB [sgn i1_1]) i1 (IntKind.wrap IntKind.i64 (i2 + (1 : Int))) l3 else none else none else none else none else some [Q.one (D.str s0)] := by kernel_rfl
noncomputable def spec_diText.res (n : Nat) (a0_0 : Int) (a0_1 : Int) (a0_2 : Int) (a0_3 : Int) (a0_4 : Int) (a0_5 : Int) : Option (List Q) :=
  spec_diText.l3 n n (ByteArray.mk #[]) (6 : Int) (0 : Int) [[D.int IntKind.i64 a0_0], [D.int IntKind.i64 a0_1], [D.int IntKind.i64 a0_2], [D.int IntKind.i64 a0_3], [D.int IntKind.i64 a0_4], [D.int IntKind.i64 a0_5]]
theorem spec_diText.run (n : Nat) (a0_0 : Int) (a0_1 : Int) (a0_2 : Int) (a0_3 : Int) (a0_4 : Int) (a0_5 : Int) :
    run1 spec_diText.cfg [RK.one LK.str] n Tryd.f75 [Q.agg [D.int IntKind.i64 a0_0, D.int IntKind.i64 a0_1, D.int IntKind.i64 a0_2, D.int IntKind.i64 a0_3, D.int IntKind.i64 a0_4, D.int IntKind.i64 a0_5]] = spec_diText.res n a0_0 a0_1 a0_2 a0_3 a0_4 a0_5 := by kernel_rfl
theorem spec_diText.ev {n : Nat} {a0_0 : Int} {a0_1 : Int} {a0_2 : Int} {a0_3 : Int} {a0_4 : Int} {a0_5 : Int} {r : List Q} (h : spec_diText.res n a0_0 a0_1 a0_2 a0_3 a0_4 a0_5 = some r) : Snd Tryd.prog C0 75 [.agg [.int .i64 a0_0, .int .i64 a0_1, .int .i64 a0_2, .int .i64 a0_3, .int .i64 a0_4, .int .i64 a0_5]] r :=
  snd_ev (C := spec_diText.cfg) cfg0 mix rfl rfl rfl rfl rfl (.cons spec_diFaces.ok (.cons spec_l1Num.ok .nil)) .nil rfl Tryd.func75 (by kernel_rfl) (by kernel_rfl) rfl ((spec_diText.run n a0_0 a0_1 a0_2 a0_3 a0_4 a0_5).trans h)

theorem spec_diText.l3_run {n : Nat} : ∀ (rest done : List Int) (m : Nat), done.length + rest.length = 6 → rest.length < m → (∀ z ∈ rest, inR z 0 9 = true) →
    spec_diText.l3 n m (mkB (done.map sgn)) 6 (done.length : Int) (intC.encs (done ++ rest)) = some [Q.one (.str (mkB ((done ++ rest).map sgn)))]
  | [], done, m, hl, hm, _ => by
    obtain ⟨m, rfl⟩ : ∃ m', m = m' + 1 := ⟨m - 1, by simp at hm; omega⟩
    have h1 : ¬ (done.length : Int) < 6 := by simp at hl; omega
    rw [spec_diText.l3_eq]
    simp only [h1, decide_false, cond_false, List.append_nil]
  | z :: rest, done, m, hl, hm, hz => by
    obtain ⟨m, rfl⟩ : ∃ m', m = m' + 1 := ⟨m - 1, by simp at hm; omega⟩
    rw [List.length_cons] at hl hm
    have h1 : (done.length : Int) < 6 := by omega
    have hlt : done.length < (done ++ z :: rest).length := by simp
    have h2 : (done.length : Int) < (((done ++ z :: rest).length : Nat) : Int) := by omega
    have hget : (done ++ z :: rest)[done.length] = z := by
      rw [List.getElem_append_right (by simp)]
      simp
    have h9 := hz z List.mem_cons_self
    have g1 : (mkB (done.map sgn)).size + (mkB [sgn z]).size ≤ 17179869184 := by
      rw [mkB_size, mkB_size, List.length_map, List.length_singleton]; omega
    have step := spec_diText.l3_run (n := n) rest (done ++ [z]) m (by simp; omega) (by omega) (fun y hy => hz y (List.mem_cons_of_mem _ hy))
    rw [List.length_append, List.length_singleton, List.append_assoc, List.singleton_append, List.map_append, List.map_singleton] at step
    rw [spec_diText.l3_eq]
    simp only [h1, h2, h9, g1, Cod.encs_len, Int.natCast_nonneg, Int.toNat_natCast, decide_true, cond_true, intC_at hlt, hget, Option.bind_some, wrap_succ (show done.length ≤ LIM by unfold LIM; omega), mkB_app]
    exact step
theorem faces_in {d : Die} (h : d.good = true) : ∀ z ∈ [d.t, d.n, d.e, d.s, d.w, d.b], inR z 0 9 = true := by
  intro z hz
  unfold Die.good allR at h
  exact List.all_eq_true.1 h z hz
def spec_diText.stub : Stub
  | [.agg [.int .i64 t, .int .i64 n, .int .i64 e, .int .i64 s, .int .i64 w, .int .i64 b]] => .gd (Sp.Die.good ⟨t, n, e, s, w, b⟩) (.ret [.one (.str (Sp.dieT ⟨t, n, e, s, w, b⟩))])
  | _ => .fail
theorem spec_diText.ok : StubOk Tryd.prog C0 75 spec_diText.stub := by
  intro args res h
  unfold spec_diText.stub at h
  split at h
  · rename_i t n e s w b
    obtain ⟨h1, h0⟩ := gd_out h
    cases h0
    obtain ⟨N, hN⟩ : ∃ N, 64 ≤ N := ⟨64, Nat.le_refl _⟩
    refine spec_diText.ev (n := N) ?_
    have key := spec_diText.l3_run (n := N) [t, n, e, s, w, b] [] N rfl (by simp; omega) (faces_in h1)
    exact key
  · cases h
/-! impl_DieText -/
noncomputable def impl_DieText.cfg : Cfg := { C0 with keep := fun | 5 => some [4, 12, 13, 14] | _ => none, nb := 0, M := tabM [(102, impl_IsDie.stub), (103, impl_Die_faces.stub)], MM := tabB [] }
noncomputable def impl_DieText.l5 (n : Nat) (m5 : Nat) (i0 : Int) (i1 : Int) (l2 : List (List D)) (l3 : List (List D)) : Option (List Q) :=
  loopAt impl_DieText.cfg [RK.one LK.str, RK.one LK.bool] n Tryd.f76 [1, 1, 1, 0, 1, 0] [] m5 (St.mk [V.undef, V.undef, V.undef, V.undef, V.rw (0 : Nat), V.undef, V.undef, V.undef, V.undef, V.undef, V.undef, V.undef, V.rw (1 : Nat), V.one true (D.int IntKind.i64 i0), V.one true (D.int IntKind.i64 i1), V.undef, V.undef, V.undef, V.undef, V.undef, V.undef, V.undef, V.undef, V.undef, V.undef, V.undef, V.undef] [Ob.row false (1 : Nat) l2, Ob.row false (1 : Nat) l3])
theorem impl_DieText.l5_eq (n : Nat) (m5 : Nat) (i0 : Int) (i1 : Int) (l2 : List (List D)) (l3 : List (List D)) :
    impl_DieText.l5 n (m5 + 1) i0 i1 l2 l3 = bif decide (i1 < i0) then bif decide ((0 : Int) ≤ i1) then bif decide (i1 < (↑(List.length l3) : Int)) then Option.bind (Option.bind (some (cellD l3 (Int.toNat i1) (0 : Nat))) (D.int? IntKind.i64)) fun (i1_1 : Int) => bif decide (List.length l2 + (1 : Nat) ≤ (17179869184 : Nat)) then impl_DieText.l5 n m5 i0 (IntKind.wrap IntKind.i64 (i1 + (1 : Int))) (l2 ++ [[D.int IntKind.u8 (IntKind.wrap IntKind.u8 (IntKind.wrap IntKind.i64 ((48 : Int) + i1_1)))]]) l3 else none else none else none else Option.bind (Option.map (fun (l : List UInt8) => ByteArray.mk (List.toArray l)) (rowStr? l2)) fun (s2 : ByteArray) => some [Q.one (D.str s2), Q.one (D.bool true)] := by kernel_rfl
noncomputable def impl_DieText.res (n : Nat) (a0_0 : Int) (a0_1 : Int) (a0_2 : Int) (a0_3 : Int) (a0_4 : Int) (a0_5 : Int) : Option (List Q) :=
  bif !Die.good (Die.mk a0_0 a0_1 a0_2 a0_3 a0_4 a0_5) then some [Q.one (D.str (ByteArray.mk #[])), Q.one (D.bool false)] else impl_DieText.l5 n n (6 : Int) (0 : Int) [] [[D.int IntKind.i64 a0_0], [D.int IntKind.i64 a0_1], [D.int IntKind.i64 a0_2], [D.int IntKind.i64 a0_3], [D.int IntKind.i64 a0_4], [D.int IntKind.i64 a0_5]]
theorem impl_DieText.run (n : Nat) (a0_0 : Int) (a0_1 : Int) (a0_2 : Int) (a0_3 : Int) (a0_4 : Int) (a0_5 : Int) :
    run1 impl_DieText.cfg [RK.one LK.str, RK.one LK.bool] n Tryd.f76 [Q.agg [D.int IntKind.i64 a0_0, D.int IntKind.i64 a0_1, D.int IntKind.i64 a0_2, D.int IntKind.i64 a0_3, D.int IntKind.i64 a0_4, D.int IntKind.i64 a0_5]] = impl_DieText.res n a0_0 a0_1 a0_2 a0_3 a0_4 a0_5 := by kernel_rfl
theorem impl_DieText.ev {n : Nat} {a0_0 : Int} {a0_1 : Int} {a0_2 : Int} {a0_3 : Int} {a0_4 : Int} {a0_5 : Int} {r : List Q} (h : impl_DieText.res n a0_0 a0_1 a0_2 a0_3 a0_4 a0_5 = some r) : Snd Tryd.prog C0 76 [.agg [.int .i64 a0_0, .int .i64 a0_1, .int .i64 a0_2, .int .i64 a0_3, .int .i64 a0_4, .int .i64 a0_5]] r :=
  snd_ev (C := impl_DieText.cfg) cfg0 mix rfl rfl rfl rfl rfl (.cons impl_IsDie.ok (.cons impl_Die_faces.ok .nil)) .nil rfl Tryd.func76 (by kernel_rfl) (by kernel_rfl) rfl ((impl_DieText.run n a0_0 a0_1 a0_2 a0_3 a0_4 a0_5).trans h)

theorem impl_DieText.l5_run {n : Nat} : ∀ (rest done : List Int) (m : Nat), done.length + rest.length = 6 → rest.length < m → (∀ z ∈ rest, inR z 0 9 = true) →
    impl_DieText.l5 n m 6 (done.length : Int) (u8C.encs (done.map sgn)) (intC.encs (done ++ rest)) = some [Q.one (.str (mkB ((done ++ rest).map sgn))), Q.one (.bool true)]
  | [], done, m, hl, hm, _ => by
    obtain ⟨m, rfl⟩ : ∃ m', m = m' + 1 := ⟨m - 1, by simp at hm; omega⟩
    have h1 : ¬ (done.length : Int) < 6 := by simp at hl; omega
    rw [impl_DieText.l5_eq]
    simp only [h1, decide_false, cond_false, List.append_nil, rowStr_u8, Option.map_some, Option.bind_some]
    rfl
  | z :: rest, done, m, hl, hm, hz => by
    obtain ⟨m, rfl⟩ : ∃ m', m = m' + 1 := ⟨m - 1, by simp at hm; omega⟩
    rw [List.length_cons] at hl hm
    have h1 : (done.length : Int) < 6 := by omega
    have hlt : done.length < (done ++ z :: rest).length := by simp
    have h2 : (done.length : Int) < (((done ++ z :: rest).length : Nat) : Int) := by omega
    have hget : (done ++ z :: rest)[done.length] = z := by
      rw [List.getElem_append_right (by simp)]
      simp
    obtain ⟨a, b⟩ := inR_out (hz z List.mem_cons_self)
    have g1 : (done.map sgn).length + 1 ≤ 17179869184 := by rw [List.length_map]; omega
    have step := impl_DieText.l5_run (n := n) rest (done ++ [z]) m (by simp; omega) (by omega) (fun y hy => hz y (List.mem_cons_of_mem _ hy))
    rw [List.length_append, List.length_singleton, List.append_assoc, List.singleton_append, List.map_append, List.map_singleton] at step
    rw [impl_DieText.l5_eq]
    simp only [h1, h2, g1, Cod.encs_len, Int.natCast_nonneg, Int.toNat_natCast, decide_true, cond_true, intC_at hlt, hget, Option.bind_some, wrap_succ (show done.length ≤ LIM by unfold LIM; omega), sgn_val a b, u8C_snoc]
    exact step
def impl_DieText.stub : Stub
  | [.agg [.int .i64 t, .int .i64 n, .int .i64 e, .int .i64 s, .int .i64 w, .int .i64 b]] => .gd (Sp.Die.good ⟨t, n, e, s, w, b⟩) (.ret [.one (.str (Sp.dieT ⟨t, n, e, s, w, b⟩)), .one (.bool true)])
  | _ => .fail
theorem impl_DieText.ok : StubOk Tryd.prog C0 76 impl_DieText.stub := by
  intro args res h
  unfold impl_DieText.stub at h
  split at h
  · rename_i t n e s w b
    obtain ⟨h1, h0⟩ := gd_out h
    cases h0
    obtain ⟨N, hN⟩ : ∃ N, 64 ≤ N := ⟨64, Nat.le_refl _⟩
    refine impl_DieText.ev (n := N) ?_
    have key := impl_DieText.l5_run (n := N) [t, n, e, s, w, b] [] N rfl (by simp; omega) (faces_in h1)
    unfold impl_DieText.res
    rw [h1]
    exact key
  · cases h
/-! laws_eqStringS -/
noncomputable def laws_eqStringS.cfg : Cfg := { C0 with keep := fun | 4 => some [0, 1, 5] | _ => none, nb := 0, M := tabM [], MM := tabB [] }
noncomputable def laws_eqStringS.l4 (n : Nat) (m4 : Nat) (l0 : List (List D)) (l1 : List (List D)) (i2 : Int) : Option (List Q) :=
  loopAt laws_eqStringS.cfg [RK.one LK.bool] n Tryd.f40 [1, 1, 0, 1, 0] [] m4 (St.mk [V.one false (D.sl (1 : Nat) l0), V.one false (D.sl (1 : Nat) l1), V.undef, V.undef, V.undef, V.one true (D.int IntKind.i64 i2), V.undef, V.undef, V.undef, V.undef, V.undef, V.undef, V.undef, V.undef, V.undef, V.undef, V.undef, V.undef, V.undef, V.undef, V.undef, V.undef, V.undef, V.undef, V.undef, V.undef] [])
theorem laws_eqStringS.l4_eq (n : Nat) (m4 : Nat) (l0 : List (List D)) (l1 : List (List D)) (i2 : Int) :
    laws_eqStringS.l4 n (m4 + 1) l0 l1 i2 = bif decide (i2 < (↑(List.length l0) : Int)) then bif decide ((0 : Int) ≤ i2) then bif decide (i2 < (↑(List.length l0) : Int)) then Option.bind (Option.bind (some (cellD l0 (Int.toNat i2) (0 : Nat))) D.str?) fun (s1 : ByteArray) => bif decide ((0 : Int) ≤ i2) then bif decide (i2 < (↑(List.length l1) : Int)) then Option.bind (Option.bind (some (cellD l1 (Int.toNat i2) (0 : Nat))) D.str?) fun (s2 : ByteArray) => bif !strEq s1 s2 then some [Q.one (D.bool false)] else laws_eqStringS.l4 n m4 l0 l1 (IntKind.wrap IntKind.i64 (i2 + (1 : Int))) else none else none else none else none else some [Q.one (D.bool true)] := by kernel_rfl
noncomputable def laws_eqStringS.res (n : Nat) (a0 : List (List D)) (a1 : List (List D)) : Option (List Q) :=
  bif (↑(List.length a0) : Int) != (↑(List.length a1) : Int) then some [Q.one (D.bool false)] else laws_eqStringS.l4 n n a0 a1 (0 : Int)
theorem laws_eqStringS.run (n : Nat) (a0 : List (List D)) (a1 : List (List D)) :
    run1 laws_eqStringS.cfg [RK.one LK.bool] n Tryd.f40 [Q.one (D.sl (1 : Nat) a0), Q.one (D.sl (1 : Nat) a1)] = laws_eqStringS.res n a0 a1 := by kernel_rfl
theorem laws_eqStringS.ev {n : Nat} {a0 : List (List D)} {a1 : List (List D)} {r : List Q} (h : laws_eqStringS.res n a0 a1 = some r) : Snd Tryd.prog C0 40 [.one (.sl 1 a0), .one (.sl 1 a1)] r :=
  snd_ev (C := laws_eqStringS.cfg) cfg0 mix rfl rfl rfl rfl rfl .nil .nil rfl Tryd.func40 (by kernel_rfl) (by kernel_rfl) rfl ((laws_eqStringS.run n a0 a1).trans h)

theorem laws_eqStringS.l4_run {n : Nat} {l : List ByteArray} (hl : l.length ≤ LIM) : ∀ (d i m : Nat), i + d = l.length → d < m →
    laws_eqStringS.l4 n m (strC.encs l) (strC.encs l) (i : Int) = some [Q.one (.bool true)] := by
  intro d
  induction d with
  | zero =>
    intro i m hi hm
    obtain ⟨m, rfl⟩ : ∃ m', m = m' + 1 := ⟨m - 1, by omega⟩
    have h1 : ¬ (i : Int) < ((l.length : Nat) : Int) := by omega
    rw [laws_eqStringS.l4_eq]
    simp only [Cod.encs_len, h1, decide_false, cond_false]
  | succ d ih =>
    intro i m hi hm
    obtain ⟨m, rfl⟩ : ∃ m', m = m' + 1 := ⟨m - 1, by omega⟩
    have hlt : i < l.length := by omega
    have h1 : (i : Int) < ((l.length : Nat) : Int) := by omega
    rw [laws_eqStringS.l4_eq]
    simp only [Cod.encs_len, h1, Int.natCast_nonneg, Int.toNat_natCast, decide_true, cond_true, strC_cell hlt, Option.bind_some, strEq_refl, Bool.not_true, cond_false, wrap_succ (show i ≤ LIM by omega)]
    exact ih (i + 1) m (by omega) (by omega)
def laws_eqStringS.stub : Stub
  | [.one (.sl 1 es), .one (.sl 1 es')] => .any (strC.decs es) fun l => .any (strC.decs es') fun l' => .gd (decide (l = l')) (.ret [.one (.bool true)])
  | _ => .fail
theorem laws_eqStringS.ok : StubOk Tryd.prog C0 40 laws_eqStringS.stub := by
  intro args res h
  unfold laws_eqStringS.stub at h
  split at h
  · rename_i es es'
    obtain ⟨l, h1, h0⟩ := any_out h
    obtain ⟨rfl, hl⟩ := Cod.decs_inv h1
    obtain ⟨l', h1', h00⟩ := any_out h0
    obtain ⟨rfl, hl'⟩ := Cod.decs_inv h1'
    obtain ⟨h2, h3⟩ := gd_out h00
    cases h3
    obtain rfl := of_decide_eq_true h2
    refine laws_eqStringS.ev (n := l.length + 1) ?_
    unfold laws_eqStringS.res
    rw [bne_self_eq_false]
    exact laws_eqStringS.l4_run (n := l.length + 1) hl l.length 0 (l.length + 1) (by omega) (by omega)
  · cases h
/-! laws_markText -/
noncomputable def laws_markText.cfg : Cfg := { C0 with keep := fun | 4 => some [0, 3] | _ => none, nb := 0, M := tabM [], MM := tabB [] }
noncomputable def laws_markText.l4 (n : Nat) (m4 : Nat) (i0 : Int) (s1 : ByteArray) : Option (List Q) :=
  loopAt laws_markText.cfg [RK.one LK.str] n Tryd.f77 [1, 1, 1, 0, 0] [] m4 (St.mk [V.one true (D.int IntKind.i64 i0), V.undef, V.undef, V.one true (D.str s1), V.undef, V.undef, V.undef, V.undef, V.undef, V.undef, V.undef, V.undef, V.undef, V.undef, V.undef, V.undef, V.undef, V.undef, V.undef, V.undef] [])
theorem laws_markText.l4_eq (n : Nat) (m4 : Nat) (i0 : Int) (s1 : ByteArray) :
    laws_markText.l4 n (m4 + 1) i0 s1 = bif decide (i0 > (0 : Int)) then bif decide (ByteArray.size (ByteArray.mk #[UInt8.ofNat (Int.toNat (IntKind.wrap IntKind.u8 (IntKind.wrap IntKind.i64 ((48 : Int) + Int.tmod i0 (10 : Int)))))]) + ByteArray.size s1 ≤ (17179869184 : Nat)) then laws_markText.l4 n m4 (IntKind.wrap IntKind.i64 (Int.tdiv i0 (10 : Int))) (ByteArray.mk #[UInt8.ofNat (Int.toNat (IntKind.wrap IntKind.u8 (IntKind.wrap IntKind.i64 ((48 : Int) + Int.tmod i0 (10 : Int)))))] ++ s1) else none else bif decide (ByteArray.size (ByteArray.mk #[(109 : UInt8)]) + ByteArray.size s1 ≤ (17179869184 : Nat)) then some [Q.one (D.str (ByteArray.mk #[(109 : UInt8)] ++ s1))] else none := by kernel_rfl
noncomputable def laws_markText.res (n : Nat) (a0 : Int) : Option (List Q) :=
  bif decide (a0 ≤ (0 : Int)) then some [Q.one (D.str (ByteArray.mk #[(109 : UInt8), (48 : UInt8)]))] else laws_markText.l4 n n a0 (ByteArray.mk #[])
theorem laws_markText.run (n : Nat) (a0 : Int) :
    run1 laws_markText.cfg [RK.one LK.str] n Tryd.f77 [Q.one (D.int IntKind.i64 a0)] = laws_markText.res n a0 := by kernel_rfl
theorem laws_markText.ev {n : Nat} {a0 : Int} {r : List Q} (h : laws_markText.res n a0 = some r) : Snd Tryd.prog C0 77 [.one (.int .i64 a0)] r :=
  snd_ev (C := laws_markText.cfg) cfg0 mix rfl rfl rfl rfl rfl .nil .nil rfl Tryd.func77 (by kernel_rfl) (by kernel_rfl) rfl ((laws_markText.run n a0).trans h)

theorem laws_markText.l4_run {n : Nat} : ∀ (f m k : Nat) (s : ByteArray), k < 10 ^ f → f ≤ 4 → f < m → s.size + f ≤ 4 →
    laws_markText.l4 n m (k : Int) s = some [Q.one (.str (⟨#[109]⟩ ++ mkGo f k s))] := by
  intro f
  induction f with
  | zero =>
    intro m k s hk hf hm hs
    obtain ⟨m, rfl⟩ : ∃ m', m = m' + 1 := ⟨m - 1, by omega⟩
    obtain rfl : k = 0 := by simpa using hk
    have h2 : (ByteArray.mk #[109]).size + s.size ≤ 17179869184 := by rw [show (ByteArray.mk #[109]).size = 1 from rfl]; omega
    rw [laws_markText.l4_eq]
    simp only [show ¬ ((0 : Nat) : Int) > 0 by omega, h2, decide_false, cond_false, decide_true, cond_true]
    rfl
  | succ f ih =>
    intro m k s hk hf hm hs
    obtain ⟨m, rfl⟩ : ∃ m', m = m' + 1 := ⟨m - 1, by omega⟩
    have h2 : (ByteArray.mk #[109]).size + s.size ≤ 17179869184 := by rw [show (ByteArray.mk #[109]).size = 1 from rfl]; omega
    rw [laws_markText.l4_eq, mkGo]
    by_cases h0 : 0 < k
    · have h1 : (k : Int) > 0 := by omega
      have hk4 : k < 10000 := Nat.lt_of_lt_of_le hk (Nat.pow_le_pow_right (by omega) hf)
      have e1 : Int.tmod (k : Int) 10 = ((k % 10 : Nat) : Int) := rfl
      have e2 : Int.tdiv (k : Int) 10 = ((k / 10 : Nat) : Int) := rfl
      have e3 : IntKind.wrap .i64 ((k / 10 : Nat) : Int) = ((k / 10 : Nat) : Int) := wrap_in (by omega) (by omega)
      have e4 : UInt8.ofNat (Int.toNat (IntKind.wrap .u8 (IntKind.wrap .i64 (48 + ((k % 10 : Nat) : Int))))) = UInt8.ofNat (48 + k % 10) := sgn_of (by omega) (by omega)
      have h3 : (ByteArray.mk #[UInt8.ofNat (48 + k % 10)]).size + s.size ≤ 17179869184 := by rw [show (ByteArray.mk #[UInt8.ofNat (48 + k % 10)]).size = 1 from rfl]; omega
      have step := ih m (k / 10) (mkB [UInt8.ofNat (48 + k % 10)] ++ s) (by rw [Nat.pow_succ] at hk; omega) (by omega) (by omega) (by rw [ByteArray.size_append, mkB_size, List.length_singleton]; omega)
      simp only [h0, h1, e1, e2, e3, e4, h3, decide_true, cond_true]
      exact step
    · have h1 : ¬ (k : Int) > 0 := by omega
      simp only [h0, h1, h2, decide_false, cond_false, decide_true, cond_true]
def laws_markText.stub : Stub
  | [.one (.int .i64 k)] => .gd (Sp.inR k 1 1000) (.ret [.one (.str (Sp.mkT k.toNat))])
  | _ => .fail
theorem laws_markText.ok : StubOk Tryd.prog C0 77 laws_markText.stub := by
  intro args res h
  unfold laws_markText.stub at h
  split at h
  · rename_i k
    obtain ⟨h1, h0⟩ := gd_out h
    cases h0
    obtain ⟨a, b⟩ := inR_out h1
    obtain ⟨k, rfl⟩ : ∃ j : Nat, k = (j : Int) := ⟨k.toNat, by omega⟩
    obtain ⟨N, hN⟩ : ∃ N, 64 ≤ N := ⟨64, Nat.le_refl _⟩
    refine laws_markText.ev (n := N) ?_
    unfold laws_markText.res
    have h2 : ¬ (k : Int) ≤ 0 := by omega
    simp only [h2, decide_false, cond_false, Int.toNat_natCast]
    exact laws_markText.l4_run (n := N) 4 N k ⟨#[]⟩ (by omega) (by omega) (by omega) (Nat.le_refl 4)
  · cases h
theorem wrap_mk {j : Nat} (h : j ≤ LIM + 10) : IntKind.i64.wrap ((j : Int) + 1) = ((j + 1 : Nat) : Int) := by
  unfold LIM at h
  rw [wrap_in (by omega) (by omega)]; omega
theorem in1000 {j : Nat} (h1 : 1 ≤ j) (h2 : j ≤ 1000) : inR (j : Int) 1 1000 = true := by
  unfold inR
  rw [Bool.and_eq_true, decide_eq_true_eq, decide_eq_true_eq]; omega
/-! laws_markStringS -/
noncomputable def laws_markStringS.cfg : Cfg := { C0 with keep := fun | 2 => some [0, 1, 5] | _ => none, nb := 1, M := tabM [(77, laws_markText.stub)], MM := tabB [] }
noncomputable def laws_markStringS.l2 (n : Nat) (m2 : Nat) (i0 : Int) (i1 : Int) (l2 : List (List D)) : Option (List V × List Ob) :=
  loopAtB laws_markStringS.cfg n Tryd.f41 [1, 0, 1, 0] [] m2 (St.mk [V.rw (0 : Nat), V.one true (D.int IntKind.i64 i0), V.undef, V.undef, V.undef, V.one true (D.int IntKind.i64 i1), V.undef, V.undef, V.undef, V.undef, V.undef, V.undef, V.undef, V.undef, V.undef, V.undef, V.undef, V.undef, V.undef, V.undef] [Ob.row false (1 : Nat) l2])
theorem laws_markStringS.l2_eq (n : Nat) (m2 : Nat) (i0 : Int) (i1 : Int) (l2 : List (List D)) :
    laws_markStringS.l2 n (m2 + 1) i0 i1 l2 = bif decide (i1 < (↑(List.length l2) : Int)) then bif inR i0 (1 : Int) (1000 : Int) then bif decide ((0 : Int) ≤ i1) then bif decide (i1 < (↑(List.length l2) : Int)) then laws_markStringS.l2 n m2 (IntKind.wrap IntKind.i64 (i0 + (1 : Int))) (IntKind.wrap IntKind.i64 (i1 + (1 : Int))) (setRow (1 : Nat) l2 (Int.toNat i1) (0 : Nat) [D.str (mkT (Int.toNat i0))]) else none else none else none else some ([V.one true (D.int IntKind.i64 i0)], [Ob.row false (1 : Nat) l2]) := by kernel_rfl
noncomputable def laws_markStringS.res (n : Nat) (es : List (List D)) (k : Int) : Option (List V × List Ob) :=
  laws_markStringS.l2 n n k (0 : Int) es
theorem laws_markStringS.run (n : Nat) (es : List (List D)) (k : Int) :
    (fun p : List V × List Ob => runB laws_markStringS.cfg n Tryd.f41 p.1 p.2) ([V.rw (0 : Nat), V.one true (D.int IntKind.i64 k)], [Ob.row false (1 : Nat) es]) = laws_markStringS.res n es k := by kernel_rfl
theorem laws_markStringS.ev {n : Nat} {es : List (List D)} {k : Int} {r : List V} {o : List Ob} (h : laws_markStringS.res n es k = some (r, o)) : SndB Tryd.prog C0 41 [.rw 0, .one true (.int .i64 k)] [.row false 1 es] r o :=
  sndB_ev (C := laws_markStringS.cfg) cfg0 mix rfl rfl rfl rfl rfl (.cons laws_markText.ok .nil) .nil Tryd.func41 (by kernel_rfl) (by kernel_rfl) rfl ((laws_markStringS.run n es k).trans h)

theorem laws_markStringS.l2_run {n : Nat} {l : List ByteArray} (hl : l.length ≤ 100) : ∀ (d i m : Nat), i + d = l.length → d < m →
    laws_markStringS.l2 n m ((1 + i : Nat) : Int) (i : Int) (strC.encs (marksT i ++ l.drop i)) = some ([V.one true (.int .i64 (mkE l.length))], [Ob.row false 1 (strC.encs (marksT l.length))]) := by
  intro d
  induction d with
  | zero =>
    intro i m hi hm
    obtain ⟨m, rfl⟩ : ∃ m', m = m' + 1 := ⟨m - 1, by omega⟩
    obtain rfl : i = l.length := by omega
    have h1 : ¬ (l.length : Int) < l.length := by omega
    rw [laws_markStringS.l2_eq, List.drop_length, List.append_nil]
    simp only [Cod.encs_len, marksT_len, h1, decide_false, cond_false]
    rfl
  | succ d ih =>
    intro i m hi hm
    obtain ⟨m, rfl⟩ : ∃ m', m = m' + 1 := ⟨m - 1, by omega⟩
    have hlen : (marksT i ++ l.drop i).length = l.length := by rw [List.length_append, marksT_len, List.length_drop]; omega
    have h1 : (i : Int) < l.length := by omega
    have e2 : (marksT i ++ l.drop i).set i (mkT (1 + i)) = marksT (i + 1) ++ l.drop (i + 1) := by
      rw [List.set_append_right _ _ (by rw [marksT_len]; exact Nat.le_refl _), marksT_len, Nat.sub_self, List.drop_eq_getElem_cons (by omega), List.set_cons_zero, marksT_succ, List.append_assoc]
      rfl
    rw [laws_markStringS.l2_eq]
    simp only [Cod.encs_len, hlen, h1, in1000 (show 1 ≤ 1 + i by omega) (show 1 + i ≤ 1000 by omega), decide_true, cond_true, Int.natCast_nonneg, Int.toNat_natCast, wrap_mk (show 1 + i ≤ LIM + 10 by unfold LIM; omega), wrap_succ (show i ≤ LIM by unfold LIM; omega), strC_set, e2]
    rw [show 1 + i + 1 = 1 + (i + 1) by omega]
    exact ih (i + 1) m (by omega) (by omega)
def laws_markStringS.stub : StubB
  | [.rw 0, .one true (.int .i64 k)], [.row false 1 es] => .any (strC.decs es) fun l => .gd (decide (k = 1)) (.gd (decide (l.length ≤ 100)) (.ret ([.one true (.int .i64 (Sp.mkE l.length))], [.row false 1 (strC.encs (Sp.marksT l.length))])))
  | _, _ => .fail
theorem laws_markStringS.ok : StubBOk Tryd.prog C0 41 laws_markStringS.stub := by
  intro args objs res objs' h
  unfold laws_markStringS.stub at h
  split at h
  · obtain ⟨l, h1, h0⟩ := any_out h
    obtain ⟨rfl, hl⟩ := Cod.decs_inv h1
    obtain ⟨h2, h0⟩ := gd_out h0
    obtain ⟨h3, h4⟩ := gd_out h0
    obtain rfl := of_decide_eq_true h2
    have h3 := of_decide_eq_true h3
    cases h4
    refine laws_markStringS.ev (n := l.length + 1) ?_
    exact laws_markStringS.l2_run (n := l.length + 1) h3 l.length 0 (l.length + 1) (by omega) (by omega)
  · cases h
/-! laws_heldStringS -/
noncomputable def laws_heldStringS.cfg : Cfg := { C0 with keep := fun | 2 => some [0, 1, 5] | _ => none, nb := 0, M := tabM [(77, laws_markText.stub)], MM := tabB [] }
noncomputable def laws_heldStringS.l2 (n : Nat) (m2 : Nat) (l0 : List (List D)) (i1 : Int) (i2 : Int) : Option (List Q) :=
  loopAt laws_heldStringS.cfg [RK.one (LK.int IntKind.i64)] n Tryd.f42 [1, 0, 1, 0] [] m2 (St.mk [V.one false (D.sl (1 : Nat) l0), V.one true (D.int IntKind.i64 i1), V.undef, V.undef, V.undef, V.one true (D.int IntKind.i64 i2), V.undef, V.undef, V.undef, V.undef, V.undef, V.undef, V.undef, V.undef, V.undef, V.undef, V.undef, V.undef, V.undef, V.undef, V.undef, V.undef] [])
theorem laws_heldStringS.l2_eq (n : Nat) (m2 : Nat) (l0 : List (List D)) (i1 : Int) (i2 : Int) :
    laws_heldStringS.l2 n (m2 + 1) l0 i1 i2 = bif decide (i2 < (↑(List.length l0) : Int)) then bif decide ((0 : Int) ≤ i2) then bif decide (i2 < (↑(List.length l0) : Int)) then Option.bind (Option.bind (some (cellD l0 (Int.toNat i2) (0 : Nat))) D.str?) fun (s1 : ByteArray) => bif inR i1 (1 : Int) (1000 : Int) then bif !strEq s1 (mkT (Int.toNat i1)) then some [Q.one (D.int IntKind.i64 (-1 : Int))] else laws_heldStringS.l2 n m2 l0 (IntKind.wrap IntKind.i64 (i1 + (1 : Int))) (IntKind.wrap IntKind.i64 (i2 + (1 : Int))) else none else none else none else some [Q.one (D.int IntKind.i64 i1)] := by kernel_rfl
noncomputable def laws_heldStringS.res (n : Nat) (a0 : List (List D)) (a1 : Int) : Option (List Q) :=
  laws_heldStringS.l2 n n a0 a1 (0 : Int)
theorem laws_heldStringS.run (n : Nat) (a0 : List (List D)) (a1 : Int) :
    run1 laws_heldStringS.cfg [RK.one (LK.int IntKind.i64)] n Tryd.f42 [Q.one (D.sl (1 : Nat) a0), Q.one (D.int IntKind.i64 a1)] = laws_heldStringS.res n a0 a1 := by kernel_rfl
theorem laws_heldStringS.ev {n : Nat} {a0 : List (List D)} {a1 : Int} {r : List Q} (h : laws_heldStringS.res n a0 a1 = some r) : Snd Tryd.prog C0 42 [.one (.sl 1 a0), .one (.int .i64 a1)] r :=
  snd_ev (C := laws_heldStringS.cfg) cfg0 mix rfl rfl rfl rfl rfl (.cons laws_markText.ok .nil) .nil rfl Tryd.func42 (by kernel_rfl) (by kernel_rfl) rfl ((laws_heldStringS.run n a0 a1).trans h)

theorem laws_heldStringS.l2_run {n N : Nat} (hl : N ≤ 100) : ∀ (d i m : Nat), i + d = N → d < m →
    laws_heldStringS.l2 n m (strC.encs (marksT N)) ((1 + i : Nat) : Int) (i : Int) = some [Q.one (.int .i64 (mkE N))] := by
  intro d
  induction d with
  | zero =>
    intro i m hi hm
    obtain ⟨m, rfl⟩ : ∃ m', m = m' + 1 := ⟨m - 1, by omega⟩
    obtain rfl : i = N := by omega
    have h1 : ¬ (i : Int) < (i : Int) := by omega
    rw [laws_heldStringS.l2_eq]
    simp only [Cod.encs_len, marksT_len, h1, decide_false, cond_false]
    rfl
  | succ d ih =>
    intro i m hi hm
    obtain ⟨m, rfl⟩ : ∃ m', m = m' + 1 := ⟨m - 1, by omega⟩
    have hlt : i < (marksT N).length := by rw [marksT_len]; omega
    have h1 : (i : Int) < (N : Int) := by omega
    rw [laws_heldStringS.l2_eq]
    simp only [Cod.encs_len, marksT_len, h1, in1000 (show 1 ≤ 1 + i by omega) (show 1 + i ≤ 1000 by omega), decide_true, cond_true, Int.natCast_nonneg, Int.toNat_natCast, strC_cell hlt, marksT_get hlt, Option.bind_some, strEq_refl, Bool.not_true, cond_false, wrap_mk (show 1 + i ≤ LIM + 10 by unfold LIM; omega), wrap_succ (show i ≤ LIM by unfold LIM; omega)]
    rw [show 1 + i + 1 = 1 + (i + 1) by omega]
    exact ih (i + 1) m (by omega) (by omega)
def laws_heldStringS.stub : Stub
  | [.one (.sl 1 es), .one (.int .i64 k)] => .any (strC.decs es) fun l => .gd (decide (k = 1)) (.gd (decide (l.length ≤ 100)) (.gd (Sp.isMarksT l) (.ret [.one (.int .i64 (Sp.mkE l.length))])))
  | _ => .fail
theorem laws_heldStringS.ok : StubOk Tryd.prog C0 42 laws_heldStringS.stub := by
  intro args res h
  unfold laws_heldStringS.stub at h
  split at h
  · obtain ⟨l, h1, h0⟩ := any_out h
    obtain ⟨rfl, hl⟩ := Cod.decs_inv h1
    obtain ⟨h2, ha⟩ := gd_out h0
    obtain ⟨h3, hb⟩ := gd_out ha
    obtain ⟨h4, hc⟩ := gd_out hb
    cases hc
    obtain rfl := of_decide_eq_true h2
    have h3 := of_decide_eq_true h3
    have h4 := of_decide_eq_true h4
    refine laws_heldStringS.ev (n := l.length + 1) ?_
    unfold laws_heldStringS.res
    have key := laws_heldStringS.l2_run (n := l.length + 1) (N := l.length) h3 l.length 0 (l.length + 1) (by omega) (by omega)
    rw [← h4] at key
    exact key
  · cases h
end Go.Proofs.EV.PL
set_option linter.unusedVariables false
set_option linter.unusedSimpArgs false
/-! Replays. -/
namespace Go.Proofs.EV.PL
open Go Go.Proofs Go.Proofs.EV Sp
theorem alL_good {q : ByteArray} {s : Sta} {wd : ByteArray} (ho : okSt q s = true) : ∀ u ∈ alL (isFl (rws q)) s wd, u.d.good = true := fun u hu => (alL_gd ho u hu).g
/-! spec_ReplayOf -/
noncomputable def spec_ReplayOf.cfg : Cfg := { C0 with keep := fun | 6 => some [7, 8, 23, 24, 25] | _ => none, nb := 0, M := tabM [(50, spec_puGood.stub), (65, spec_boWay.stub), (75, spec_diText.stub)], MM := tabB [] }
noncomputable def spec_ReplayOf.l6 (n : Nat) (m6 : Nat) (b0 : Bool) (i1 : Int) (i2 : Int) (l3 : List (List D)) (l4 : List (List D)) : Option (List Q) :=
  loopAt spec_ReplayOf.cfg [RK.own (1 : Nat), RK.one LK.bool] n Tryd.f38 [1, 1, 1, 1, 0, 1, 0] [] m6 (St.mk [V.undef, V.undef, V.undef, V.undef, V.undef, V.undef, V.undef, V.one true (D.bool b0), V.rw (0 : Nat), V.undef, V.undef, V.undef, V.undef, V.undef, V.undef, V.undef, V.undef, V.undef, V.undef, V.undef, V.undef, V.undef, V.undef, V.rw (1 : Nat), V.one true (D.int IntKind.i64 i1), V.one true (D.int IntKind.i64 i2), V.undef, V.undef, V.undef, V.undef, V.undef, V.undef, V.undef, V.undef, V.undef, V.undef, V.undef, V.undef] [Ob.row false (1 : Nat) l3, Ob.row false (8 : Nat) l4])
theorem spec_ReplayOf.l6_eq (n : Nat) (m6 : Nat) (b0 : Bool) (i1 : Int) (i2 : Int) (l3 : List (List D)) (l4 : List (List D)) :
    spec_ReplayOf.l6 n (m6 + 1) b0 i1 i2 l3 l4 = bif decide (i2 < i1) then bif decide ((0 : Int) ≤ i2) then bif decide (i2 < (↑(List.length l4) : Int)) then Option.bind (Option.bind (some (cellD l4 (Int.toNat i2) (0 : Nat))) (D.int? IntKind.i64)) fun (i1_1 : Int) => Option.bind (Option.bind (some (cellD l4 (Int.toNat i2) (1 : Nat))) (D.int? IntKind.i64)) fun (i2_1 : Int) => Option.bind (Option.bind (some (cellD l4 (Int.toNat i2) (2 : Nat))) (D.int? IntKind.i64)) fun (i3 : Int) => Option.bind (Option.bind (some (cellD l4 (Int.toNat i2) (3 : Nat))) (D.int? IntKind.i64)) fun (i4 : Int) => Option.bind (Option.bind (some (cellD l4 (Int.toNat i2) (4 : Nat))) (D.int? IntKind.i64)) fun (i5 : Int) => Option.bind (Option.bind (some (cellD l4 (Int.toNat i2) (5 : Nat))) (D.int? IntKind.i64)) fun (i6 : Int) => Option.bind (Option.bind (some (cellD l4 (Int.toNat i2) (6 : Nat))) (D.int? IntKind.i64)) fun (i7 : Int) => Option.bind (Option.bind (some (cellD l4 (Int.toNat i2) (7 : Nat))) (D.int? IntKind.i64)) fun (i8 : Int) => bif Die.good (Die.mk i3 i4 i5 i6 i7 i8) then bif decide (List.length l3 + (1 : Nat) ≤ (17179869184 : Nat)) then spec_ReplayOf.l6 n m6 b0 i1 (IntKind.wrap IntKind.i64 (i2 + (1 : Int))) (l3 ++ [[D.str (dieT (Die.mk i3 i4 i5 i6 i7 i8))]]) l4 else none else none else none else none else some [Q.one (D.sl (1 : Nat) l3), Q.one (D.bool b0)] := by kernel_rfl
noncomputable def spec_ReplayOf.res (n : Nat) (a0_0 : ByteArray) (a0_1 : Int) (a0_2 : Int) (a0_3 : Int) (a0_4 : Int) (a0_5 : Int) (a0_6 : Int) (a0_7 : Int) (a0_8 : Int) (a0_9 : Int) (a0_10 : Int) (a0_11 : Int) (a1 : ByteArray) : Option (List Q) :=
  bif !(isBo brd a0_0 && (Die.good (Die.mk a0_3 a0_4 a0_5 a0_6 a0_7 a0_8) && isFl (rws a0_0) a0_1 a0_2) && (isFl (rws a0_0) a0_9 a0_10 && inR a0_11 (0 : Int) (9 : Int))) then some [Q.one (D.sl (1 : Nat) []), Q.one (D.bool false)] else spec_ReplayOf.l6 n n (wayOk a0_0 (Sta.mk a0_1 a0_2 (Die.mk a0_3 a0_4 a0_5 a0_6 a0_7 a0_8)) a1) (↑(List.length (Cod.encs stC (wayL a0_0 (Sta.mk a0_1 a0_2 (Die.mk a0_3 a0_4 a0_5 a0_6 a0_7 a0_8)) a1))) : Int) (0 : Int) [] (Cod.encs stC (wayL a0_0 (Sta.mk a0_1 a0_2 (Die.mk a0_3 a0_4 a0_5 a0_6 a0_7 a0_8)) a1))
theorem spec_ReplayOf.run (n : Nat) (a0_0 : ByteArray) (a0_1 : Int) (a0_2 : Int) (a0_3 : Int) (a0_4 : Int) (a0_5 : Int) (a0_6 : Int) (a0_7 : Int) (a0_8 : Int) (a0_9 : Int) (a0_10 : Int) (a0_11 : Int) (a1 : ByteArray) :
    run1 spec_ReplayOf.cfg [RK.own (1 : Nat), RK.one LK.bool] n Tryd.f38 [Q.agg [D.str a0_0, D.int IntKind.i64 a0_1, D.int IntKind.i64 a0_2, D.int IntKind.i64 a0_3, D.int IntKind.i64 a0_4, D.int IntKind.i64 a0_5, D.int IntKind.i64 a0_6, D.int IntKind.i64 a0_7, D.int IntKind.i64 a0_8, D.int IntKind.i64 a0_9, D.int IntKind.i64 a0_10, D.int IntKind.i64 a0_11], Q.one (D.str a1)] = spec_ReplayOf.res n a0_0 a0_1 a0_2 a0_3 a0_4 a0_5 a0_6 a0_7 a0_8 a0_9 a0_10 a0_11 a1 := by kernel_rfl
theorem spec_ReplayOf.ev {n : Nat} {a0_0 : ByteArray} {a0_1 : Int} {a0_2 : Int} {a0_3 : Int} {a0_4 : Int} {a0_5 : Int} {a0_6 : Int} {a0_7 : Int} {a0_8 : Int} {a0_9 : Int} {a0_10 : Int} {a0_11 : Int} {a1 : ByteArray} {r : List Q} (h : spec_ReplayOf.res n a0_0 a0_1 a0_2 a0_3 a0_4 a0_5 a0_6 a0_7 a0_8 a0_9 a0_10 a0_11 a1 = some r) : Snd Tryd.prog C0 38 [.agg [.str a0_0, .int .i64 a0_1, .int .i64 a0_2, .int .i64 a0_3, .int .i64 a0_4, .int .i64 a0_5, .int .i64 a0_6, .int .i64 a0_7, .int .i64 a0_8, .int .i64 a0_9, .int .i64 a0_10, .int .i64 a0_11], .one (.str a1)] r :=
  snd_ev (C := spec_ReplayOf.cfg) cfg0 mix rfl rfl rfl rfl rfl (.cons spec_puGood.ok (.cons spec_boWay.ok (.cons spec_diText.ok .nil))) .nil rfl Tryd.func38 (by kernel_rfl) (by kernel_rfl) rfl ((spec_ReplayOf.run n a0_0 a0_1 a0_2 a0_3 a0_4 a0_5 a0_6 a0_7 a0_8 a0_9 a0_10 a0_11 a1).trans h)

theorem spec_ReplayOf.l6_run {n : Nat} {L : List Sta} {b0 : Bool} (hL : L.length ≤ 100) (hg : ∀ u ∈ L, u.d.good = true) : ∀ (d i m : Nat), i + d = L.length → d < m →
    spec_ReplayOf.l6 n m b0 ((L.length : Nat) : Int) (i : Int) (strC.encs ((L.take i).map fun u => dieT u.d)) (stC.encs L) = some [Q.one (.sl 1 (strC.encs (L.map fun u => dieT u.d))), Q.one (.bool b0)] := by
  intro d
  induction d with
  | zero =>
    intro i m hi hm
    obtain ⟨m, rfl⟩ : ∃ m', m = m' + 1 := ⟨m - 1, by omega⟩
    have h1 : ¬ (i : Int) < ((L.length : Nat) : Int) := by omega
    rw [spec_ReplayOf.l6_eq, List.take_of_length_le (by omega)]
    simp only [h1, decide_false, cond_false]
  | succ d ih =>
    intro i m hi hm
    obtain ⟨m, rfl⟩ : ∃ m', m = m' + 1 := ⟨m - 1, by omega⟩
    have hlt : i < L.length := by omega
    have h1 : (i : Int) < ((L.length : Nat) : Int) := by omega
    obtain ⟨c0, c1, c2, c3, c4, c5, c6, c7⟩ := st_cells hlt
    have g := hg L[i] (List.getElem_mem hlt)
    have g1 : ((L.take i).map fun u => dieT u.d).length + 1 ≤ 17179869184 := by rw [List.length_map, List.length_take]; omega
    have step := ih (i + 1) m (by omega) (by omega)
    rw [List.take_succ_eq_append_getElem hlt, List.map_append, List.map_singleton, ← strC_snoc] at step
    rw [spec_ReplayOf.l6_eq]
    simp only [h1, Cod.encs_len, Int.natCast_nonneg, Int.toNat_natCast, decide_true, cond_true, c0, c1, c2, c3, c4, c5, c6, c7, Option.bind_some, Die.eta, g, g1, wrap_succ (show i ≤ LIM by unfold LIM; omega)]
    exact step
def spec_ReplayOf.stub : Stub
  | [.agg [.str q, .int .i64 x, .int .i64 y, .int .i64 t, .int .i64 n, .int .i64 e, .int .i64 s, .int .i64 w, .int .i64 b, .int .i64 px, .int .i64 py, .int .i64 pt], .one (.str wd)] => .ret [.one (.sl 1 (strC.encs (Sp.replayL q ⟨x, y, ⟨t, n, e, s, w, b⟩⟩ px py pt wd))), .one (.bool (Sp.pzOk q ⟨x, y, ⟨t, n, e, s, w, b⟩⟩ px py pt && Sp.wayOk q ⟨x, y, ⟨t, n, e, s, w, b⟩⟩ wd))]
  | _ => .fail
theorem spec_ReplayOf.ok : StubOk Tryd.prog C0 38 spec_ReplayOf.stub := by
  intro args res h
  unfold spec_ReplayOf.stub at h
  split at h
  · rename_i q x y t n e s w b px py pt wd
    cases h
    obtain ⟨N, hN⟩ : ∃ N, 64 ≤ N := ⟨64, Nat.le_refl _⟩
    refine spec_ReplayOf.ev (n := N) ?_
    unfold spec_ReplayOf.res replayL
    rw [show (isBo brd q && (Die.good ⟨t, n, e, s, w, b⟩ && isFl (rws q) x y) && (isFl (rws q) px py && inR pt 0 9)) = pzOk q ⟨x, y, ⟨t, n, e, s, w, b⟩⟩ px py pt from rfl]
    cases pzOk q ⟨x, y, ⟨t, n, e, s, w, b⟩⟩ px py pt with
    | false => rfl
    | true =>
      simp only [Bool.not_true, cond_false, Bool.true_and]
      cases hk : wayOk q ⟨x, y, ⟨t, n, e, s, w, b⟩⟩ wd with
      | false =>
        have hl : wayL q ⟨x, y, ⟨t, n, e, s, w, b⟩⟩ wd = [] := by unfold wayL; rw [hk]; rfl
        rw [hl]
        exact spec_ReplayOf.l6_run (n := N) (L := []) (b0 := false) (by simp) (fun u hu => by cases hu) 0 0 N rfl (by omega)
      | true =>
        obtain ⟨h1, h2, h3, h4, h5⟩ := way_out hk
        obtain ⟨k1, _⟩ := isWord_out h2
        rw [h4, Cod.encs_len]
        exact spec_ReplayOf.l6_run (n := N) (L := alL (isFl (rws q)) ⟨x, y, ⟨t, n, e, s, w, b⟩⟩ wd) (b0 := true) (by omega) (alL_good h1) (alL (isFl (rws q)) ⟨x, y, ⟨t, n, e, s, w, b⟩⟩ wd).length 0 N (by omega) (by omega)
  · cases h
/-! impl_ReplayOf -/
noncomputable def impl_ReplayOf.cfg : Cfg := { C0 with keep := fun | 6 => some [8, 30, 31, 32] | _ => none, nb := 0, M := tabM [(68, impl_statesAlong.stub), (22, impl_IsPuzzle.stub), (76, impl_DieText.stub)], MM := tabB [] }
noncomputable def impl_ReplayOf.l6 (n : Nat) (m6 : Nat) (i0 : Int) (i1 : Int) (l2 : List (List D)) (l3 : List (List D)) : Option (List Q) :=
  loopAt impl_ReplayOf.cfg [RK.own (1 : Nat), RK.one LK.bool] n Tryd.f39 [1, 1, 1, 1, 0, 1, 0] [] m6 (St.mk [V.undef, V.undef, V.undef, V.undef, V.undef, V.undef, V.undef, V.undef, V.rw (0 : Nat), V.undef, V.undef, V.undef, V.undef, V.undef, V.undef, V.undef, V.undef, V.undef, V.undef, V.undef, V.undef, V.undef, V.undef, V.undef, V.undef, V.undef, V.undef, V.undef, V.undef, V.undef, V.rw (1 : Nat), V.one true (D.int IntKind.i64 i0), V.one true (D.int IntKind.i64 i1), V.undef, V.undef, V.undef, V.undef, V.undef, V.undef, V.undef, V.undef, V.undef, V.undef, V.undef, V.undef, V.undef, V.undef, V.undef] [Ob.row false (1 : Nat) l2, Ob.row false (8 : Nat) l3])
theorem impl_ReplayOf.l6_eq (n : Nat) (m6 : Nat) (i0 : Int) (i1 : Int) (l2 : List (List D)) (l3 : List (List D)) :
    impl_ReplayOf.l6 n (m6 + 1) i0 i1 l2 l3 = bif decide (i1 < i0) then bif decide ((0 : Int) ≤ i1) then bif decide (i1 < (↑(List.length l3) : Int)) then Option.bind (Option.bind (some (cellD l3 (Int.toNat i1) (0 : Nat))) (D.int? IntKind.i64)) fun (i1_1 : Int) => Option.bind (Option.bind (some (cellD l3 (Int.toNat i1) (1 : Nat))) (D.int? IntKind.i64)) fun (i2 : Int) => Option.bind (Option.bind (some (cellD l3 (Int.toNat i1) (2 : Nat))) (D.int? IntKind.i64)) fun (i3 : Int) => Option.bind (Option.bind (some (cellD l3 (Int.toNat i1) (3 : Nat))) (D.int? IntKind.i64)) fun (i4 : Int) => Option.bind (Option.bind (some (cellD l3 (Int.toNat i1) (4 : Nat))) (D.int? IntKind.i64)) fun (i5 : Int) => Option.bind (Option.bind (some (cellD l3 (Int.toNat i1) (5 : Nat))) (D.int? IntKind.i64)) fun (i6 : Int) => Option.bind (Option.bind (some (cellD l3 (Int.toNat i1) (6 : Nat))) (D.int? IntKind.i64)) fun (i7 : Int) => Option.bind (Option.bind (some (cellD l3 (Int.toNat i1) (7 : Nat))) (D.int? IntKind.i64)) fun (i8 : Int) => bif Die.good (Die.mk i3 i4 i5 i6 i7 i8) then bif decide (List.length l2 + (1 : Nat) ≤ (17179869184 : Nat)) then impl_ReplayOf.l6 n m6 i0 (IntKind.wrap IntKind.i64 (i1 + (1 : Int))) (l2 ++ [[D.str (dieT (Die.mk i3 i4 i5 i6 i7 i8))]]) l3 else none else none else none else none else some [Q.one (D.sl (1 : Nat) l2), Q.one (D.bool true)] := by kernel_rfl
noncomputable def impl_ReplayOf.res (n : Nat) (a0_0 : ByteArray) (a0_1 : Int) (a0_2 : Int) (a0_3 : Int) (a0_4 : Int) (a0_5 : Int) (a0_6 : Int) (a0_7 : Int) (a0_8 : Int) (a0_9 : Int) (a0_10 : Int) (a0_11 : Int) (a1 : ByteArray) : Option (List Q) :=
  bif decide (ByteArray.size a0_0 < (17179869184 : Nat)) then bif decide (ByteArray.size a0_0 < (17179869184 : Nat)) then bif !(isBo brd a0_0 && (Die.good (Die.mk a0_3 a0_4 a0_5 a0_6 a0_7 a0_8) && isFl (rws a0_0) a0_1 a0_2) && (isFl (rws a0_0) a0_9 a0_10 && inR a0_11 (0 : Int) (9 : Int))) then some [Q.one (D.sl (1 : Nat) []), Q.one (D.bool false)] else bif !wayOk a0_0 (Sta.mk a0_1 a0_2 (Die.mk a0_3 a0_4 a0_5 a0_6 a0_7 a0_8)) a1 then some [Q.one (D.sl (1 : Nat) []), Q.one (D.bool false)] else impl_ReplayOf.l6 n n (↑(List.length (Cod.encs stC (wayI a0_0 (Sta.mk a0_1 a0_2 (Die.mk a0_3 a0_4 a0_5 a0_6 a0_7 a0_8)) a1))) : Int) (0 : Int) [] (Cod.encs stC (wayI a0_0 (Sta.mk a0_1 a0_2 (Die.mk a0_3 a0_4 a0_5 a0_6 a0_7 a0_8)) a1)) else none else none
theorem impl_ReplayOf.run (n : Nat) (a0_0 : ByteArray) (a0_1 : Int) (a0_2 : Int) (a0_3 : Int) (a0_4 : Int) (a0_5 : Int) (a0_6 : Int) (a0_7 : Int) (a0_8 : Int) (a0_9 : Int) (a0_10 : Int) (a0_11 : Int) (a1 : ByteArray) :
    run1 impl_ReplayOf.cfg [RK.own (1 : Nat), RK.one LK.bool] n Tryd.f39 [Q.agg [D.str a0_0, D.int IntKind.i64 a0_1, D.int IntKind.i64 a0_2, D.int IntKind.i64 a0_3, D.int IntKind.i64 a0_4, D.int IntKind.i64 a0_5, D.int IntKind.i64 a0_6, D.int IntKind.i64 a0_7, D.int IntKind.i64 a0_8, D.int IntKind.i64 a0_9, D.int IntKind.i64 a0_10, D.int IntKind.i64 a0_11], Q.one (D.str a1)] = impl_ReplayOf.res n a0_0 a0_1 a0_2 a0_3 a0_4 a0_5 a0_6 a0_7 a0_8 a0_9 a0_10 a0_11 a1 := by kernel_rfl
theorem impl_ReplayOf.ev {n : Nat} {a0_0 : ByteArray} {a0_1 : Int} {a0_2 : Int} {a0_3 : Int} {a0_4 : Int} {a0_5 : Int} {a0_6 : Int} {a0_7 : Int} {a0_8 : Int} {a0_9 : Int} {a0_10 : Int} {a0_11 : Int} {a1 : ByteArray} {r : List Q} (h : impl_ReplayOf.res n a0_0 a0_1 a0_2 a0_3 a0_4 a0_5 a0_6 a0_7 a0_8 a0_9 a0_10 a0_11 a1 = some r) : Snd Tryd.prog C0 39 [.agg [.str a0_0, .int .i64 a0_1, .int .i64 a0_2, .int .i64 a0_3, .int .i64 a0_4, .int .i64 a0_5, .int .i64 a0_6, .int .i64 a0_7, .int .i64 a0_8, .int .i64 a0_9, .int .i64 a0_10, .int .i64 a0_11], .one (.str a1)] r :=
  snd_ev (C := impl_ReplayOf.cfg) cfg0 mix rfl rfl rfl rfl rfl (.cons impl_statesAlong.ok (.cons impl_IsPuzzle.ok (.cons impl_DieText.ok .nil))) .nil rfl Tryd.func39 (by kernel_rfl) (by kernel_rfl) rfl ((impl_ReplayOf.run n a0_0 a0_1 a0_2 a0_3 a0_4 a0_5 a0_6 a0_7 a0_8 a0_9 a0_10 a0_11 a1).trans h)

theorem impl_ReplayOf.l6_run {n : Nat} {L : List Sta} (hL : L.length ≤ 100) (hg : ∀ u ∈ L, u.d.good = true) : ∀ (d i m : Nat), i + d = L.length → d < m →
    impl_ReplayOf.l6 n m ((L.length : Nat) : Int) (i : Int) (strC.encs ((L.take i).map fun u => dieT u.d)) (stC.encs L) = some [Q.one (.sl 1 (strC.encs (L.map fun u => dieT u.d))), Q.one (.bool true)] := by
  intro d
  induction d with
  | zero =>
    intro i m hi hm
    obtain ⟨m, rfl⟩ : ∃ m', m = m' + 1 := ⟨m - 1, by omega⟩
    have h1 : ¬ (i : Int) < ((L.length : Nat) : Int) := by omega
    rw [impl_ReplayOf.l6_eq, List.take_of_length_le (by omega)]
    simp only [h1, decide_false, cond_false]
  | succ d ih =>
    intro i m hi hm
    obtain ⟨m, rfl⟩ : ∃ m', m = m' + 1 := ⟨m - 1, by omega⟩
    have hlt : i < L.length := by omega
    have h1 : (i : Int) < ((L.length : Nat) : Int) := by omega
    obtain ⟨c0, c1, c2, c3, c4, c5, c6, c7⟩ := st_cells hlt
    have g := hg L[i] (List.getElem_mem hlt)
    have g1 : ((L.take i).map fun u => dieT u.d).length + 1 ≤ 17179869184 := by rw [List.length_map, List.length_take]; omega
    have step := ih (i + 1) m (by omega) (by omega)
    rw [List.take_succ_eq_append_getElem hlt, List.map_append, List.map_singleton, ← strC_snoc] at step
    rw [impl_ReplayOf.l6_eq]
    simp only [h1, Cod.encs_len, Int.natCast_nonneg, Int.toNat_natCast, decide_true, cond_true, c0, c1, c2, c3, c4, c5, c6, c7, Option.bind_some, Die.eta, g, g1, wrap_succ (show i ≤ LIM by unfold LIM; omega)]
    exact step
def impl_ReplayOf.stub : Stub
  | [.agg [.str q, .int .i64 x, .int .i64 y, .int .i64 t, .int .i64 n, .int .i64 e, .int .i64 s, .int .i64 w, .int .i64 b, .int .i64 px, .int .i64 py, .int .i64 pt], .one (.str wd)] => .gd (decide (q.size < LIM)) (.ret [.one (.sl 1 (strC.encs (Sp.replayL q ⟨x, y, ⟨t, n, e, s, w, b⟩⟩ px py pt wd))), .one (.bool (Sp.pzOk q ⟨x, y, ⟨t, n, e, s, w, b⟩⟩ px py pt && Sp.wayOk q ⟨x, y, ⟨t, n, e, s, w, b⟩⟩ wd))])
  | _ => .fail
theorem impl_ReplayOf.ok : StubOk Tryd.prog C0 39 impl_ReplayOf.stub := by
  intro args res h
  unfold impl_ReplayOf.stub at h
  split at h
  · rename_i q x y t n e s w b px py pt wd
    obtain ⟨hs, h0⟩ := gd_out h
    cases h0
    unfold LIM at hs
    obtain ⟨N, hN⟩ : ∃ N, 64 ≤ N := ⟨64, Nat.le_refl _⟩
    refine impl_ReplayOf.ev (n := N) ?_
    unfold impl_ReplayOf.res replayL
    rw [hs, show (isBo brd q && (Die.good ⟨t, n, e, s, w, b⟩ && isFl (rws q) x y) && (isFl (rws q) px py && inR pt 0 9)) = pzOk q ⟨x, y, ⟨t, n, e, s, w, b⟩⟩ px py pt from rfl]
    cases pzOk q ⟨x, y, ⟨t, n, e, s, w, b⟩⟩ px py pt with
    | false => rfl
    | true =>
      cases hk : wayOk q ⟨x, y, ⟨t, n, e, s, w, b⟩⟩ wd with
      | false => rfl
      | true =>
        obtain ⟨h1, h2, h3, h4, h5⟩ := way_out hk
        obtain ⟨k1, _⟩ := isWord_out h2
        simp only [Bool.not_true, cond_false, cond_true, Bool.true_and, h5, Cod.encs_len]
        exact impl_ReplayOf.l6_run (n := N) (L := alL (isFl (rws q)) ⟨x, y, ⟨t, n, e, s, w, b⟩⟩ wd) (by omega) (alL_good h1) (alL (isFl (rws q)) ⟨x, y, ⟨t, n, e, s, w, b⟩⟩ wd).length 0 N (by omega) (by omega)
  · cases h
theorem replay_len (q : ByteArray) (s : Sta) (px py pt : Int) (wd : ByteArray) : (replayL q s px py pt wd).length ≤ 100 := by
  unfold replayL
  cases hh : pzOk q s px py pt && wayOk q s wd with
  | false => simp
  | true =>
    rw [Bool.and_eq_true] at hh
    obtain ⟨h1, h2, h3, h4, h5⟩ := way_out hh.2
    obtain ⟨k1, _⟩ := isWord_out h2
    rw [cond_true, List.length_map]; omega
/-! laws_FnExactReplayOf -/
noncomputable def laws_FnExactReplayOf.cfg : Cfg := { C0 with keep := fun _ => none, nb := 0, M := tabM [(19, laws_szPuzzle.stub), (21, laws_toPuzzle.stub), (38, spec_ReplayOf.stub), (39, impl_ReplayOf.stub), (40, laws_eqStringS.stub), (42, laws_heldStringS.stub)], MM := tabB [(41, laws_markStringS.stub)] }
noncomputable def laws_FnExactReplayOf.res (n : Nat) (a0_0 : ByteArray) (a0_1 : Int) (a0_2 : Int) (a0_3 : Int) (a0_4 : Int) (a0_5 : Int) (a0_6 : Int) (a0_7 : Int) (a0_8 : Int) (a0_9 : Int) (a0_10 : Int) (a0_11 : Int) (a1 : ByteArray) : Option (List Q) :=
  bif decide ((↑(ByteArray.size a1) : Int) > (1048576 : Int)) then some [Q.one (D.bool true)] else bif decide (ByteArray.size a0_0 ≤ (9223372036854775807 : Nat)) then bif decide ((bif decide (ByteArray.size a0_0 ≤ (1048576 : Nat)) then (1048576 : Int) - (↑(ByteArray.size a0_0) : Int) else (-1 : Int)) < (0 : Int)) then some [Q.one (D.bool true)] else bif decide (ByteArray.size a0_0 < (17179869184 : Nat)) then Option.bind (Cod.decs strC (Cod.encs strC (replayL a0_0 (Sta.mk a0_1 a0_2 (Die.mk a0_3 a0_4 a0_5 a0_6 a0_7 a0_8)) a0_9 a0_10 a0_11 a1))) fun (l1 : List ByteArray) => Option.bind (Cod.decs strC (Cod.encs strC (replayL a0_0 (Sta.mk a0_1 a0_2 (Die.mk a0_3 a0_4 a0_5 a0_6 a0_7 a0_8)) a0_9 a0_10 a0_11 a1))) fun (l2 : List ByteArray) => bif decide (l1 = l2) then bif !(pzOk a0_0 (Sta.mk a0_1 a0_2 (Die.mk a0_3 a0_4 a0_5 a0_6 a0_7 a0_8)) a0_9 a0_10 a0_11 && wayOk a0_0 (Sta.mk a0_1 a0_2 (Die.mk a0_3 a0_4 a0_5 a0_6 a0_7 a0_8)) a1) == (pzOk a0_0 (Sta.mk a0_1 a0_2 (Die.mk a0_3 a0_4 a0_5 a0_6 a0_7 a0_8)) a0_9 a0_10 a0_11 && wayOk a0_0 (Sta.mk a0_1 a0_2 (Die.mk a0_3 a0_4 a0_5 a0_6 a0_7 a0_8)) a1) then some [Q.one (D.bool false)] else Option.bind (Cod.decs strC (Cod.encs strC (replayL a0_0 (Sta.mk a0_1 a0_2 (Die.mk a0_3 a0_4 a0_5 a0_6 a0_7 a0_8)) a0_9 a0_10 a0_11 a1))) fun (l3 : List ByteArray) => bif decide (List.length l3 ≤ (100 : Nat)) then Option.bind (Cod.decs strC (Cod.encs strC (marksT (List.length l3)))) fun (l4 : List ByteArray) => bif decide (List.length l4 ≤ (100 : Nat)) then bif isMarksT l4 then bif mkE (List.length l4) != mkE (List.length l3) then some [Q.one (D.bool false)] else bif decide (ByteArray.size a0_0 < (17179869184 : Nat)) then Option.bind (Cod.decs strC (Cod.encs strC (replayL a0_0 (Sta.mk a0_1 a0_2 (Die.mk a0_3 a0_4 a0_5 a0_6 a0_7 a0_8)) a0_9 a0_10 a0_11 a1))) fun (l5 : List ByteArray) => Option.bind (Cod.decs strC (Cod.encs strC (replayL a0_0 (Sta.mk a0_1 a0_2 (Die.mk a0_3 a0_4 a0_5 a0_6 a0_7 a0_8)) a0_9 a0_10 a0_11 a1))) fun (l6 : List ByteArray) => bif decide (l5 = l6) then bif !(pzOk a0_0 (Sta.mk a0_1 a0_2 (Die.mk a0_3 a0_4 a0_5 a0_6 a0_7 a0_8)) a0_9 a0_10 a0_11 && wayOk a0_0 (Sta.mk a0_1 a0_2 (Die.mk a0_3 a0_4 a0_5 a0_6 a0_7 a0_8)) a1) == (pzOk a0_0 (Sta.mk a0_1 a0_2 (Die.mk a0_3 a0_4 a0_5 a0_6 a0_7 a0_8)) a0_9 a0_10 a0_11 && wayOk a0_0 (Sta.mk a0_1 a0_2 (Die.mk a0_3 a0_4 a0_5 a0_6 a0_7 a0_8)) a1) then some [Q.one (D.bool false)] else Option.bind (Cod.decs strC (Cod.encs strC (marksT (List.length l3)))) fun (l7 : List ByteArray) => bif decide (List.length l7 ≤ (100 : Nat)) then bif isMarksT l7 then bif mkE (List.length l7) != mkE (List.length l3) then some [Q.one (D.bool false)] else some [Q.one (D.bool true)] else none else none else none else none else none else none else none else none else none else none
theorem laws_FnExactReplayOf.run (n : Nat) (a0_0 : ByteArray) (a0_1 : Int) (a0_2 : Int) (a0_3 : Int) (a0_4 : Int) (a0_5 : Int) (a0_6 : Int) (a0_7 : Int) (a0_8 : Int) (a0_9 : Int) (a0_10 : Int) (a0_11 : Int) (a1 : ByteArray) :
    run1 laws_FnExactReplayOf.cfg [RK.one LK.bool] n Tryd.f12 [Q.agg [D.str a0_0, D.int IntKind.i64 a0_1, D.int IntKind.i64 a0_2, D.int IntKind.i64 a0_3, D.int IntKind.i64 a0_4, D.int IntKind.i64 a0_5, D.int IntKind.i64 a0_6, D.int IntKind.i64 a0_7, D.int IntKind.i64 a0_8, D.int IntKind.i64 a0_9, D.int IntKind.i64 a0_10, D.int IntKind.i64 a0_11], Q.one (D.str a1)] = laws_FnExactReplayOf.res n a0_0 a0_1 a0_2 a0_3 a0_4 a0_5 a0_6 a0_7 a0_8 a0_9 a0_10 a0_11 a1 := by kernel_rfl
theorem laws_FnExactReplayOf.ev {n : Nat} {a0_0 : ByteArray} {a0_1 : Int} {a0_2 : Int} {a0_3 : Int} {a0_4 : Int} {a0_5 : Int} {a0_6 : Int} {a0_7 : Int} {a0_8 : Int} {a0_9 : Int} {a0_10 : Int} {a0_11 : Int} {a1 : ByteArray} {r : List Q} (h : laws_FnExactReplayOf.res n a0_0 a0_1 a0_2 a0_3 a0_4 a0_5 a0_6 a0_7 a0_8 a0_9 a0_10 a0_11 a1 = some r) : Snd Tryd.prog C0 12 [.agg [.str a0_0, .int .i64 a0_1, .int .i64 a0_2, .int .i64 a0_3, .int .i64 a0_4, .int .i64 a0_5, .int .i64 a0_6, .int .i64 a0_7, .int .i64 a0_8, .int .i64 a0_9, .int .i64 a0_10, .int .i64 a0_11], .one (.str a1)] r :=
  snd_ev (C := laws_FnExactReplayOf.cfg) cfg0 mix rfl rfl rfl rfl rfl (.cons laws_szPuzzle.ok (.cons laws_toPuzzle.ok (.cons spec_ReplayOf.ok (.cons impl_ReplayOf.ok (.cons laws_eqStringS.ok (.cons laws_heldStringS.ok .nil)))))) (.cons laws_markStringS.ok .nil) rfl Tryd.func12 (by kernel_rfl) (by kernel_rfl) rfl ((laws_FnExactReplayOf.run n a0_0 a0_1 a0_2 a0_3 a0_4 a0_5 a0_6 a0_7 a0_8 a0_9 a0_10 a0_11 a1).trans h)

theorem laws_FnExactReplayOf.law (q : ByteArray) (hq : q.size ≤ 9223372036854775807) (x y t n e s w b px py pt : Int) (wd : ByteArray) : Snd Tryd.prog C0 12 [.agg [.str q, .int .i64 x, .int .i64 y, .int .i64 t, .int .i64 n, .int .i64 e, .int .i64 s, .int .i64 w, .int .i64 b, .int .i64 px, .int .i64 py, .int .i64 pt], .one (.str wd)] [.one (.bool true)] := by
  refine laws_FnExactReplayOf.ev (n := 0) ?_
  have h100 := replay_len q ⟨x, y, ⟨t, n, e, s, w, b⟩⟩ px py pt wd
  have hf : (replayL q ⟨x, y, ⟨t, n, e, s, w, b⟩⟩ px py pt wd).length ≤ LIM := by unfold LIM; omega
  have hm : (marksT (replayL q ⟨x, y, ⟨t, n, e, s, w, b⟩⟩ px py pt wd).length).length ≤ LIM := by rw [marksT_len]; exact hf
  unfold laws_FnExactReplayOf.res
  simp only [hq, decide_true, cond_true, szNeg]
  by_cases hl : ((wd.size : Nat) : Int) > 1048576
  · simp only [hl, decide_true, cond_true]
  · by_cases hs : q.size ≤ 1048576
    · have h1 : q.size < 17179869184 := by omega
      have hneg : ¬ mkE (replayL q ⟨x, y, ⟨t, n, e, s, w, b⟩⟩ px py pt wd).length < 0 := by unfold mkE; omega
      simp only [hl, hs, h1, h100, hneg, Cod.decs_encs hf, Cod.decs_encs hm, Option.bind_some, decide_true, decide_false, cond_true, Bool.not_true, cond_false, isMarksT_marks, marksT_len, beq_self_eq_true, bne_self_eq_false]
    · simp only [hl, hs, decide_false, Bool.not_false, cond_true, cond_false]
end Go.Proofs.EV.PL
