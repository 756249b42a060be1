import Derived.Test.YtfbfndnppfgfmaaDoorPlA
set_option linter.unusedVariables false
set_option linter.unusedSimpArgs false
/-! Boards, grounds, labelled boards: turned. -/
namespace Go.Proofs.EV.PL
open Go Go.Proofs Go.Proofs.EV Sp
theorem isGr_bo {b : ByteArray} (h : isGr b = true) : isBo gnd b = true ∧ grW b = wOf (rws b) ∧ grH b = (rws b).length ∧ grC b = (rws b).flatten := by
  refine ⟨?_, ?_, ?_, ?_⟩
  · unfold isGr at h
    rw [Bool.and_eq_true] at h
    exact h.1
  · unfold grW; rw [h]; rfl
  · unfold grH; rw [h]; rfl
  · unfold grC; rw [h]; rfl
/-! spec_TurnBoard -/
noncomputable def spec_TurnBoard.cfg : Cfg := { C0 with keep := fun _ => none, nb := 0, M := tabM [(53, spec_boRead.stub), (54, spec_boText.stub), (55, spec_boTurn.stub)], MM := tabB [] }
noncomputable def spec_TurnBoard.res (n : Nat) (a0 : ByteArray) : Option (List Q) :=
  bif !isBo brd a0 then some [Q.one (D.str (ByteArray.mk #[])), Q.one (D.bool false)] else Option.bind (Cod.decs u8C (Cod.encs u8C (boC brd a0))) fun (l1 : List UInt8) => bif inR (↑(boW brd a0) : Int) (0 : Int) (7 : Int) then bif inR (↑(boH brd a0) : Int) (0 : Int) (7 : Int) then bif decide (List.length l1 = Int.toNat (↑(boW brd a0) : Int) * Int.toNat (↑(boH brd a0) : Int)) then Option.bind (Cod.decs u8C (Cod.encs u8C (turnC (Int.toNat (↑(boW brd a0) : Int)) (Int.toNat (↑(boH brd a0) : Int)) l1))) fun (l2 : List UInt8) => bif inR (↑(boH brd a0) : Int) (0 : Int) (7 : Int) then bif inR (↑(boW brd a0) : Int) (0 : Int) (7 : Int) then bif decide (List.length l2 = Int.toNat (↑(boH brd a0) : Int) * Int.toNat (↑(boW brd a0) : Int)) then some [Q.one (D.str (mkB (jn (chunk (Int.toNat (↑(boH brd a0) : Int)) (Int.toNat (↑(boW brd a0) : Int)) l2)))), Q.one (D.bool true)] else none else none else none else none else none else none
theorem spec_TurnBoard.run (n : Nat) (a0 : ByteArray) :
    run1 spec_TurnBoard.cfg [RK.one LK.str, RK.one LK.bool] n Tryd.f23 [Q.one (D.str a0)] = spec_TurnBoard.res n a0 := by kernel_rfl
theorem spec_TurnBoard.ev {n : Nat} {a0 : ByteArray} {r : List Q} (h : spec_TurnBoard.res n a0 = some r) : Snd Tryd.prog C0 23 [.one (.str a0)] r :=
  snd_ev (C := spec_TurnBoard.cfg) cfg0 mix rfl rfl rfl rfl rfl (.cons spec_boRead.ok (.cons spec_boText.ok (.cons spec_boTurn.ok .nil))) .nil rfl Tryd.func23 (by kernel_rfl) (by kernel_rfl) rfl ((spec_TurnBoard.run n a0).trans h)

def spec_TurnBoard.stub : Stub
  | [.one (.str b)] => .ret [.one (.str (Sp.turnT Sp.brd b)), .one (.bool (Sp.isBo Sp.brd b))]
  | _ => .fail
theorem spec_TurnBoard.ok : StubOk Tryd.prog C0 23 spec_TurnBoard.stub := by
  intro args res h
  unfold spec_TurnBoard.stub at h
  split at h
  · rename_i b
    cases h
    refine spec_TurnBoard.ev (n := 0) ?_
    unfold spec_TurnBoard.res turnT
    cases hb : isBo Sp.brd b with
    | false => rfl
    | true =>
      obtain ⟨k1, k2, k3, k4⟩ := isBo_fine hb
      obtain ⟨e1, e2, e3, _, _, _, _⟩ := bo_ok hb
      obtain ⟨f1, f2, f3, f4, f5, f6, f7, f8⟩ := r_facts k1 k2 k3
      simp only [Bool.not_true, cond_false, cond_true, e1, e2, e3, Int.toNat_natCast, f1, f2, f4, f5, f6, f7, Option.bind_some, turn_text k1]
  · cases h
/-! impl_TurnBoard -/
noncomputable def impl_TurnBoard.cfg : Cfg := { C0 with keep := fun _ => none, nb := 0, M := tabM [(56, impl_board.stub), (57, impl_grid_turn.stub), (58, impl_grid_text.stub)], MM := tabB [] }
noncomputable def impl_TurnBoard.res (n : Nat) (a0 : ByteArray) : Option (List Q) :=
  bif decide (ByteArray.size a0 < (17179869184 : Nat)) then bif !isBo brd a0 then some [Q.one (D.str (ByteArray.mk #[])), Q.one (D.bool false)] else Option.bind (Cod.decs strC (Cod.encs strC (gridI brd a0))) fun (l1 : List ByteArray) => bif unif (lb l1) then bif inR (↑(List.length l1) : Int) (1 : Int) (7 : Int) then bif inR (↑(wOf (lb l1)) : Int) (0 : Int) (7 : Int) then Option.bind (Cod.decs strC (Cod.encs strC (turnB l1))) fun (l2 : List ByteArray) => bif decide (List.length (jn (lb l2)) ≤ (17179869184 : Nat)) then some [Q.one (D.str (mkB (jn (lb l2)))), Q.one (D.bool true)] else none else none else none else none else none
theorem impl_TurnBoard.run (n : Nat) (a0 : ByteArray) :
    run1 impl_TurnBoard.cfg [RK.one LK.str, RK.one LK.bool] n Tryd.f24 [Q.one (D.str a0)] = impl_TurnBoard.res n a0 := by kernel_rfl
theorem impl_TurnBoard.ev {n : Nat} {a0 : ByteArray} {r : List Q} (h : impl_TurnBoard.res n a0 = some r) : Snd Tryd.prog C0 24 [.one (.str a0)] r :=
  snd_ev (C := impl_TurnBoard.cfg) cfg0 mix rfl rfl rfl rfl rfl (.cons impl_board.ok (.cons impl_grid_turn.ok (.cons impl_grid_text.ok .nil))) .nil rfl Tryd.func24 (by kernel_rfl) (by kernel_rfl) rfl ((impl_TurnBoard.run n a0).trans h)

def impl_TurnBoard.stub : Stub
  | [.one (.str b)] => .gd (decide (b.size < LIM)) (.ret [.one (.str (Sp.turnT Sp.brd b)), .one (.bool (Sp.isBo Sp.brd b))])
  | _ => .fail
theorem impl_TurnBoard.ok : StubOk Tryd.prog C0 24 impl_TurnBoard.stub := by
  intro args res h
  unfold impl_TurnBoard.stub at h
  split at h
  · rename_i b
    obtain ⟨hs, h0⟩ := gd_out h
    cases h0
    unfold LIM at hs
    refine impl_TurnBoard.ev (n := 0) ?_
    unfold impl_TurnBoard.res turnT
    rw [hs]
    cases hb : isBo Sp.brd b with
    | false => rfl
    | true =>
      have hq := hb
      obtain ⟨k1, k2, k3, k4⟩ := isBo_fine hq
      obtain ⟨f1, f2, f3, f4, f5, f6, f7, f8⟩ := r_facts k1 k2 k3
      obtain ⟨g1, g2, g3, g4, g5, g6⟩ := Sp.gr_ok hq
      obtain ⟨t1, t2, t3⟩ := turn_facts hq
      simp only [Bool.not_true, cond_false, cond_true, g5, g1, g6, k1, f1, f3, t1, t2, t3, Option.bind_some]
  · cases h
/-! laws_FnExactTurnBoard -/
noncomputable def laws_FnExactTurnBoard.cfg : Cfg := { C0 with keep := fun _ => none, nb := 0, M := tabM [(23, spec_TurnBoard.stub), (24, impl_TurnBoard.stub)], MM := tabB [] }
noncomputable def laws_FnExactTurnBoard.res (n : Nat) (a0 : ByteArray) : Option (List Q) :=
  bif decide ((↑(ByteArray.size a0) : Int) > (1048576 : Int)) then some [Q.one (D.bool true)] else bif decide (ByteArray.size a0 < (17179869184 : Nat)) then bif !strEq (turnT brd a0) (turnT brd a0) then some [Q.one (D.bool false)] else bif !isBo brd a0 == isBo brd a0 then some [Q.one (D.bool false)] else some [Q.one (D.bool true)] else none
theorem laws_FnExactTurnBoard.run (n : Nat) (a0 : ByteArray) :
    run1 laws_FnExactTurnBoard.cfg [RK.one LK.bool] n Tryd.f5 [Q.one (D.str a0)] = laws_FnExactTurnBoard.res n a0 := by kernel_rfl
theorem laws_FnExactTurnBoard.ev {n : Nat} {a0 : ByteArray} {r : List Q} (h : laws_FnExactTurnBoard.res n a0 = some r) : Snd Tryd.prog C0 5 [.one (.str a0)] r :=
  snd_ev (C := laws_FnExactTurnBoard.cfg) cfg0 mix rfl rfl rfl rfl rfl (.cons spec_TurnBoard.ok (.cons impl_TurnBoard.ok .nil)) .nil rfl Tryd.func5 (by kernel_rfl) (by kernel_rfl) rfl ((laws_FnExactTurnBoard.run n a0).trans h)

theorem laws_FnExactTurnBoard.law (b : ByteArray) : Snd Tryd.prog C0 5 [.one (.str b)] [.one (.bool true)] := by
  refine laws_FnExactTurnBoard.ev (n := 0) ?_
  unfold laws_FnExactTurnBoard.res
  by_cases hs : b.size ≤ 1048576
  · have h1 : b.size < 17179869184 := by omega
    have h2 : ¬ ((b.size : Nat) : Int) > 1048576 := by omega
    simp only [h1, h2, decide_true, decide_false, cond_true, cond_false, strEq_refl, Bool.not_true, beq_self_eq_true, bne_self_eq_false]
  · have h2 : ((b.size : Nat) : Int) > 1048576 := by omega
    simp only [h2, decide_true, cond_true]
/-! spec_TurnGround -/
noncomputable def spec_TurnGround.cfg : Cfg := { C0 with keep := fun _ => none, nb := 0, M := tabM [(59, spec_bxRead.stub), (54, spec_boText.stub), (55, spec_boTurn.stub)], MM := tabB [] }
noncomputable def spec_TurnGround.res (n : Nat) (a0 : ByteArray) : Option (List Q) :=
  bif !isGr a0 then some [Q.one (D.str (ByteArray.mk #[])), Q.one (D.bool false)] else Option.bind (Cod.decs u8C (Cod.encs u8C (grC a0))) fun (l1 : List UInt8) => bif inR (↑(grW a0) : Int) (0 : Int) (7 : Int) then bif inR (↑(grH a0) : Int) (0 : Int) (7 : Int) then bif decide (List.length l1 = Int.toNat (↑(grW a0) : Int) * Int.toNat (↑(grH a0) : Int)) then Option.bind (Cod.decs u8C (Cod.encs u8C (turnC (Int.toNat (↑(grW a0) : Int)) (Int.toNat (↑(grH a0) : Int)) l1))) fun (l2 : List UInt8) => bif inR (↑(grH a0) : Int) (0 : Int) (7 : Int) then bif inR (↑(grW a0) : Int) (0 : Int) (7 : Int) then bif decide (List.length l2 = Int.toNat (↑(grH a0) : Int) * Int.toNat (↑(grW a0) : Int)) then some [Q.one (D.str (mkB (jn (chunk (Int.toNat (↑(grH a0) : Int)) (Int.toNat (↑(grW a0) : Int)) l2)))), Q.one (D.bool true)] else none else none else none else none else none else none
theorem spec_TurnGround.run (n : Nat) (a0 : ByteArray) :
    run1 spec_TurnGround.cfg [RK.one LK.str, RK.one LK.bool] n Tryd.f25 [Q.one (D.str a0)] = spec_TurnGround.res n a0 := by kernel_rfl
theorem spec_TurnGround.ev {n : Nat} {a0 : ByteArray} {r : List Q} (h : spec_TurnGround.res n a0 = some r) : Snd Tryd.prog C0 25 [.one (.str a0)] r :=
  snd_ev (C := spec_TurnGround.cfg) cfg0 mix rfl rfl rfl rfl rfl (.cons spec_bxRead.ok (.cons spec_boText.ok (.cons spec_boTurn.ok .nil))) .nil rfl Tryd.func25 (by kernel_rfl) (by kernel_rfl) rfl ((spec_TurnGround.run n a0).trans h)

def spec_TurnGround.stub : Stub
  | [.one (.str b)] => .ret [.one (.str (Sp.turnG b)), .one (.bool (Sp.isGr b))]
  | _ => .fail
theorem spec_TurnGround.ok : StubOk Tryd.prog C0 25 spec_TurnGround.stub := by
  intro args res h
  unfold spec_TurnGround.stub at h
  split at h
  · rename_i b
    cases h
    refine spec_TurnGround.ev (n := 0) ?_
    unfold spec_TurnGround.res turnG
    cases hb : isGr b with
    | false => rfl
    | true =>
      obtain ⟨hq, e2, e3, e1⟩ := isGr_bo hb
      obtain ⟨k1, k2, k3, k4⟩ := isBo_fine hq
      obtain ⟨f1, f2, f3, f4, f5, f6, f7, f8⟩ := r_facts k1 k2 k3
      simp only [Bool.not_true, cond_false, cond_true, e1, e2, e3, Int.toNat_natCast, f1, f2, f4, f5, f6, f7, Option.bind_some, turn_text k1]
  · cases h
/-! impl_TurnGround -/
noncomputable def impl_TurnGround.cfg : Cfg := { C0 with keep := fun _ => none, nb := 0, M := tabM [(60, impl_ground.stub), (57, impl_grid_turn.stub), (58, impl_grid_text.stub)], MM := tabB [] }
noncomputable def impl_TurnGround.res (n : Nat) (a0 : ByteArray) : Option (List Q) :=
  bif decide (ByteArray.size a0 < (17179869184 : Nat)) then bif !isGr a0 then some [Q.one (D.str (ByteArray.mk #[])), Q.one (D.bool false)] else Option.bind (Cod.decs strC (Cod.encs strC (gridI gnd a0))) fun (l1 : List ByteArray) => bif unif (lb l1) then bif inR (↑(List.length l1) : Int) (1 : Int) (7 : Int) then bif inR (↑(wOf (lb l1)) : Int) (0 : Int) (7 : Int) then Option.bind (Cod.decs strC (Cod.encs strC (turnB l1))) fun (l2 : List ByteArray) => bif decide (List.length (jn (lb l2)) ≤ (17179869184 : Nat)) then some [Q.one (D.str (mkB (jn (lb l2)))), Q.one (D.bool true)] else none else none else none else none else none
theorem impl_TurnGround.run (n : Nat) (a0 : ByteArray) :
    run1 impl_TurnGround.cfg [RK.one LK.str, RK.one LK.bool] n Tryd.f26 [Q.one (D.str a0)] = impl_TurnGround.res n a0 := by kernel_rfl
theorem impl_TurnGround.ev {n : Nat} {a0 : ByteArray} {r : List Q} (h : impl_TurnGround.res n a0 = some r) : Snd Tryd.prog C0 26 [.one (.str a0)] r :=
  snd_ev (C := impl_TurnGround.cfg) cfg0 mix rfl rfl rfl rfl rfl (.cons impl_ground.ok (.cons impl_grid_turn.ok (.cons impl_grid_text.ok .nil))) .nil rfl Tryd.func26 (by kernel_rfl) (by kernel_rfl) rfl ((impl_TurnGround.run n a0).trans h)

def impl_TurnGround.stub : Stub
  | [.one (.str b)] => .gd (decide (b.size < LIM)) (.ret [.one (.str (Sp.turnG b)), .one (.bool (Sp.isGr b))])
  | _ => .fail
theorem impl_TurnGround.ok : StubOk Tryd.prog C0 26 impl_TurnGround.stub := by
  intro args res h
  unfold impl_TurnGround.stub at h
  split at h
  · rename_i b
    obtain ⟨hs, h0⟩ := gd_out h
    cases h0
    unfold LIM at hs
    refine impl_TurnGround.ev (n := 0) ?_
    unfold impl_TurnGround.res turnG
    rw [hs]
    cases hb : isGr b with
    | false => rfl
    | true =>
      have hq := (isGr_bo hb).1
      obtain ⟨k1, k2, k3, k4⟩ := isBo_fine hq
      obtain ⟨f1, f2, f3, f4, f5, f6, f7, f8⟩ := r_facts k1 k2 k3
      obtain ⟨g1, g2, g3, g4, g5, g6⟩ := Sp.gr_ok hq
      obtain ⟨t1, t2, t3⟩ := turn_facts hq
      simp only [Bool.not_true, cond_false, cond_true, g5, g1, g6, k1, f1, f3, t1, t2, t3, Option.bind_some]
  · cases h
/-! laws_FnExactTurnGround -/
noncomputable def laws_FnExactTurnGround.cfg : Cfg := { C0 with keep := fun _ => none, nb := 0, M := tabM [(25, spec_TurnGround.stub), (26, impl_TurnGround.stub)], MM := tabB [] }
noncomputable def laws_FnExactTurnGround.res (n : Nat) (a0 : ByteArray) : Option (List Q) :=
  bif decide ((↑(ByteArray.size a0) : Int) > (1048576 : Int)) then some [Q.one (D.bool true)] else bif decide (ByteArray.size a0 < (17179869184 : Nat)) then bif !strEq (turnG a0) (turnG a0) then some [Q.one (D.bool false)] else bif !isGr a0 == isGr a0 then some [Q.one (D.bool false)] else some [Q.one (D.bool true)] else none
theorem laws_FnExactTurnGround.run (n : Nat) (a0 : ByteArray) :
    run1 laws_FnExactTurnGround.cfg [RK.one LK.bool] n Tryd.f6 [Q.one (D.str a0)] = laws_FnExactTurnGround.res n a0 := by kernel_rfl
theorem laws_FnExactTurnGround.ev {n : Nat} {a0 : ByteArray} {r : List Q} (h : laws_FnExactTurnGround.res n a0 = some r) : Snd Tryd.prog C0 6 [.one (.str a0)] r :=
  snd_ev (C := laws_FnExactTurnGround.cfg) cfg0 mix rfl rfl rfl rfl rfl (.cons spec_TurnGround.ok (.cons impl_TurnGround.ok .nil)) .nil rfl Tryd.func6 (by kernel_rfl) (by kernel_rfl) rfl ((laws_FnExactTurnGround.run n a0).trans h)

theorem laws_FnExactTurnGround.law (b : ByteArray) : Snd Tryd.prog C0 6 [.one (.str b)] [.one (.bool true)] := by
  refine laws_FnExactTurnGround.ev (n := 0) ?_
  unfold laws_FnExactTurnGround.res
  by_cases hs : b.size ≤ 1048576
  · have h1 : b.size < 17179869184 := by omega
    have h2 : ¬ ((b.size : Nat) : Int) > 1048576 := by omega
    simp only [h1, h2, decide_true, decide_false, cond_true, cond_false, strEq_refl, Bool.not_true, beq_self_eq_true, bne_self_eq_false]
  · have h2 : ((b.size : Nat) : Int) > 1048576 := by omega
    simp only [h2, decide_true, cond_true]
/-! spec_FloorOfLabels -/
noncomputable def spec_FloorOfLabels.cfg : Cfg := { C0 with keep := fun _ => none, nb := 0, M := tabM [(61, spec_prRead.stub), (54, spec_boText.stub)], MM := tabB [] }
noncomputable def spec_FloorOfLabels.res (n : Nat) (a0 : ByteArray) : Option (List Q) :=
  bif !isBo lab a0 then some [Q.one (D.str (ByteArray.mk #[])), Q.one (D.bool false)] else Option.bind (Cod.decs u8C (Cod.encs u8C (boC brd (plainB a0)))) fun (l1 : List UInt8) => bif inR (↑(boW brd (plainB a0)) : Int) (0 : Int) (7 : Int) then bif inR (↑(boH brd (plainB a0)) : Int) (0 : Int) (7 : Int) then bif decide (List.length l1 = Int.toNat (↑(boW brd (plainB a0)) : Int) * Int.toNat (↑(boH brd (plainB a0)) : Int)) then some [Q.one (D.str (mkB (jn (chunk (Int.toNat (↑(boW brd (plainB a0)) : Int)) (Int.toNat (↑(boH brd (plainB a0)) : Int)) l1)))), Q.one (D.bool true)] else none else none else none
theorem spec_FloorOfLabels.run (n : Nat) (a0 : ByteArray) :
    run1 spec_FloorOfLabels.cfg [RK.one LK.str, RK.one LK.bool] n Tryd.f27 [Q.one (D.str a0)] = spec_FloorOfLabels.res n a0 := by kernel_rfl
theorem spec_FloorOfLabels.ev {n : Nat} {a0 : ByteArray} {r : List Q} (h : spec_FloorOfLabels.res n a0 = some r) : Snd Tryd.prog C0 27 [.one (.str a0)] r :=
  snd_ev (C := spec_FloorOfLabels.cfg) cfg0 mix rfl rfl rfl rfl rfl (.cons spec_prRead.ok (.cons spec_boText.ok .nil)) .nil rfl Tryd.func27 (by kernel_rfl) (by kernel_rfl) rfl ((spec_FloorOfLabels.run n a0).trans h)

def spec_FloorOfLabels.stub : Stub
  | [.one (.str b)] => .ret [.one (.str (Sp.floorT b)), .one (.bool (Sp.isBo Sp.lab b))]
  | _ => .fail
theorem spec_FloorOfLabels.ok : StubOk Tryd.prog C0 27 spec_FloorOfLabels.stub := by
  intro args res h
  unfold spec_FloorOfLabels.stub at h
  split at h
  · rename_i b
    cases h
    refine spec_FloorOfLabels.ev (n := 0) ?_
    unfold spec_FloorOfLabels.res floorT
    cases hb : isBo Sp.lab b with
    | false => rfl
    | true =>
      have hq : isBo brd (plainB b) = true := by rw [isBo_plain]; exact hb
      obtain ⟨k1, k2, k3, k4⟩ := isBo_fine hq
      obtain ⟨e1, e2, e3, _, _, _, _⟩ := bo_ok hq
      obtain ⟨f1, f2, f3, f4, f5, f6, f7, f8⟩ := r_facts k1 k2 k3
      simp only [Bool.not_true, cond_false, cond_true, e1, e2, e3, Int.toNat_natCast, f1, f2, f4, f5, f8, Option.bind_some]
  · cases h
/-! impl_FloorOfLabels -/
noncomputable def impl_FloorOfLabels.cfg : Cfg := { C0 with keep := fun _ => none, nb := 0, M := tabM [(62, impl_labelled.stub), (63, impl_grid_floor.stub), (58, impl_grid_text.stub)], MM := tabB [] }
noncomputable def impl_FloorOfLabels.res (n : Nat) (a0 : ByteArray) : Option (List Q) :=
  bif decide (ByteArray.size a0 < (17179869184 : Nat)) then bif !isBo lab a0 then some [Q.one (D.str (ByteArray.mk #[])), Q.one (D.bool false)] else Option.bind (Cod.decs strC (Cod.encs strC (gridI lab a0))) fun (l1 : List ByteArray) => bif smallR l1 then Option.bind (Cod.decs strC (Cod.encs strC (plainL l1))) fun (l2 : List ByteArray) => bif decide (List.length (jn (lb l2)) ≤ (17179869184 : Nat)) then some [Q.one (D.str (mkB (jn (lb l2)))), Q.one (D.bool true)] else none else none else none
theorem impl_FloorOfLabels.run (n : Nat) (a0 : ByteArray) :
    run1 impl_FloorOfLabels.cfg [RK.one LK.str, RK.one LK.bool] n Tryd.f28 [Q.one (D.str a0)] = impl_FloorOfLabels.res n a0 := by kernel_rfl
theorem impl_FloorOfLabels.ev {n : Nat} {a0 : ByteArray} {r : List Q} (h : impl_FloorOfLabels.res n a0 = some r) : Snd Tryd.prog C0 28 [.one (.str a0)] r :=
  snd_ev (C := impl_FloorOfLabels.cfg) cfg0 mix rfl rfl rfl rfl rfl (.cons impl_labelled.ok (.cons impl_grid_floor.ok (.cons impl_grid_text.ok .nil))) .nil rfl Tryd.func28 (by kernel_rfl) (by kernel_rfl) rfl ((impl_FloorOfLabels.run n a0).trans h)

def impl_FloorOfLabels.stub : Stub
  | [.one (.str b)] => .gd (decide (b.size < LIM)) (.ret [.one (.str (Sp.floorT b)), .one (.bool (Sp.isBo Sp.lab b))])
  | _ => .fail
theorem impl_FloorOfLabels.ok : StubOk Tryd.prog C0 28 impl_FloorOfLabels.stub := by
  intro args res h
  unfold impl_FloorOfLabels.stub at h
  split at h
  · rename_i b
    obtain ⟨hs, h0⟩ := gd_out h
    cases h0
    unfold LIM at hs
    refine impl_FloorOfLabels.ev (n := 0) ?_
    unfold impl_FloorOfLabels.res floorT
    rw [hs]
    cases hb : isBo Sp.lab b with
    | false => rfl
    | true =>
      obtain ⟨g1, g2, g3, g4, g5, g6⟩ := Sp.gr_ok hb
      obtain ⟨t1, t2, t3⟩ := plain_facts hb
      simp only [Bool.not_true, cond_false, cond_true, g5, small_gr hb, t1, t2, t3, Option.bind_some]
  · cases h
/-! laws_FnExactFloorOfLabels -/
noncomputable def laws_FnExactFloorOfLabels.cfg : Cfg := { C0 with keep := fun _ => none, nb := 0, M := tabM [(27, spec_FloorOfLabels.stub), (28, impl_FloorOfLabels.stub)], MM := tabB [] }
noncomputable def laws_FnExactFloorOfLabels.res (n : Nat) (a0 : ByteArray) : Option (List Q) :=
  bif decide ((↑(ByteArray.size a0) : Int) > (1048576 : Int)) then some [Q.one (D.bool true)] else bif decide (ByteArray.size a0 < (17179869184 : Nat)) then bif !strEq (floorT a0) (floorT a0) then some [Q.one (D.bool false)] else bif !isBo lab a0 == isBo lab a0 then some [Q.one (D.bool false)] else some [Q.one (D.bool true)] else none
theorem laws_FnExactFloorOfLabels.run (n : Nat) (a0 : ByteArray) :
    run1 laws_FnExactFloorOfLabels.cfg [RK.one LK.bool] n Tryd.f7 [Q.one (D.str a0)] = laws_FnExactFloorOfLabels.res n a0 := by kernel_rfl
theorem laws_FnExactFloorOfLabels.ev {n : Nat} {a0 : ByteArray} {r : List Q} (h : laws_FnExactFloorOfLabels.res n a0 = some r) : Snd Tryd.prog C0 7 [.one (.str a0)] r :=
  snd_ev (C := laws_FnExactFloorOfLabels.cfg) cfg0 mix rfl rfl rfl rfl rfl (.cons spec_FloorOfLabels.ok (.cons impl_FloorOfLabels.ok .nil)) .nil rfl Tryd.func7 (by kernel_rfl) (by kernel_rfl) rfl ((laws_FnExactFloorOfLabels.run n a0).trans h)

theorem laws_FnExactFloorOfLabels.law (b : ByteArray) : Snd Tryd.prog C0 7 [.one (.str b)] [.one (.bool true)] := by
  refine laws_FnExactFloorOfLabels.ev (n := 0) ?_
  unfold laws_FnExactFloorOfLabels.res
  by_cases hs : b.size ≤ 1048576
  · have h1 : b.size < 17179869184 := by omega
    have h2 : ¬ ((b.size : Nat) : Int) > 1048576 := by omega
    simp only [h1, h2, decide_true, decide_false, cond_true, cond_false, strEq_refl, Bool.not_true, beq_self_eq_true, bne_self_eq_false]
  · have h2 : ((b.size : Nat) : Int) > 1048576 := by omega
    simp only [h2, decide_true, cond_true]
/-! spec_TurnLabelled -/
noncomputable def spec_TurnLabelled.cfg : Cfg := { C0 with keep := fun _ => none, nb := 0, M := tabM [(61, spec_prRead.stub), (54, spec_boText.stub), (55, spec_boTurn.stub)], MM := tabB [] }
noncomputable def spec_TurnLabelled.res (n : Nat) (a0 : ByteArray) : Option (List Q) :=
  bif !isBo lab a0 then some [Q.one (D.str (ByteArray.mk #[])), Q.one (D.bool false)] else Option.bind (Cod.decs u8C (Cod.encs u8C (prL a0))) fun (l1 : List UInt8) => bif inR (↑(boW brd (plainB a0)) : Int) (0 : Int) (7 : Int) then bif inR (↑(boH brd (plainB a0)) : Int) (0 : Int) (7 : Int) then bif decide (List.length l1 = Int.toNat (↑(boW brd (plainB a0)) : Int) * Int.toNat (↑(boH brd (plainB a0)) : Int)) then Option.bind (Cod.decs u8C (Cod.encs u8C (turnC (Int.toNat (↑(boW brd (plainB a0)) : Int)) (Int.toNat (↑(boH brd (plainB a0)) : Int)) l1))) fun (l2 : List UInt8) => bif inR (↑(boH brd (plainB a0)) : Int) (0 : Int) (7 : Int) then bif inR (↑(boW brd (plainB a0)) : Int) (0 : Int) (7 : Int) then bif decide (List.length l2 = Int.toNat (↑(boH brd (plainB a0)) : Int) * Int.toNat (↑(boW brd (plainB a0)) : Int)) then some [Q.one (D.str (mkB (jn (chunk (Int.toNat (↑(boH brd (plainB a0)) : Int)) (Int.toNat (↑(boW brd (plainB a0)) : Int)) l2)))), Q.one (D.bool true)] else none else none else none else none else none else none
theorem spec_TurnLabelled.run (n : Nat) (a0 : ByteArray) :
    run1 spec_TurnLabelled.cfg [RK.one LK.str, RK.one LK.bool] n Tryd.f29 [Q.one (D.str a0)] = spec_TurnLabelled.res n a0 := by kernel_rfl
theorem spec_TurnLabelled.ev {n : Nat} {a0 : ByteArray} {r : List Q} (h : spec_TurnLabelled.res n a0 = some r) : Snd Tryd.prog C0 29 [.one (.str a0)] r :=
  snd_ev (C := spec_TurnLabelled.cfg) cfg0 mix rfl rfl rfl rfl rfl (.cons spec_prRead.ok (.cons spec_boText.ok (.cons spec_boTurn.ok .nil))) .nil rfl Tryd.func29 (by kernel_rfl) (by kernel_rfl) rfl ((spec_TurnLabelled.run n a0).trans h)

def spec_TurnLabelled.stub : Stub
  | [.one (.str b)] => .ret [.one (.str (Sp.turnT Sp.lab b)), .one (.bool (Sp.isBo Sp.lab b))]
  | _ => .fail
theorem spec_TurnLabelled.ok : StubOk Tryd.prog C0 29 spec_TurnLabelled.stub := by
  intro args res h
  unfold spec_TurnLabelled.stub at h
  split at h
  · rename_i b
    cases h
    refine spec_TurnLabelled.ev (n := 0) ?_
    unfold spec_TurnLabelled.res turnT
    cases hb : isBo Sp.lab b with
    | false => rfl
    | true =>
      have hq : isBo brd (plainB b) = true := by rw [isBo_plain]; exact hb
      obtain ⟨k1, k2, k3, k4⟩ := isBo_fine hb
      obtain ⟨_, e2, e3, _, _, _, _⟩ := bo_ok hq
      rw [rws_plain, wOf_map] at e2
      rw [rws_plain, List.length_map] at e3
      have e1 := prL_rows hb
      obtain ⟨f1, f2, f3, f4, f5, f6, f7, f8⟩ := r_facts k1 k2 k3
      simp only [Bool.not_true, cond_false, cond_true, e1, e2, e3, Int.toNat_natCast, f1, f2, f4, f5, f6, f7, Option.bind_some, turn_text k1]
  · cases h
/-! impl_TurnLabelled -/
noncomputable def impl_TurnLabelled.cfg : Cfg := { C0 with keep := fun _ => none, nb := 0, M := tabM [(62, impl_labelled.stub), (57, impl_grid_turn.stub), (58, impl_grid_text.stub)], MM := tabB [] }
noncomputable def impl_TurnLabelled.res (n : Nat) (a0 : ByteArray) : Option (List Q) :=
  bif decide (ByteArray.size a0 < (17179869184 : Nat)) then bif !isBo lab a0 then some [Q.one (D.str (ByteArray.mk #[])), Q.one (D.bool false)] else Option.bind (Cod.decs strC (Cod.encs strC (gridI lab a0))) fun (l1 : List ByteArray) => bif unif (lb l1) then bif inR (↑(List.length l1) : Int) (1 : Int) (7 : Int) then bif inR (↑(wOf (lb l1)) : Int) (0 : Int) (7 : Int) then Option.bind (Cod.decs strC (Cod.encs strC (turnB l1))) fun (l2 : List ByteArray) => bif decide (List.length (jn (lb l2)) ≤ (17179869184 : Nat)) then some [Q.one (D.str (mkB (jn (lb l2)))), Q.one (D.bool true)] else none else none else none else none else none
theorem impl_TurnLabelled.run (n : Nat) (a0 : ByteArray) :
    run1 impl_TurnLabelled.cfg [RK.one LK.str, RK.one LK.bool] n Tryd.f30 [Q.one (D.str a0)] = impl_TurnLabelled.res n a0 := by kernel_rfl
theorem impl_TurnLabelled.ev {n : Nat} {a0 : ByteArray} {r : List Q} (h : impl_TurnLabelled.res n a0 = some r) : Snd Tryd.prog C0 30 [.one (.str a0)] r :=
  snd_ev (C := impl_TurnLabelled.cfg) cfg0 mix rfl rfl rfl rfl rfl (.cons impl_labelled.ok (.cons impl_grid_turn.ok (.cons impl_grid_text.ok .nil))) .nil rfl Tryd.func30 (by kernel_rfl) (by kernel_rfl) rfl ((impl_TurnLabelled.run n a0).trans h)

def impl_TurnLabelled.stub : Stub
  | [.one (.str b)] => .gd (decide (b.size < LIM)) (.ret [.one (.str (Sp.turnT Sp.lab b)), .one (.bool (Sp.isBo Sp.lab b))])
  | _ => .fail
theorem impl_TurnLabelled.ok : StubOk Tryd.prog C0 30 impl_TurnLabelled.stub := by
  intro args res h
  unfold impl_TurnLabelled.stub at h
  split at h
  · rename_i b
    obtain ⟨hs, h0⟩ := gd_out h
    cases h0
    unfold LIM at hs
    refine impl_TurnLabelled.ev (n := 0) ?_
    unfold impl_TurnLabelled.res turnT
    rw [hs]
    cases hb : isBo Sp.lab b with
    | false => rfl
    | true =>
      have hq := hb
      obtain ⟨k1, k2, k3, k4⟩ := isBo_fine hq
      obtain ⟨f1, f2, f3, f4, f5, f6, f7, f8⟩ := r_facts k1 k2 k3
      obtain ⟨g1, g2, g3, g4, g5, g6⟩ := Sp.gr_ok hq
      obtain ⟨t1, t2, t3⟩ := turn_facts hq
      simp only [Bool.not_true, cond_false, cond_true, g5, g1, g6, k1, f1, f3, t1, t2, t3, Option.bind_some]
  · cases h
/-! laws_FnExactTurnLabelled -/
noncomputable def laws_FnExactTurnLabelled.cfg : Cfg := { C0 with keep := fun _ => none, nb := 0, M := tabM [(29, spec_TurnLabelled.stub), (30, impl_TurnLabelled.stub)], MM := tabB [] }
noncomputable def laws_FnExactTurnLabelled.res (n : Nat) (a0 : ByteArray) : Option (List Q) :=
  bif decide ((↑(ByteArray.size a0) : Int) > (1048576 : Int)) then some [Q.one (D.bool true)] else bif decide (ByteArray.size a0 < (17179869184 : Nat)) then bif !strEq (turnT lab a0) (turnT lab a0) then some [Q.one (D.bool false)] else bif !isBo lab a0 == isBo lab a0 then some [Q.one (D.bool false)] else some [Q.one (D.bool true)] else none
theorem laws_FnExactTurnLabelled.run (n : Nat) (a0 : ByteArray) :
    run1 laws_FnExactTurnLabelled.cfg [RK.one LK.bool] n Tryd.f8 [Q.one (D.str a0)] = laws_FnExactTurnLabelled.res n a0 := by kernel_rfl
theorem laws_FnExactTurnLabelled.ev {n : Nat} {a0 : ByteArray} {r : List Q} (h : laws_FnExactTurnLabelled.res n a0 = some r) : Snd Tryd.prog C0 8 [.one (.str a0)] r :=
  snd_ev (C := laws_FnExactTurnLabelled.cfg) cfg0 mix rfl rfl rfl rfl rfl (.cons spec_TurnLabelled.ok (.cons impl_TurnLabelled.ok .nil)) .nil rfl Tryd.func8 (by kernel_rfl) (by kernel_rfl) rfl ((laws_FnExactTurnLabelled.run n a0).trans h)

theorem laws_FnExactTurnLabelled.law (b : ByteArray) : Snd Tryd.prog C0 8 [.one (.str b)] [.one (.bool true)] := by
  refine laws_FnExactTurnLabelled.ev (n := 0) ?_
  unfold laws_FnExactTurnLabelled.res
  by_cases hs : b.size ≤ 1048576
  · have h1 : b.size < 17179869184 := by omega
    have h2 : ¬ ((b.size : Nat) : Int) > 1048576 := by omega
    simp only [h1, h2, decide_true, decide_false, cond_true, cond_false, strEq_refl, Bool.not_true, beq_self_eq_true, bne_self_eq_false]
  · have h2 : ((b.size : Nat) : Int) > 1048576 := by omega
    simp only [h2, decide_true, cond_true]
end Go.Proofs.EV.PL
