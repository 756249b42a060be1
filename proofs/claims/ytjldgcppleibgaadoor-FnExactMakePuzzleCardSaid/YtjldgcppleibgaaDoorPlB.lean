import Derived.Test.YtjldgcppleibgaaDoorPlA
set_option linter.unusedVariables false
set_option linter.unusedSimpArgs false
set_option maxHeartbeats 4000000
/-! Words of a search; solutions. -/
namespace Go.Proofs.EV.PL
open Go Go.Proofs Go.Proofs.EV Sp
theorem ext_dir {d : Int} (h : inR d 0 3 = true) : ByteArray.extract (ByteArray.mk #[110, 101, 115, 119]) d.toNat (IntKind.wrap .i64 (d + 1)).toNat = mkB [dirL d] ∧ 0 ≤ IntKind.wrap .i64 (d + 1) ∧ IntKind.wrap .i64 (d + 1) ≤ 4 ∧ 0 ≤ d ∧ d ≤ ((IntKind.wrap .i64 (d + 1)).toNat : Int) := by
  obtain ⟨h0, h3⟩ := inR_out h
  rw [wrap_in (by omega) (by omega)]
  refine ⟨?_, by omega, by omega, h0, by omega⟩
  obtain ⟨D, rfl⟩ := Int.eq_ofNat_of_zero_le h0
  have hD : D < 4 := by omega
  match D, hD with
  | 0, _ => rfl
  | 1, _ => rfl
  | 2, _ => rfl
  | 3, _ => rfl
  | D + 4, h => omega
theorem okN_out {N : List Nd} (h : okN N = true) : lnkB ((N.map Nd.core).map Cr.bef) = true ∧ (∀ h0 : 0 < N.length, N[0].bef < 0) ∧ (∀ (i : Nat) (hi : i < N.length), inR N[i].dir 0 3 = true) := by
  unfold okN at h
  rw [Bool.and_eq_true, Bool.and_eq_true, decide_eq_true_eq] at h
  obtain ⟨h1, h2, h3⟩ := h
  refine ⟨h1, fun h0 => ?_, fun i hi => List.all_eq_true.1 h3 _ (List.getElem_mem hi)⟩
  rw [List.map_map, List.getD_eq_getElem?_getD, List.getElem?_map, List.getElem?_eq_getElem h0] at h2
  exact h2
/-! spec_wyWord -/
theorem nd_bef {N : List Nd} {k : Nat} (hk : k < N.length) : ((N.map Nd.core).map Cr.bef).getD k 0 = N[k].bef := by
  rw [List.map_map, List.getD_eq_getElem?_getD, List.getElem?_map, List.getElem?_eq_getElem hk]; rfl
theorem nd_rl {N : List Nd} {k : Nat} (hk : k < N.length) (h0 : 0 ≤ N[k].bef) : ((N.map Nd.core).map Cr.rl).getD k 0 = dirL N[k].dir := by
  rw [List.map_map, List.getD_eq_getElem?_getD, List.getElem?_map, List.getElem?_eq_getElem hk]
  show N[k].core.rl = _
  unfold Cr.rl
  have : ¬ N[k].core.bef < 0 := by show ¬ N[k].bef < 0; omega
  rw [decide_eq_false this]; rfl
/-! spec_wyFirst -/
def outF (N : List Nd) : Option Nat → List Q
  | some k => [.one (.str (wdN N (k : Int))), .one (.bool true)]
  | none => [.one (.str ⟨#[]⟩), .one (.bool false)]
theorem outF_eq (N : List Nd) (o : Option Nat) : outF N o = [.one (.str (mkO (o.map fun (k : Nat) => wordF ((N.map Nd.core).map Cr.bef) ((N.map Nd.core).map Cr.rl) (k : Int)))), .one (.bool (isSO (o.map fun (k : Nat) => wordF ((N.map Nd.core).map Cr.bef) ((N.map Nd.core).map Cr.rl) (k : Int))))] := by
  cases o <;> rfl
/-! spec_puStates -/
def outP (N : List Nd) (o : Option Nat) : List Q := [.one (.sl 16 (ndC.encs (bif isN o then N else []))), .one (.int .i64 (farK (N.map Nd.core) o)), .one (.bool (isN o && decide (farK (N.map Nd.core) o ≤ 60)))]
/-! spec_SolutionOf -/
theorem puB_out {q : ByteArray} {s : Sta} {px py pt : Int} (h : puB q s px py pt = true) : pzOk q s px py pt = true ∧ puL q s px py pt = wyN (isFl (rws q)) s := by
  unfold puB at h
  unfold puL
  rw [Bool.and_eq_true] at h
  refine ⟨?_, by rw [h.1]; rfl⟩
  have h1 := h.1
  unfold puK at h1
  cases hz : pzOk q s px py pt with
  | false => rw [hz] at h1; cases h1
  | true => rfl
theorem solF_none {q : ByteArray} {s : Sta} {px py pt : Int} (h : puB q s px py pt = false) : solF q s px py pt = none := by
  have := solF_puB q s px py pt
  rw [h] at this
  cases hs : solF q s px py pt with
  | none => rfl
  | some l => rw [hs] at this; cases this
/-! spec_LengthOf -/
/-! slices_Reverse_Sbyte_byte -/
/-! impl_reach_word -/
def outW (l : List UInt8) : List Q := [.one (.str (mkO (bif decide (l.length ≤ 60) then some l.reverse else none))), .one (.bool (isSO (bif decide (l.length ≤ 60) then some l.reverse else none)))]
/-! impl_WayToTop_1 -/
noncomputable def impl_WayToTop_1.cfg : Cfg := { C0 with keep := fun _ => none, nb := 0, M := tabM [(77, impl_State_isAt.stub)], MM := tabB [] }
noncomputable def impl_WayToTop_1.res (n : Nat) (a0_0 : Int) (a0_1 : Int) (a0_2 : Int) (a0_3 : Int) (a0_4 : Int) (a0_5 : Int) (a0_6 : Int) (a0_7 : Int) (px : Int) (py : Int) (pt : Int) : Option (List Q) :=
  bif decide (a0_0 = px) && decide (a0_1 = py) then some [Q.one (D.bool (a0_2 == pt))] else some [Q.one (D.bool false)]
theorem impl_WayToTop_1.run (n : Nat) (a0_0 : Int) (a0_1 : Int) (a0_2 : Int) (a0_3 : Int) (a0_4 : Int) (a0_5 : Int) (a0_6 : Int) (a0_7 : Int) (px : Int) (py : Int) (pt : Int) :
    run1 impl_WayToTop_1.cfg [RK.one LK.bool] n Tryd.f76 [Q.agg [D.int IntKind.i64 a0_0, D.int IntKind.i64 a0_1, D.int IntKind.i64 a0_2, D.int IntKind.i64 a0_3, D.int IntKind.i64 a0_4, D.int IntKind.i64 a0_5, D.int IntKind.i64 a0_6, D.int IntKind.i64 a0_7], Q.one (D.pt [D.int IntKind.i64 px]), Q.one (D.pt [D.int IntKind.i64 py]), Q.one (D.pt [D.int IntKind.i64 pt])] = impl_WayToTop_1.res n a0_0 a0_1 a0_2 a0_3 a0_4 a0_5 a0_6 a0_7 px py pt := by kernel_rfl
theorem impl_WayToTop_1.ev {n : Nat} {a0_0 : Int} {a0_1 : Int} {a0_2 : Int} {a0_3 : Int} {a0_4 : Int} {a0_5 : Int} {a0_6 : Int} {a0_7 : Int} {px : Int} {py : Int} {pt : Int} {r : List Q} (h : impl_WayToTop_1.res n a0_0 a0_1 a0_2 a0_3 a0_4 a0_5 a0_6 a0_7 px py pt = some r) : Snd Tryd.prog C0 76 [.agg [.int .i64 a0_0, .int .i64 a0_1, .int .i64 a0_2, .int .i64 a0_3, .int .i64 a0_4, .int .i64 a0_5, .int .i64 a0_6, .int .i64 a0_7], .one (.pt [.int .i64 px]), .one (.pt [.int .i64 py]), .one (.pt [.int .i64 pt])] r :=
  snd_ev (C := impl_WayToTop_1.cfg) cfg0 mix rfl rfl rfl rfl rfl (.cons impl_State_isAt.ok .nil) .nil rfl Tryd.func76 (by kernel_rfl) (by kernel_rfl) rfl ((impl_WayToTop_1.run n a0_0 a0_1 a0_2 a0_3 a0_4 a0_5 a0_6 a0_7 px py pt).trans h)

def impl_WayToTop_1.stub : Stub
  | [.agg [.int .i64 x, .int .i64 y, .int .i64 t, .int .i64 n, .int .i64 e, .int .i64 s, .int .i64 w, .int .i64 b], .one (.pt [.int .i64 px]), .one (.pt [.int .i64 py]), .one (.pt [.int .i64 pt])] => .ret [.one (.bool (Sp.doneS px py pt ⟨x, y, ⟨t, n, e, s, w, b⟩⟩))]
  | _ => .fail
theorem impl_WayToTop_1.ok : StubOk Tryd.prog C0 76 impl_WayToTop_1.stub := by
  intro args res h
  unfold impl_WayToTop_1.stub at h
  split at h
  · rename_i x y t n e s w b px py pt
    cases h
    refine impl_WayToTop_1.ev (n := 0) ?_
    unfold impl_WayToTop_1.res doneS
    simp only [ieq]
    cases decide (x = px) <;> cases decide (y = py) <;> rfl
  · cases h
/-! IndexFuncW -/
noncomputable def IndexFuncW.cfg : Cfg := { C0 with keep := fun | 2 => some [0, 1, 7, 8] | _ => none, nb := 0, M := tabM [(76, impl_WayToTop_1.stub)], MM := tabB [] }
noncomputable def IndexFuncW.l2 (n : Nat) (m2 : Nat) (l0 : List (List D)) (i1 : Int) (i2 : Int) (i3 : Int) (i4 : Int) (i5 : Int) : Option (List Q) :=
  loopAt IndexFuncW.cfg [RK.one (LK.int IntKind.i64)] n Tryd.f100 [1, 0, 1, 0] [] m2 (St.mk [V.one false (D.sl (8 : Nat) l0), V.one false (D.fn (76 : Nat) [] [D.pt [D.int IntKind.i64 i1], D.pt [D.int IntKind.i64 i2], D.pt [D.int IntKind.i64 i3]]), V.undef, V.undef, V.undef, V.undef, V.undef, V.one true (D.int IntKind.i64 i4), V.one true (D.int IntKind.i64 i5), V.undef, V.undef, V.undef, V.undef, V.undef, V.undef, V.undef, V.undef, V.undef, V.undef] [])
theorem IndexFuncW.l2_eq (n : Nat) (m2 : Nat) (l0 : List (List D)) (i1 : Int) (i2 : Int) (i3 : Int) (i4 : Int) (i5 : Int) :
    IndexFuncW.l2 n (m2 + 1) l0 i1 i2 i3 i4 i5 = bif decide (i5 < i4) then bif decide ((0 : Int) ≤ i5) then bif decide (i5 < (↑(List.length l0) : Int)) then Option.bind (Option.bind (some (cellD l0 (Int.toNat i5) (0 : Nat))) (D.int? IntKind.i64)) fun (i1_1 : Int) => Option.bind (Option.bind (some (cellD l0 (Int.toNat i5) (1 : Nat))) (D.int? IntKind.i64)) fun (i2_1 : Int) => Option.bind (Option.bind (some (cellD l0 (Int.toNat i5) (2 : Nat))) (D.int? IntKind.i64)) fun (i3_1 : Int) => Option.bind (Option.bind (some (cellD l0 (Int.toNat i5) (3 : Nat))) (D.int? IntKind.i64)) fun (i4_1 : Int) => Option.bind (Option.bind (some (cellD l0 (Int.toNat i5) (4 : Nat))) (D.int? IntKind.i64)) fun (i5_1 : Int) => Option.bind (Option.bind (some (cellD l0 (Int.toNat i5) (5 : Nat))) (D.int? IntKind.i64)) fun (i6 : Int) => Option.bind (Option.bind (some (cellD l0 (Int.toNat i5) (6 : Nat))) (D.int? IntKind.i64)) fun (i7 : Int) => Option.bind (Option.bind (some (cellD l0 (Int.toNat i5) (7 : Nat))) (D.int? IntKind.i64)) fun (i8 : Int) => bif doneS i1 i2 i3 (Sta.mk i1_1 i2_1 (Die.mk i3_1 i4_1 i5_1 i6 i7 i8)) then some [Q.one (D.int IntKind.i64 i5)] else IndexFuncW.l2 n m2 l0 i1 i2 i3 i4 (IntKind.wrap IntKind.i64 (i5 + (1 : Int))) else none else none else some [Q.one (D.int IntKind.i64 (-1 : Int))] := by kernel_rfl
noncomputable def IndexFuncW.res (n : Nat) (a0 : List (List D)) (px : Int) (py : Int) (pt : Int) : Option (List Q) :=
  IndexFuncW.l2 n n a0 px py pt (↑(List.length a0) : Int) (0 : Int)
theorem IndexFuncW.run (n : Nat) (a0 : List (List D)) (px : Int) (py : Int) (pt : Int) :
    run1 IndexFuncW.cfg [RK.one (LK.int IntKind.i64)] n Tryd.f100 [Q.one (D.sl (8 : Nat) a0), Q.one (D.fn (76 : FuncId) [] [D.pt [D.int IntKind.i64 px], D.pt [D.int IntKind.i64 py], D.pt [D.int IntKind.i64 pt]])] = IndexFuncW.res n a0 px py pt := by kernel_rfl
theorem IndexFuncW.ev {n : Nat} {a0 : List (List D)} {px : Int} {py : Int} {pt : Int} {r : List Q} (h : IndexFuncW.res n a0 px py pt = some r) : Snd Tryd.prog C0 100 [.one (.sl 8 a0), .one (.fn 76 [] [.pt [.int .i64 px], .pt [.int .i64 py], .pt [.int .i64 pt]])] r :=
  snd_ev (C := IndexFuncW.cfg) cfg0 mix rfl rfl rfl rfl rfl (.cons impl_WayToTop_1.ok .nil) .nil rfl Tryd.func100 (by kernel_rfl) (by kernel_rfl) rfl ((IndexFuncW.run n a0 px py pt).trans h)

theorem IndexFuncW.l2_run {n : Nat} {px py pt : Int} {L : List Sta} (hL : L.length ≤ LIM) : ∀ (d i m : Nat), i + d = L.length → d < m →
    IndexFuncW.l2 n m (stC.encs L) px py pt ((L.length : Nat) : Int) (i : Int) = some [Q.one (.int .i64 (ixO (firstAt px py pt (L.drop i) i)))] := by
  intro d
  induction d with
  | zero =>
    intro i m hi hm
    obtain ⟨m, rfl⟩ : ∃ m', m = m' + 1 := ⟨m - 1, by omega⟩
    have h1 : ¬ (i : Int) < ((L.length : Nat) : Int) := by omega
    rw [IndexFuncW.l2_eq, List.drop_of_length_le (by omega)]
    simp only [h1, decide_false, cond_false]
    rfl
  | succ d ih =>
    intro i m hi hm
    obtain ⟨m, rfl⟩ : ∃ m', m = m' + 1 := ⟨m - 1, by omega⟩
    have hlt : i < L.length := by omega
    have h1 : (i : Int) < ((L.length : Nat) : Int) := by omega
    obtain ⟨c0, c1, c2, c3, c4, c5, c6, c7⟩ := st_cells hlt
    have step := ih (i + 1) m (by omega) (by omega)
    rw [IndexFuncW.l2_eq, List.drop_eq_getElem_cons hlt, firstAt]
    simp only [h1, Cod.encs_len, Int.natCast_nonneg, Int.toNat_natCast, decide_true, cond_true, c0, c1, c2, c3, c4, c5, c6, c7, Option.bind_some, Die.eta, wrap_succ (show i ≤ LIM by omega), step]
    rw [show (Sta.mk L[i].x L[i].y L[i].d) = L[i] from rfl]
    cases doneS px py pt L[i] <;> rfl
def IndexFuncW.stub : Stub
  | [.one (.sl 8 es), .one (.fn g [] [.pt [.int .i64 px], .pt [.int .i64 py], .pt [.int .i64 pt]])] => .gd (Nat.beq g 76) (.any (stC.decs es) fun l => .ret [.one (.int .i64 (Sp.ixO (Sp.firstU px py pt l 0)))])
  | _ => .fail
theorem IndexFuncW.ok : StubOk Tryd.prog C0 100 IndexFuncW.stub := by
  intro args res h
  unfold IndexFuncW.stub at h
  split at h
  · rename_i es g px py pt
    obtain ⟨h0, h⟩ := gd_out h
    obtain rfl := Nat.eq_of_beq_eq_true h0
    obtain ⟨l, h1, h0⟩ := any_out h
    obtain ⟨rfl, hl⟩ := Cod.decs_inv h1
    cases h0
    refine IndexFuncW.ev (n := l.length + 1) ?_
    unfold IndexFuncW.res
    rw [Cod.encs_len]
    exact IndexFuncW.l2_run (n := l.length + 1) hl l.length 0 (l.length + 1) (by omega) (by omega)
  · cases h
/-! impl_reach_wordTo -/
/-! impl_reachOn -/
noncomputable def impl_reachOn.cfg : Cfg := { C0 with keep := fun _ => none, nb := 0, M := tabM [(73, impl_onBoard.stub), (103, impl_reached.stub)], MM := tabB [] }
noncomputable def impl_reachOn.res (n : Nat) (a0 : ByteArray) (a1_0 : Int) (a1_1 : Int) (a1_2 : Int) (a1_3 : Int) (a1_4 : Int) (a1_5 : Int) (a1_6 : Int) (a1_7 : Int) : Option (List Q) :=
  bif decide (ByteArray.size a0 < (17179869184 : Nat)) then bif !(isBo brd a0 && (Die.good (Die.mk a1_2 a1_3 a1_4 a1_5 a1_6 a1_7) && isFl (rws a0) a1_0 a1_1)) then some [Q.one D.nilp, Q.one (D.bool false)] else Option.bind (Cod.decs strC (Cod.encs strC (gridI brd a0))) fun (l1 : List ByteArray) => bif unif (lb l1) then bif smallR l1 then bif inR a1_0 (0 : Int) ((↑(wOf (lb l1)) : Int) - (1 : Int)) then bif inR a1_1 (0 : Int) ((↑(List.length (lb l1)) : Int) - (1 : Int)) then bif Die.good (Die.mk a1_2 a1_3 a1_4 a1_5 a1_6 a1_7) then some [Q.one (D.pt [D.sl (8 : Nat) (Cod.encs stC (usC (wyC (isFl (lb l1)) (Sta.mk a1_0 a1_1 (Die.mk a1_2 a1_3 a1_4 a1_5 a1_6 a1_7))))), D.sl (1 : Nat) (Cod.encs intC (besC (wyC (isFl (lb l1)) (Sta.mk a1_0 a1_1 (Die.mk a1_2 a1_3 a1_4 a1_5 a1_6 a1_7))))), D.sl (1 : Nat) (Cod.encs u8C (rlsC (wyC (isFl (lb l1)) (Sta.mk a1_0 a1_1 (Die.mk a1_2 a1_3 a1_4 a1_5 a1_6 a1_7))))), D.sl (1 : Nat) (Cod.encs intC (fasC (wyC (isFl (lb l1)) (Sta.mk a1_0 a1_1 (Die.mk a1_2 a1_3 a1_4 a1_5 a1_6 a1_7))))), D.mp (plU (usC (wyC (isFl (lb l1)) (Sta.mk a1_0 a1_1 (Die.mk a1_2 a1_3 a1_4 a1_5 a1_6 a1_7)))))]), Q.one (D.bool true)] else none else none else none else none else none else none
theorem impl_reachOn.run (n : Nat) (a0 : ByteArray) (a1_0 : Int) (a1_1 : Int) (a1_2 : Int) (a1_3 : Int) (a1_4 : Int) (a1_5 : Int) (a1_6 : Int) (a1_7 : Int) :
    run1 impl_reachOn.cfg [RK.one (LK.nl D.nilp), RK.one LK.bool] n Tryd.f81 [Q.one (D.str a0), Q.agg [D.int IntKind.i64 a1_0, D.int IntKind.i64 a1_1, D.int IntKind.i64 a1_2, D.int IntKind.i64 a1_3, D.int IntKind.i64 a1_4, D.int IntKind.i64 a1_5, D.int IntKind.i64 a1_6, D.int IntKind.i64 a1_7]] = impl_reachOn.res n a0 a1_0 a1_1 a1_2 a1_3 a1_4 a1_5 a1_6 a1_7 := by kernel_rfl
theorem impl_reachOn.ev {n : Nat} {a0 : ByteArray} {a1_0 : Int} {a1_1 : Int} {a1_2 : Int} {a1_3 : Int} {a1_4 : Int} {a1_5 : Int} {a1_6 : Int} {a1_7 : Int} {r : List Q} (h : impl_reachOn.res n a0 a1_0 a1_1 a1_2 a1_3 a1_4 a1_5 a1_6 a1_7 = some r) : Snd Tryd.prog C0 81 [.one (.str a0), .agg [.int .i64 a1_0, .int .i64 a1_1, .int .i64 a1_2, .int .i64 a1_3, .int .i64 a1_4, .int .i64 a1_5, .int .i64 a1_6, .int .i64 a1_7]] r :=
  snd_ev (C := impl_reachOn.cfg) cfg0 mix rfl rfl rfl rfl rfl (.cons impl_onBoard.ok (.cons impl_reached.ok .nil)) .nil rfl Tryd.func81 (by kernel_rfl) (by kernel_rfl) rfl ((impl_reachOn.run n a0 a1_0 a1_1 a1_2 a1_3 a1_4 a1_5 a1_6 a1_7).trans h)

def impl_reachOn.stub : Stub
  | [.one (.str q), .agg [.int .i64 x, .int .i64 y, .int .i64 t, .int .i64 n, .int .i64 e, .int .i64 s, .int .i64 w, .int .i64 b]] => .gd (decide (q.size < LIM)) (.ite (Sp.okSt q ⟨x, y, ⟨t, n, e, s, w, b⟩⟩) (.ret [.one (.pt [.sl 8 (stC.encs (Sp.usC (Sp.wyC (Sp.isFl (Sp.rws q)) ⟨x, y, ⟨t, n, e, s, w, b⟩⟩))), .sl 1 (intC.encs (Sp.besC (Sp.wyC (Sp.isFl (Sp.rws q)) ⟨x, y, ⟨t, n, e, s, w, b⟩⟩))), .sl 1 (u8C.encs (Sp.rlsC (Sp.wyC (Sp.isFl (Sp.rws q)) ⟨x, y, ⟨t, n, e, s, w, b⟩⟩))), .sl 1 (intC.encs (Sp.fasC (Sp.wyC (Sp.isFl (Sp.rws q)) ⟨x, y, ⟨t, n, e, s, w, b⟩⟩))), .mp (Sp.plU (Sp.usC (Sp.wyC (Sp.isFl (Sp.rws q)) ⟨x, y, ⟨t, n, e, s, w, b⟩⟩)))]), .one (.bool true)]) (.ret [.one .nilp, .one (.bool false)]))
  | _ => .fail
theorem impl_reachOn.ok : StubOk Tryd.prog C0 81 impl_reachOn.stub := by
  intro args res h
  unfold impl_reachOn.stub at h
  split at h
  · rename_i q x y t n e s w b
    obtain ⟨hs, h0⟩ := gd_out h
    have h0 := ite_out h0
    refine impl_reachOn.ev (n := 0) ?_
    unfold LIM at hs
    unfold impl_reachOn.res
    rw [hs, show (isBo brd q && (Die.good ⟨t, n, e, s, w, b⟩ && isFl (rws q) x y)) = okSt q ⟨x, y, ⟨t, n, e, s, w, b⟩⟩ from rfl]
    cases ho : okSt q ⟨x, y, ⟨t, n, e, s, w, b⟩⟩ with
    | false => rw [ho] at h0; exact h0
    | true =>
      rw [ho] at h0
      obtain ⟨hb, hg, hfl, _, _⟩ := okSt_out ho
      obtain ⟨g1, g2, g3, g4, g5, g6⟩ := Sp.gr_ok hb
      have hfl : isFl (rws q) x y = true := hfl
      obtain ⟨x0, x1, y0, y1⟩ := isFl_out hfl
      have gx : inR x 0 ((wOf (rws q) : Int) - 1) = true := by
        unfold inR
        rw [Bool.and_eq_true, decide_eq_true_eq, decide_eq_true_eq]; omega
      have gy : inR y 0 (((rws q).length : Int) - 1) = true := by
        unfold inR
        rw [Bool.and_eq_true, decide_eq_true_eq, decide_eq_true_eq]; omega
      have hg : Die.good ⟨t, n, e, s, w, b⟩ = true := hg
      simp only [Bool.not_true, cond_false, cond_true, g5, Option.bind_some, g1, g2, small_gr hb, gx, gy, hg]
      exact h0
  · cases h
/-! impl_reachCell -/
/-! impl_WayToTop -/
/-! impl_SolutionOf -/
/-! impl_Puzzle_length -/
/-! impl_LengthOf -/
/-! laws_FnExactLengthOf -/
/-! laws_FnExactSolutionOf -/
end Go.Proofs.EV.PL
set_option linter.unusedVariables false
set_option linter.unusedSimpArgs false
set_option maxHeartbeats 4000000
/-! Texts of puzzles. -/
namespace Go.Proofs.EV.PL
open Go Go.Proofs Go.Proofs.EV Sp
/-! i_strconv_small -/
theorem small_ext {n : Int} (h : inR n 0 9 = true) : ByteArray.extract (ByteArray.mk #[48, 49, 50, 51, 52, 53, 54, 55, 56, 57, 97, 98, 99, 100, 101, 102, 103, 104, 105, 106, 107, 108, 109, 110, 111, 112, 113, 114, 115, 116, 117, 118, 119, 120, 121, 122]) n.toNat (IntKind.wrap .i64 (n + 1)).toNat = mkB [sgn n] := by
  obtain ⟨h0, h9⟩ := inR_out h
  rw [wrap_in (by omega) (by omega)]
  obtain ⟨D, rfl⟩ := Int.eq_ofNat_of_zero_le h0
  have hD : D < 10 := by omega
  match D, hD with
  | 0, _ => rfl
  | 1, _ => rfl
  | 2, _ => rfl
  | 3, _ => rfl
  | 4, _ => rfl
  | 5, _ => rfl
  | 6, _ => rfl
  | 7, _ => rfl
  | 8, _ => rfl
  | 9, _ => rfl
  | D + 10, h => omega
/-! i_strconv_FormatInt -/
/-! i_strconv_Itoa -/
/-! strconv_Itoa -/
/-! impl_State_texts -/
theorem puT_len {q : ByteArray} {s : Sta} {px py pt : Int} (h : pzOk q s px py pt = true) : (jnc 58 [bl q, [sgn s.x], [sgn s.y], [sgn s.d.t, sgn s.d.n, sgn s.d.e, sgn s.d.s, sgn s.d.w, sgn s.d.b], [sgn px], [sgn py], [sgn pt]]).length ≤ 100 := by
  have h1 := isBo_size (okSt_out (puz_ok h).1).1
  rw [← bl_len] at h1
  simp [jnc]
  omega
theorem in69 {x : Int} (h : inR x 0 6 = true) : inR x 0 9 = true := by
  have := inR_out h
  unfold inR
  rw [Bool.and_eq_true, decide_eq_true_eq, decide_eq_true_eq]; omega
/-! impl_PuzzleText -/
/-! spec_puText -/
/-! spec_PuzzleText -/
/-! laws_FnExactPuzzleText -/
end Go.Proofs.EV.PL
set_option linter.unusedVariables false
set_option linter.unusedSimpArgs false
set_option maxHeartbeats 4000000
/-! The hardest goals. -/
namespace Go.Proofs.EV.PL
open Go Go.Proofs Go.Proofs.EV Sp
/-! cmp_isNaN_int -/
noncomputable def cmp_isNaN_int.cfg : Cfg := { C0 with keep := fun _ => none, nb := 0, M := tabM [], MM := tabB [] }
noncomputable def cmp_isNaN_int.res (n : Nat) (a0 : Int) : Option (List Q) :=
  some [Q.one (D.bool (a0 != a0))]
theorem cmp_isNaN_int.run (n : Nat) (a0 : Int) :
    run1 cmp_isNaN_int.cfg [RK.one LK.bool] n Tryd.f118 [Q.one (D.int IntKind.i64 a0)] = cmp_isNaN_int.res n a0 := by kernel_rfl
theorem cmp_isNaN_int.ev {n : Nat} {a0 : Int} {r : List Q} (h : cmp_isNaN_int.res n a0 = some r) : Snd Tryd.prog C0 118 [.one (.int .i64 a0)] r :=
  snd_ev (C := cmp_isNaN_int.cfg) cfg0 mix rfl rfl rfl rfl rfl .nil .nil rfl Tryd.func118 (by kernel_rfl) (by kernel_rfl) rfl ((cmp_isNaN_int.run n a0).trans h)

def cmp_isNaN_int.stub : Stub
  | [.one (.int .i64 _)] => .ret [.one (.bool false)]
  | _ => .fail
theorem cmp_isNaN_int.ok : StubOk Tryd.prog C0 118 cmp_isNaN_int.stub := by
  intro args res h
  unfold cmp_isNaN_int.stub at h
  split at h
  · cases h
    refine cmp_isNaN_int.ev (n := 0) ?_
    simp [cmp_isNaN_int.res]
  · cases h
/-! cmp_Compare_int -/
noncomputable def cmp_Compare_int.cfg : Cfg := { C0 with keep := fun _ => none, nb := 0, M := tabM [(118, cmp_isNaN_int.stub)], MM := tabB [] }
noncomputable def cmp_Compare_int.res (n : Nat) (a0 : Int) (a1 : Int) : Option (List Q) :=
  bif decide (a0 < a1) then some [Q.one (D.int IntKind.i64 (-1 : Int))] else bif decide (a0 > a1) then some [Q.one (D.int IntKind.i64 (1 : Int))] else some [Q.one (D.int IntKind.i64 (0 : Int))]
theorem cmp_Compare_int.run (n : Nat) (a0 : Int) (a1 : Int) :
    run1 cmp_Compare_int.cfg [RK.one (LK.int IntKind.i64)] n Tryd.f104 [Q.one (D.int IntKind.i64 a0), Q.one (D.int IntKind.i64 a1)] = cmp_Compare_int.res n a0 a1 := by kernel_rfl
theorem cmp_Compare_int.ev {n : Nat} {a0 : Int} {a1 : Int} {r : List Q} (h : cmp_Compare_int.res n a0 a1 = some r) : Snd Tryd.prog C0 104 [.one (.int .i64 a0), .one (.int .i64 a1)] r :=
  snd_ev (C := cmp_Compare_int.cfg) cfg0 mix rfl rfl rfl rfl rfl (.cons cmp_isNaN_int.ok .nil) .nil rfl Tryd.func104 (by kernel_rfl) (by kernel_rfl) rfl ((cmp_Compare_int.run n a0 a1).trans h)

def cmp_Compare_int.stub : Stub
  | [.one (.int .i64 a), .one (.int .i64 b)] => .ret [.one (.int .i64 (Sp.cmpI a b))]
  | _ => .fail
theorem cmp_Compare_int.ok : StubOk Tryd.prog C0 104 cmp_Compare_int.stub := by
  intro args res h
  unfold cmp_Compare_int.stub at h
  split at h
  · rename_i a b
    cases h
    refine cmp_Compare_int.ev (n := 0) ?_
    unfold cmp_Compare_int.res Sp.cmpI
    cases decide (a < b) <;> cases decide (a > b) <;> rfl
  · cases h
/-! slices_Compare_Sint_int -/
noncomputable def slices_Compare_Sint_int.cfg : Cfg := { C0 with keep := fun | 2 => some [0, 1, 9, 10, 11] | _ => none, nb := 0, M := tabM [(104, cmp_Compare_int.stub)], MM := tabB [] }
noncomputable def slices_Compare_Sint_int.l2 (n : Nat) (m2 : Nat) (l0 : List (List D)) (l1 : List (List D)) (l2 : List (List D)) (i3 : Int) (i4 : Int) : Option (List Q) :=
  loopAt slices_Compare_Sint_int.cfg [RK.one (LK.int IntKind.i64)] n Tryd.f82 [1, 0, 1, 0] [] m2 (St.mk [V.one false (D.sl (1 : Nat) l0), V.one false (D.sl (1 : Nat) l1), V.undef, V.undef, V.undef, V.undef, V.undef, V.undef, V.undef, V.one false (D.sl (1 : Nat) l2), V.one true (D.int IntKind.i64 i3), V.one true (D.int IntKind.i64 i4), V.undef, V.undef, V.undef, V.undef, V.undef, V.undef, V.undef, V.undef, V.undef, V.undef, V.undef, V.undef, V.undef, V.undef, V.undef, V.undef, V.undef, V.undef, V.undef, V.undef, V.undef, V.undef, V.undef, V.undef] [])
theorem slices_Compare_Sint_int.l2_eq (n : Nat) (m2 : Nat) (l0 : List (List D)) (l1 : List (List D)) (l2 : List (List D)) (i3 : Int) (i4 : Int) :
    slices_Compare_Sint_int.l2 n (m2 + 1) l0 l1 l2 i3 i4 = bif decide (i4 < i3) then bif decide ((0 : Int) ≤ i4) then bif decide (i4 < (↑(List.length l2) : Int)) then Option.bind (Option.bind (some (cellD l2 (Int.toNat i4) (0 : Nat))) (D.int? IntKind.i64)) fun (i1 : Int) => bif decide (i4 ≥ (↑(List.length l1) : Int)) then some [Q.one (D.int IntKind.i64 (1 : Int))] else bif decide ((0 : Int) ≤ i4) then bif decide (i4 < (↑(List.length l1) : Int)) then Option.bind (Option.bind (some (cellD l1 (Int.toNat i4) (0 : Nat))) (D.int? IntKind.i64)) fun (i2 : Int) => bif cmpI i1 i2 != (0 : Int) then some [Q.one (D.int IntKind.i64 (cmpI i1 i2))] else slices_Compare_Sint_int.l2 n m2 l0 l1 l2 i3 (IntKind.wrap IntKind.i64 (i4 + (1 : Int))) else none else none else none else none else bif decide ((↑(List.length l0) : Int) < (↑(List.length l1) : Int)) then some [Q.one (D.int IntKind.i64 (-1 : Int))] else some [Q.one (D.int IntKind.i64 (0 : Int))] := by kernel_rfl
noncomputable def slices_Compare_Sint_int.res (n : Nat) (a0 : List (List D)) (a1 : List (List D)) : Option (List Q) :=
  slices_Compare_Sint_int.l2 n n a0 a1 a0 (↑(List.length a0) : Int) (0 : Int)
theorem slices_Compare_Sint_int.run (n : Nat) (a0 : List (List D)) (a1 : List (List D)) :
    run1 slices_Compare_Sint_int.cfg [RK.one (LK.int IntKind.i64)] n Tryd.f82 [Q.one (D.sl (1 : Nat) a0), Q.one (D.sl (1 : Nat) a1)] = slices_Compare_Sint_int.res n a0 a1 := by kernel_rfl
theorem slices_Compare_Sint_int.ev {n : Nat} {a0 : List (List D)} {a1 : List (List D)} {r : List Q} (h : slices_Compare_Sint_int.res n a0 a1 = some r) : Snd Tryd.prog C0 82 [.one (.sl 1 a0), .one (.sl 1 a1)] r :=
  snd_ev (C := slices_Compare_Sint_int.cfg) cfg0 mix rfl rfl rfl rfl rfl (.cons cmp_Compare_int.ok .nil) .nil rfl Tryd.func82 (by kernel_rfl) (by kernel_rfl) rfl ((slices_Compare_Sint_int.run n a0 a1).trans h)

theorem slices_Compare_Sint_int.loop {n : Nat} {a b : List Int} (hl : a.length ≤ LIM) (he : a.length = b.length) : ∀ (d k m : Nat), k + d = a.length → d < m → slices_Compare_Sint_int.l2 n m (intC.encs a) (intC.encs b) (intC.encs a) a.length k = some [Q.one (.int .i64 (cmpL (a.drop k) (b.drop k)))] := by
  intro d
  induction d with
  | zero =>
    intro k m hk hm
    obtain ⟨m, rfl⟩ : ∃ m', m = m' + 1 := ⟨m - 1, by omega⟩
    obtain rfl : k = a.length := by omega
    rw [List.drop_of_length_le (Nat.le_refl _), List.drop_of_length_le (l := b) (by omega)]
    simp [slices_Compare_Sint_int.l2_eq, he, cmpL]
  | succ d ih =>
    intro k m hk hm
    obtain ⟨m, rfl⟩ : ∃ m', m = m' + 1 := ⟨m - 1, by omega⟩
    have hlt : k < a.length := by omega
    have hlt' : k < b.length := by omega
    have hge : ¬ (k : Int) ≥ b.length := by omega
    rw [slices_Compare_Sint_int.l2_eq, List.drop_eq_getElem_cons hlt, List.drop_eq_getElem_cons hlt', cmpL]
    simp only [Cod.encs_len, Int.ofNat_lt, hlt, hlt', hge, decide_true, decide_false, cond_true, cond_false, Int.natCast_nonneg, Int.toNat_natCast, intC_int' hlt, intC_int' hlt', Option.bind_some, wrap_succ (show k ≤ LIM by omega), ih (k + 1) m (by omega) (by omega), ine]
    by_cases h : cmpI a[k] b[k] = 0 <;> simp only [h, decide_true, decide_false, Bool.not_true, Bool.not_false, cond_true, cond_false]
theorem cmpL_3 (a b c a' b' c' : Int) : cmpL [a, b, c] [a', b', c'] = cmp3 a b c a' b' c' := by
  unfold cmp3
  simp only [cmpL, cmpI]
  by_cases h1 : a = a'
  · subst h1
    by_cases h2 : b = b'
    · subst h2
      by_cases h3 : c = c'
      · subst h3
        simp
      · by_cases h4 : c < c'
        · simp [h4]
        · have h5 : c' < c := by omega
          simp [h3, h4, h5]
    · by_cases h4 : b < b'
      · simp [h2, h4]
      · have h5 : b' < b := by omega
        simp [h2, h4, h5]
  · by_cases h4 : a < a'
    · simp [h1, h4]
    · have h5 : a' < a := by omega
      simp [h1, h4, h5]
def slices_Compare_Sint_int.stub : Stub
  | [.one (.sl 1 [[.int .i64 a], [.int .i64 b], [.int .i64 c]]), .one (.sl 1 [[.int .i64 a'], [.int .i64 b'], [.int .i64 c']])] => .ret [.one (.int .i64 (Sp.cmp3 a b c a' b' c'))]
  | _ => .fail
theorem slices_Compare_Sint_int.ok : StubOk Tryd.prog C0 82 slices_Compare_Sint_int.stub := by
  intro args res h
  unfold slices_Compare_Sint_int.stub at h
  split at h
  · rename_i a b c a' b' c'
    cases h
    refine slices_Compare_Sint_int.ev (n := 10) ?_
    unfold slices_Compare_Sint_int.res
    have key := slices_Compare_Sint_int.loop (n := 10) (a := [a, b, c]) (b := [a', b', c']) (by simp [LIM]) rfl 3 0 10 rfl (by omega)
    rw [List.drop_zero, List.drop_zero, cmpL_3] at key
    exact key
  · cases h
/-! spec_l1Same -/
noncomputable def spec_l1Same.cfg : Cfg := { C0 with keep := fun | 4 => some [0, 1, 12, 13] | _ => none, nb := 0, M := tabM [], MM := tabB [] }
noncomputable def spec_l1Same.l4 (n : Nat) (m4 : Nat) (l0 : List (List D)) (l1 : List (List D)) (i2 : Int) (i3 : Int) : Option (List Q) :=
  loopAt spec_l1Same.cfg [RK.one LK.bool] n Tryd.f79 [1, 1, 0, 1, 0] [] m4 (St.mk [V.one false (D.sl (1 : Nat) l0), V.one false (D.sl (1 : Nat) l1), V.undef, V.undef, V.undef, V.undef, V.undef, V.undef, V.undef, V.undef, V.undef, V.undef, V.one true (D.int IntKind.i64 i2), V.one true (D.int IntKind.i64 i3), V.undef, V.undef, V.undef, V.undef, V.undef, V.undef, V.undef, V.undef, V.undef, V.undef, V.undef, V.undef] [])
theorem spec_l1Same.l4_eq (n : Nat) (m4 : Nat) (l0 : List (List D)) (l1 : List (List D)) (i2 : Int) (i3 : Int) :
    spec_l1Same.l4 n (m4 + 1) l0 l1 i2 i3 = bif decide (i3 < i2) then bif decide ((0 : Int) ≤ i3) then bif decide (i3 < (↑(List.length l0) : Int)) then Option.bind (Option.bind (some (cellD l0 (Int.toNat i3) (0 : Nat))) (D.int? IntKind.i64)) fun (i1 : Int) => bif decide ((0 : Int) ≤ i3) then bif decide (i3 < (↑(List.length l1) : Int)) then Option.bind (Option.bind (some (cellD l1 (Int.toNat i3) (0 : Nat))) (D.int? IntKind.i64)) fun (i2_1 : Int) => bif i1 != i2_1 then some [Q.one (D.bool false)] else spec_l1Same.l4 n m4 l0 l1 i2 (IntKind.wrap IntKind.i64 (i3 + (1 : Int))) else none else none else none else none else some [Q.one (D.bool true)] := by kernel_rfl
noncomputable def spec_l1Same.res (n : Nat) (a0 : List (List D)) (a1 : List (List D)) : Option (List Q) :=
  bif (↑(List.length a0) : Int) != (↑(List.length a1) : Int) then some [Q.one (D.bool false)] else spec_l1Same.l4 n n a0 a1 (↑(List.length a0) : Int) (0 : Int)
theorem spec_l1Same.run (n : Nat) (a0 : List (List D)) (a1 : List (List D)) :
    run1 spec_l1Same.cfg [RK.one LK.bool] n Tryd.f79 [Q.one (D.sl (1 : Nat) a0), Q.one (D.sl (1 : Nat) a1)] = spec_l1Same.res n a0 a1 := by kernel_rfl
theorem spec_l1Same.ev {n : Nat} {a0 : List (List D)} {a1 : List (List D)} {r : List Q} (h : spec_l1Same.res n a0 a1 = some r) : Snd Tryd.prog C0 79 [.one (.sl 1 a0), .one (.sl 1 a1)] r :=
  snd_ev (C := spec_l1Same.cfg) cfg0 mix rfl rfl rfl rfl rfl .nil .nil rfl Tryd.func79 (by kernel_rfl) (by kernel_rfl) rfl ((spec_l1Same.run n a0 a1).trans h)

theorem spec_l1Same.l4_run {n : Nat} {a b : List Int} (hl : a.length ≤ LIM) (he : a.length = b.length) : ∀ (d k m : Nat), k + d = a.length → d < m → spec_l1Same.l4 n m (intC.encs a) (intC.encs b) a.length k = some [Q.one (.bool (eqIL (a.drop k) (b.drop k)))] := by
  intro d
  induction d with
  | zero =>
    intro k m hk hm
    obtain ⟨m, rfl⟩ : ∃ m', m = m' + 1 := ⟨m - 1, by omega⟩
    obtain rfl : k = a.length := by omega
    rw [List.drop_of_length_le (Nat.le_refl _), List.drop_of_length_le (l := b) (by omega)]
    simp [spec_l1Same.l4_eq, eqIL]
  | succ d ih =>
    intro k m hk hm
    obtain ⟨m, rfl⟩ : ∃ m', m = m' + 1 := ⟨m - 1, by omega⟩
    have hlt : k < a.length := by omega
    have hlt' : k < b.length := by omega
    have step := ih (k + 1) m (by omega) (by omega)
    rw [spec_l1Same.l4_eq, List.drop_eq_getElem_cons hlt, List.drop_eq_getElem_cons hlt']
    simp only [Cod.encs_len, Int.ofNat_lt, hlt, hlt', decide_true, cond_true, Int.natCast_nonneg, Int.toNat_natCast, intC_int' hlt, intC_int' hlt', Option.bind_some, wrap_succ (show k ≤ LIM by omega), step, ine]
    unfold eqIL
    by_cases h : a[k] = b[k]
    · simp only [List.cons.injEq, h, true_and, decide_true, Bool.not_true, cond_false]
    · simp only [List.cons.injEq, h, false_and, decide_false, Bool.not_false, cond_true]
def spec_l1Same.stub : Stub
  | [.one (.sl 1 a), .one (.sl 1 b)] => .any (intC.decs a) fun A => .any (intC.decs b) fun B => .gd (decide (A.length = B.length)) (.ret [.one (.bool (Sp.eqIL A B))])
  | _ => .fail
theorem spec_l1Same.ok : StubOk Tryd.prog C0 79 spec_l1Same.stub := by
  intro args res h
  unfold spec_l1Same.stub at h
  split at h
  · rename_i a b
    obtain ⟨A, h1, h0⟩ := any_out h
    obtain ⟨B, h2, h0⟩ := any_out h0
    obtain ⟨h3, h0⟩ := gd_out h0
    cases h0
    obtain ⟨rfl, hl⟩ := Cod.decs_inv h1
    obtain ⟨rfl, hl2⟩ := Cod.decs_inv h2
    have h3 := of_decide_eq_true h3
    refine spec_l1Same.ev (n := A.length + 1) ?_
    unfold spec_l1Same.res
    have key := spec_l1Same.l4_run (n := A.length + 1) hl h3 A.length 0 (A.length + 1) (by omega) (by omega)
    simp only [Cod.encs_len, h3, bne_self_eq_false, cond_false]
    rw [h3] at key
    exact key
  · cases h
/-! spec_puBefore -/
noncomputable def spec_puBefore.cfg : Cfg := { C0 with keep := fun _ => none, nb := 0, M := tabM [], MM := tabB [] }
noncomputable def spec_puBefore.res (n : Nat) (a0_0 : ByteArray) (a0_1 : Int) (a0_2 : Int) (a0_3 : Int) (a0_4 : Int) (a0_5 : Int) (a0_6 : Int) (a0_7 : Int) (a0_8 : Int) (a0_9 : Int) (a0_10 : Int) (a0_11 : Int) (a1_0 : ByteArray) (a1_1 : Int) (a1_2 : Int) (a1_3 : Int) (a1_4 : Int) (a1_5 : Int) (a1_6 : Int) (a1_7 : Int) (a1_8 : Int) (a1_9 : Int) (a1_10 : Int) (a1_11 : Int) : Option (List Q) :=
  bif a0_10 != a1_10 then some [Q.one (D.bool (decide (a0_10 < a1_10)))] else bif a0_9 != a1_9 then some [Q.one (D.bool (decide (a0_9 < a1_9)))] else some [Q.one (D.bool (decide (a0_11 < a1_11)))]
theorem spec_puBefore.run (n : Nat) (a0_0 : ByteArray) (a0_1 : Int) (a0_2 : Int) (a0_3 : Int) (a0_4 : Int) (a0_5 : Int) (a0_6 : Int) (a0_7 : Int) (a0_8 : Int) (a0_9 : Int) (a0_10 : Int) (a0_11 : Int) (a1_0 : ByteArray) (a1_1 : Int) (a1_2 : Int) (a1_3 : Int) (a1_4 : Int) (a1_5 : Int) (a1_6 : Int) (a1_7 : Int) (a1_8 : Int) (a1_9 : Int) (a1_10 : Int) (a1_11 : Int) :
    run1 spec_puBefore.cfg [RK.one LK.bool] n Tryd.f80 [Q.agg [D.str a0_0, D.int IntKind.i64 a0_1, D.int IntKind.i64 a0_2, D.int IntKind.i64 a0_3, D.int IntKind.i64 a0_4, D.int IntKind.i64 a0_5, D.int IntKind.i64 a0_6, D.int IntKind.i64 a0_7, D.int IntKind.i64 a0_8, D.int IntKind.i64 a0_9, D.int IntKind.i64 a0_10, D.int IntKind.i64 a0_11], Q.agg [D.str a1_0, D.int IntKind.i64 a1_1, D.int IntKind.i64 a1_2, D.int IntKind.i64 a1_3, D.int IntKind.i64 a1_4, D.int IntKind.i64 a1_5, D.int IntKind.i64 a1_6, D.int IntKind.i64 a1_7, D.int IntKind.i64 a1_8, D.int IntKind.i64 a1_9, D.int IntKind.i64 a1_10, D.int IntKind.i64 a1_11]] = spec_puBefore.res n a0_0 a0_1 a0_2 a0_3 a0_4 a0_5 a0_6 a0_7 a0_8 a0_9 a0_10 a0_11 a1_0 a1_1 a1_2 a1_3 a1_4 a1_5 a1_6 a1_7 a1_8 a1_9 a1_10 a1_11 := by kernel_rfl
theorem spec_puBefore.ev {n : Nat} {a0_0 : ByteArray} {a0_1 : Int} {a0_2 : Int} {a0_3 : Int} {a0_4 : Int} {a0_5 : Int} {a0_6 : Int} {a0_7 : Int} {a0_8 : Int} {a0_9 : Int} {a0_10 : Int} {a0_11 : Int} {a1_0 : ByteArray} {a1_1 : Int} {a1_2 : Int} {a1_3 : Int} {a1_4 : Int} {a1_5 : Int} {a1_6 : Int} {a1_7 : Int} {a1_8 : Int} {a1_9 : Int} {a1_10 : Int} {a1_11 : Int} {r : List Q} (h : spec_puBefore.res n a0_0 a0_1 a0_2 a0_3 a0_4 a0_5 a0_6 a0_7 a0_8 a0_9 a0_10 a0_11 a1_0 a1_1 a1_2 a1_3 a1_4 a1_5 a1_6 a1_7 a1_8 a1_9 a1_10 a1_11 = some r) : Snd Tryd.prog C0 80 [.agg [.str a0_0, .int .i64 a0_1, .int .i64 a0_2, .int .i64 a0_3, .int .i64 a0_4, .int .i64 a0_5, .int .i64 a0_6, .int .i64 a0_7, .int .i64 a0_8, .int .i64 a0_9, .int .i64 a0_10, .int .i64 a0_11], .agg [.str a1_0, .int .i64 a1_1, .int .i64 a1_2, .int .i64 a1_3, .int .i64 a1_4, .int .i64 a1_5, .int .i64 a1_6, .int .i64 a1_7, .int .i64 a1_8, .int .i64 a1_9, .int .i64 a1_10, .int .i64 a1_11]] r :=
  snd_ev (C := spec_puBefore.cfg) cfg0 mix rfl rfl rfl rfl rfl .nil .nil rfl Tryd.func80 (by kernel_rfl) (by kernel_rfl) rfl ((spec_puBefore.run n a0_0 a0_1 a0_2 a0_3 a0_4 a0_5 a0_6 a0_7 a0_8 a0_9 a0_10 a0_11 a1_0 a1_1 a1_2 a1_3 a1_4 a1_5 a1_6 a1_7 a1_8 a1_9 a1_10 a1_11).trans h)

def spec_puBefore.stub : Stub
  | [.agg [.str _, .int .i64 _, .int .i64 _, .int .i64 _, .int .i64 _, .int .i64 _, .int .i64 _, .int .i64 _, .int .i64 _, .int .i64 px, .int .i64 py, .int .i64 pt], .agg [.str _, .int .i64 _, .int .i64 _, .int .i64 _, .int .i64 _, .int .i64 _, .int .i64 _, .int .i64 _, .int .i64 _, .int .i64 px', .int .i64 py', .int .i64 pt']] => .ret [.one (.bool (Sp.ltG py px pt py' px' pt'))]
  | _ => .fail
theorem spec_puBefore.ok : StubOk Tryd.prog C0 80 spec_puBefore.stub := by
  intro args res h
  unfold spec_puBefore.stub at h
  split at h
  · cases h
    refine spec_puBefore.ev (n := 0) ?_
    unfold spec_puBefore.res ltG
    simp only [ine]
    rename_i px py pt _ _ _ _ _ _ _ _ _ px' py' pt'
    cases decide (py = py') <;> cases decide (px = px') <;> rfl
  · cases h
/-! spec_puHardest -/
noncomputable def spec_puHardest.cfg : Cfg := { C0 with keep := fun | 5 => some [0, 3, 4, 8, 9, 10, 26, 27, 28] | 10 => some [0, 3, 4, 8, 9, 10, 12, 13, 14, 26, 27, 28, 43, 44, 45] | _ => none, nb := 0, M := tabM [(47, spec_boRead.stub), (71, spec_wyAll.stub), (79, spec_l1Same.stub), (80, spec_puBefore.stub)], MM := tabB [] }
noncomputable def spec_puHardest.l5 (n : Nat) (m5 : Nat) (s0 : ByteArray) (i1 : Int) (i2 : Int) (i3 : Int) (i4 : Int) (i5 : Int) (i6 : Int) (i7 : Int) (i8 : Int) (i9 : Int) (i10 : Int) (i11 : Int) (s12 : ByteArray) (i13 : Int) (i14 : Int) (i15 : Int) (i16 : Int) (i17 : Int) (i18 : Int) (i19 : Int) (i20 : Int) (i21 : Int) (i22 : Int) (i23 : Int) (s24 : ByteArray) (i25 : Int) (i26 : Int) (i27 : Int) (i28 : Int) (i29 : Int) (i30 : Int) (i31 : Int) (i32 : Int) (i33 : Int) (i34 : Int) (i35 : Int) (l36 : List (List D)) (l37 : List (List D)) : Option (List Q) :=
  loopAt spec_puHardest.cfg [RK.agg [LK.str, LK.int IntKind.i64, LK.int IntKind.i64, LK.int IntKind.i64, LK.int IntKind.i64, LK.int IntKind.i64, LK.int IntKind.i64, LK.int IntKind.i64, LK.int IntKind.i64, LK.int IntKind.i64, LK.int IntKind.i64, LK.int IntKind.i64], RK.one (LK.int IntKind.i64)] n Tryd.f43 [1, 1, 1, 1, 0, 1, 0] [] m5 (St.mk [V.one true (D.str s0), V.undef, V.undef, V.rp (0 : Nat) (0 : Nat), V.rp (1 : Nat) (0 : Nat), V.undef, V.undef, V.undef, V.rp (2 : Nat) (0 : Nat), V.one true (D.int IntKind.i64 i1), V.rw (3 : Nat), V.undef, V.undef, V.undef, V.undef, V.undef, V.undef, V.undef, V.undef, V.undef, V.undef, V.undef, V.undef, V.undef, V.undef, V.undef, V.rw (4 : Nat), V.one true (D.int IntKind.i64 i2), V.one true (D.int IntKind.i64 i3), V.undef, V.undef, V.undef, V.undef, V.undef, V.undef, V.undef, V.undef, V.undef, V.undef, V.undef, V.undef, V.undef, V.undef, V.undef, V.undef, V.undef, V.undef, V.undef, V.undef, V.undef, V.undef, V.undef, V.undef, V.undef, V.undef, V.undef, V.undef, V.undef, V.undef, V.undef, V.undef, V.undef, V.undef, V.undef, V.undef, V.undef, V.undef, V.undef, V.undef, V.undef, V.undef, V.undef, V.undef, V.undef, V.undef, V.undef, V.undef, V.undef, V.undef, V.undef, V.undef, V.undef, V.undef, V.undef, V.undef, V.undef, V.undef, V.undef, V.undef, V.undef, V.undef, V.undef, V.undef, V.undef, V.undef] [Ob.box [V.one true (D.int IntKind.i64 i4), V.one true (D.int IntKind.i64 i5), V.one true (D.int IntKind.i64 i6), V.one true (D.int IntKind.i64 i7), V.one true (D.int IntKind.i64 i8), V.one true (D.int IntKind.i64 i9), V.one true (D.int IntKind.i64 i10), V.one true (D.int IntKind.i64 i11)], Ob.box [V.one true (D.str s12), V.one true (D.int IntKind.i64 i13), V.one true (D.int IntKind.i64 i14), V.one true (D.int IntKind.i64 i15), V.one true (D.int IntKind.i64 i16), V.one true (D.int IntKind.i64 i17), V.one true (D.int IntKind.i64 i18), V.one true (D.int IntKind.i64 i19), V.one true (D.int IntKind.i64 i20), V.one true (D.int IntKind.i64 i21), V.one true (D.int IntKind.i64 i22), V.one true (D.int IntKind.i64 i23)], Ob.box [V.one true (D.str s24), V.one true (D.int IntKind.i64 i25), V.one true (D.int IntKind.i64 i26), V.one true (D.int IntKind.i64 i27), V.one true (D.int IntKind.i64 i28), V.one true (D.int IntKind.i64 i29), V.one true (D.int IntKind.i64 i30), V.one true (D.int IntKind.i64 i31), V.one true (D.int IntKind.i64 i32), V.one true (D.int IntKind.i64 i33), V.one true (D.int IntKind.i64 i34), V.one true (D.int IntKind.i64 i35)], Ob.row false (1 : Nat) l36, Ob.row false (16 : Nat) l37])
noncomputable def spec_puHardest.l10 (n : Nat) (m5 : Nat) (m10 : Nat) (s0 : ByteArray) (i1 : Int) (b2 : Bool) (i3 : Int) (i4 : Int) (i5 : Int) (i6 : Int) (i7 : Int) (i8 : Int) (i9 : Int) (i10 : Int) (i11 : Int) (i12 : Int) (i13 : Int) (i14 : Int) (s15 : ByteArray) (i16 : Int) (i17 : Int) (i18 : Int) (i19 : Int) (i20 : Int) (i21 : Int) (i22 : Int) (i23 : Int) (i24 : Int) (i25 : Int) (i26 : Int) (s27 : ByteArray) (i28 : Int) (i29 : Int) (i30 : Int) (i31 : Int) (i32 : Int) (i33 : Int) (i34 : Int) (i35 : Int) (i36 : Int) (i37 : Int) (i38 : Int) (l39 : List (List D)) (i40 : Int) (i41 : Int) (i42 : Int) (i43 : Int) (i44 : Int) (i45 : Int) (i46 : Int) (i47 : Int) (i48 : Int) (i49 : Int) (i50 : Int) (i51 : Int) (i52 : Int) (i53 : Int) (i54 : Int) (i55 : Int) (l56 : List (List D)) (l57 : List (List D)) : Option (List Q) :=
  loopAt spec_puHardest.cfg [RK.agg [LK.str, LK.int IntKind.i64, LK.int IntKind.i64, LK.int IntKind.i64, LK.int IntKind.i64, LK.int IntKind.i64, LK.int IntKind.i64, LK.int IntKind.i64, LK.int IntKind.i64, LK.int IntKind.i64, LK.int IntKind.i64, LK.int IntKind.i64], RK.one (LK.int IntKind.i64)] n Tryd.f43 [1, 1, 1, 1, 0, 1, 0, 0, 1, 1, 0, 0, 1, 1, 1, 0, 1, 0] [m5] m10 (St.mk [V.one true (D.str s0), V.undef, V.undef, V.rp (0 : Nat) (0 : Nat), V.rp (1 : Nat) (0 : Nat), V.undef, V.undef, V.undef, V.rp (2 : Nat) (0 : Nat), V.one true (D.int IntKind.i64 i1), V.rw (3 : Nat), V.undef, V.rp (4 : Nat) (0 : Nat), V.rw (5 : Nat), V.one true (D.bool b2), V.undef, V.undef, V.undef, V.undef, V.undef, V.undef, V.undef, V.undef, V.undef, V.undef, V.undef, V.rw (6 : Nat), V.one true (D.int IntKind.i64 i3), V.one true (D.int IntKind.i64 i4), V.undef, V.undef, V.undef, V.undef, V.undef, V.undef, V.undef, V.undef, V.undef, V.undef, V.undef, V.undef, V.undef, V.undef, V.rw (3 : Nat), V.one true (D.int IntKind.i64 i5), V.one true (D.int IntKind.i64 i6), V.undef, V.undef, V.undef, V.undef, V.undef, V.undef, V.undef, V.undef, V.undef, V.undef, V.undef, V.undef, V.undef, V.undef, V.undef, V.undef, V.undef, V.undef, V.undef, V.undef, V.undef, V.undef, V.undef, V.undef, V.undef, V.undef, V.undef, V.undef, V.undef, V.undef, V.undef, V.undef, V.undef, V.undef, V.undef, V.undef, V.undef, V.undef, V.undef, V.undef, V.undef, V.undef, V.undef, V.undef, V.undef, V.undef, V.undef, V.undef, V.undef] [Ob.box [V.one true (D.int IntKind.i64 i7), V.one true (D.int IntKind.i64 i8), V.one true (D.int IntKind.i64 i9), V.one true (D.int IntKind.i64 i10), V.one true (D.int IntKind.i64 i11), V.one true (D.int IntKind.i64 i12), V.one true (D.int IntKind.i64 i13), V.one true (D.int IntKind.i64 i14)], Ob.box [V.one true (D.str s15), V.one true (D.int IntKind.i64 i16), V.one true (D.int IntKind.i64 i17), V.one true (D.int IntKind.i64 i18), V.one true (D.int IntKind.i64 i19), V.one true (D.int IntKind.i64 i20), V.one true (D.int IntKind.i64 i21), V.one true (D.int IntKind.i64 i22), V.one true (D.int IntKind.i64 i23), V.one true (D.int IntKind.i64 i24), V.one true (D.int IntKind.i64 i25), V.one true (D.int IntKind.i64 i26)], Ob.box [V.one true (D.str s27), V.one true (D.int IntKind.i64 i28), V.one true (D.int IntKind.i64 i29), V.one true (D.int IntKind.i64 i30), V.one true (D.int IntKind.i64 i31), V.one true (D.int IntKind.i64 i32), V.one true (D.int IntKind.i64 i33), V.one true (D.int IntKind.i64 i34), V.one true (D.int IntKind.i64 i35), V.one true (D.int IntKind.i64 i36), V.one true (D.int IntKind.i64 i37), V.one true (D.int IntKind.i64 i38)], Ob.row false (1 : Nat) l39, Ob.box [V.one true (D.int IntKind.i64 i40), V.one true (D.int IntKind.i64 i41), V.one true (D.int IntKind.i64 i42), V.one true (D.int IntKind.i64 i43), V.one true (D.int IntKind.i64 i44), V.one true (D.int IntKind.i64 i45), V.one true (D.int IntKind.i64 i46), V.one true (D.int IntKind.i64 i47), V.one true (D.int IntKind.i64 i48), V.one true (D.int IntKind.i64 i49), V.one true (D.int IntKind.i64 i50), V.one true (D.int IntKind.i64 i51), V.one true (D.int IntKind.i64 i52), V.one true (D.int IntKind.i64 i53), V.one true (D.int IntKind.i64 i54), V.one true (D.int IntKind.i64 i55)], Ob.row false (1 : Nat) l56, Ob.row false (16 : Nat) l57])
theorem spec_puHardest.l5_eq (n : Nat) (m5 : Nat) (s0 : ByteArray) (i1 : Int) (i2 : Int) (i3 : Int) (i4 : Int) (i5 : Int) (i6 : Int) (i7 : Int) (i8 : Int) (i9 : Int) (i10 : Int) (i11 : Int) (s12 : ByteArray) (i13 : Int) (i14 : Int) (i15 : Int) (i16 : Int) (i17 : Int) (i18 : Int) (i19 : Int) (i20 : Int) (i21 : Int) (i22 : Int) (i23 : Int) (s24 : ByteArray) (i25 : Int) (i26 : Int) (i27 : Int) (i28 : Int) (i29 : Int) (i30 : Int) (i31 : Int) (i32 : Int) (i33 : Int) (i34 : Int) (i35 : Int) (l36 : List (List D)) (l37 : List (List D)) :
    spec_puHardest.l5 n (m5 + 1) s0 i1 i2 i3 i4 i5 i6 i7 i8 i9 i10 i11 s12 i13 i14 i15 i16 i17 i18 i19 i20 i21 i22 i23 s24 i25 i26 i27 i28 i29 i30 i31 i32 i33 i34 i35 l36 l37 = bif decide (i3 < i2) then bif decide ((0 : Int) ≤ i3) then bif decide (i3 < (↑(List.length l37) : Int)) then Option.bind (Option.bind (some (cellD l37 (Int.toNat i3) (0 : Nat))) (D.int? IntKind.i64)) fun (i2_1 : Int) => Option.bind (Option.bind (some (cellD l37 (Int.toNat i3) (1 : Nat))) (D.int? IntKind.i64)) fun (i3_1 : Int) => Option.bind (Option.bind (some (cellD l37 (Int.toNat i3) (2 : Nat))) (D.int? IntKind.i64)) fun (i4_1 : Int) => Option.bind (Option.bind (some (cellD l37 (Int.toNat i3) (3 : Nat))) (D.int? IntKind.i64)) fun (i5_1 : Int) => Option.bind (Option.bind (some (cellD l37 (Int.toNat i3) (4 : Nat))) (D.int? IntKind.i64)) fun (i6_1 : Int) => Option.bind (Option.bind (some (cellD l37 (Int.toNat i3) (5 : Nat))) (D.int? IntKind.i64)) fun (i7_1 : Int) => Option.bind (Option.bind (some (cellD l37 (Int.toNat i3) (6 : Nat))) (D.int? IntKind.i64)) fun (i8_1 : Int) => Option.bind (Option.bind (some (cellD l37 (Int.toNat i3) (7 : Nat))) (D.int? IntKind.i64)) fun (i9_1 : Int) => Option.bind (Option.bind (some (cellD l37 (Int.toNat i3) (8 : Nat))) (D.int? IntKind.i64)) fun (i10_1 : Int) => Option.bind (Option.bind (some (cellD l37 (Int.toNat i3) (9 : Nat))) (D.int? IntKind.i64)) fun (i11_1 : Int) => Option.bind (Option.bind (some (cellD l37 (Int.toNat i3) (10 : Nat))) (D.int? IntKind.i64)) fun (i12 : Int) => Option.bind (Option.bind (some (cellD l37 (Int.toNat i3) (11 : Nat))) (D.int? IntKind.i64)) fun (i13_1 : Int) => Option.bind (Option.bind (some (cellD l37 (Int.toNat i3) (12 : Nat))) (D.int? IntKind.i64)) fun (i14_1 : Int) => Option.bind (Option.bind (some (cellD l37 (Int.toNat i3) (13 : Nat))) (D.int? IntKind.i64)) fun (i15_1 : Int) => Option.bind (Option.bind (some (cellD l37 (Int.toNat i3) (14 : Nat))) (D.int? IntKind.i64)) fun (i16_1 : Int) => Option.bind (Option.bind (some (cellD l37 (Int.toNat i3) (15 : Nat))) (D.int? IntKind.i64)) fun (i17_1 : Int) => spec_puHardest.l10 n m5 n s0 i1 false i2 i3 (↑(List.length l36) : Int) (0 : Int) i4 i5 i6 i7 i8 i9 i10 i11 s12 i13 i14 i15 i16 i17 i18 i19 i20 i21 i22 i23 s24 i25 i26 i27 i28 i29 i30 i31 i32 i33 i34 i35 l36 i2_1 i3_1 i4_1 i5_1 i6_1 i7_1 i8_1 i9_1 i10_1 i11_1 i12 i13_1 i14_1 i15_1 i16_1 i17_1 [[D.int IntKind.i64 i3_1], [D.int IntKind.i64 i2_1], [D.int IntKind.i64 i4_1]] l37 else none else none else some [Q.agg [D.str s24, D.int IntKind.i64 i25, D.int IntKind.i64 i26, D.int IntKind.i64 i27, D.int IntKind.i64 i28, D.int IntKind.i64 i29, D.int IntKind.i64 i30, D.int IntKind.i64 i31, D.int IntKind.i64 i32, D.int IntKind.i64 i33, D.int IntKind.i64 i34, D.int IntKind.i64 i35], Q.one (D.int IntKind.i64 i1)] := by kernel_rfl
theorem spec_puHardest.l10_eq (n : Nat) (m5 : Nat) (m10 : Nat) (s0 : ByteArray) (i1 : Int) (b2 : Bool) (i3 : Int) (i4 : Int) (i5 : Int) (i6 : Int) (i7 : Int) (i8 : Int) (i9 : Int) (i10 : Int) (i11 : Int) (i12 : Int) (i13 : Int) (i14 : Int) (s15 : ByteArray) (i16 : Int) (i17 : Int) (i18 : Int) (i19 : Int) (i20 : Int) (i21 : Int) (i22 : Int) (i23 : Int) (i24 : Int) (i25 : Int) (i26 : Int) (s27 : ByteArray) (i28 : Int) (i29 : Int) (i30 : Int) (i31 : Int) (i32 : Int) (i33 : Int) (i34 : Int) (i35 : Int) (i36 : Int) (i37 : Int) (i38 : Int) (l39 : List (List D)) (i40 : Int) (i41 : Int) (i42 : Int) (i43 : Int) (i44 : Int) (i45 : Int) (i46 : Int) (i47 : Int) (i48 : Int) (i49 : Int) (i50 : Int) (i51 : Int) (i52 : Int) (i53 : Int) (i54 : Int) (i55 : Int) (l56 : List (List D)) (l57 : List (List D)) :
    spec_puHardest.l10 n m5 (m10 + 1) s0 i1 b2 i3 i4 i5 i6 i7 i8 i9 i10 i11 i12 i13 i14 s15 i16 i17 i18 i19 i20 i21 i22 i23 i24 i25 i26 s27 i28 i29 i30 i31 i32 i33 i34 i35 i36 i37 i38 l39 i40 i41 i42 i43 i44 i45 i46 i47 i48 i49 i50 i51 i52 i53 i54 i55 l56 l57 = bif decide (i6 < i5) then bif decide ((0 : Int) ≤ i6) then bif decide (i6 < (↑(List.length l39) : Int)) then Option.bind (Option.bind (some (cellD l39 (Int.toNat i6) (0 : Nat))) (D.sl? (1 : Nat))) fun (l18 : List (List D)) => bif b2 then spec_puHardest.l10 n m5 m10 s0 i1 true i3 i4 i5 (IntKind.wrap IntKind.i64 (i6 + (1 : Int))) i7 i8 i9 i10 i11 i12 i13 i14 s15 i16 i17 i18 i19 i20 i21 i22 i23 i24 i25 i26 s27 i28 i29 i30 i31 i32 i33 i34 i35 i36 i37 i38 l39 i40 i41 i42 i43 i44 i45 i46 i47 i48 i49 i50 i51 i52 i53 i54 i55 l56 l57 else Option.bind (Cod.decs intC l18) fun (l19 : List Int) => Option.bind (Cod.decs intC l56) fun (l20 : List Int) => bif decide (List.length l19 = List.length l20) then spec_puHardest.l10 n m5 m10 s0 i1 (eqIL l19 l20) i3 i4 i5 (IntKind.wrap IntKind.i64 (i6 + (1 : Int))) i7 i8 i9 i10 i11 i12 i13 i14 s15 i16 i17 i18 i19 i20 i21 i22 i23 i24 i25 i26 s27 i28 i29 i30 i31 i32 i33 i34 i35 i36 i37 i38 l39 i40 i41 i42 i43 i44 i45 i46 i47 i48 i49 i50 i51 i52 i53 i54 i55 l56 l57 else none else none else none else bif b2 then spec_puHardest.l5 n m5 s0 i1 i3 (IntKind.wrap IntKind.i64 (i4 + (1 : Int))) i7 i8 i9 i10 i11 i12 i13 i14 s15 i16 i17 i18 i19 i20 i21 i22 i23 i24 i25 i26 s27 i28 i29 i30 i31 i32 i33 i34 i35 i36 i37 i38 l39 l57 else bif decide (List.length l39 + (1 : Nat) ≤ (17179869184 : Nat)) then bif decide (i48 > i1) then spec_puHardest.l5 n m5 s0 i48 i3 (IntKind.wrap IntKind.i64 (i4 + (1 : Int))) i7 i8 i9 i10 i11 i12 i13 i14 s15 i16 i17 i18 i19 i20 i21 i22 i23 i24 i25 i26 s0 i7 i8 i9 i10 i11 i12 i13 i14 i40 i41 i42 (l39 ++ [[D.sl (1 : Nat) l56]]) l57 else bif i48 == i1 then bif ltG i41 i40 i42 i37 i36 i38 then spec_puHardest.l5 n m5 s0 i48 i3 (IntKind.wrap IntKind.i64 (i4 + (1 : Int))) i7 i8 i9 i10 i11 i12 i13 i14 s15 i16 i17 i18 i19 i20 i21 i22 i23 i24 i25 i26 s0 i7 i8 i9 i10 i11 i12 i13 i14 i40 i41 i42 (l39 ++ [[D.sl (1 : Nat) l56]]) l57 else spec_puHardest.l5 n m5 s0 i1 i3 (IntKind.wrap IntKind.i64 (i4 + (1 : Int))) i7 i8 i9 i10 i11 i12 i13 i14 s15 i16 i17 i18 i19 i20 i21 i22 i23 i24 i25 i26 s27 i28 i29 i30 i31 i32 i33 i34 i35 i36 i37 i38 (l39 ++ [[D.sl (1 : Nat) l56]]) l57 else spec_puHardest.l5 n m5 s0 i1 i3 (IntKind.wrap IntKind.i64 (i4 + (1 : Int))) i7 i8 i9 i10 i11 i12 i13 i14 s15 i16 i17 i18 i19 i20 i21 i22 i23 i24 i25 i26 s27 i28 i29 i30 i31 i32 i33 i34 i35 i36 i37 i38 (l39 ++ [[D.sl (1 : Nat) l56]]) l57 else none := by kernel_rfl
noncomputable def spec_puHardest.res (n : Nat) (a0 : ByteArray) (a1_0 : Int) (a1_1 : Int) (a1_2 : Int) (a1_3 : Int) (a1_4 : Int) (a1_5 : Int) (a1_6 : Int) (a1_7 : Int) : Option (List Q) :=
  Option.bind (Cod.decs u8C (Cod.encs u8C (boC brd a0))) fun (l1 : List UInt8) => bif inR (↑(boW brd a0) : Int) (0 : Int) (7 : Int) then bif inR (↑(boH brd a0) : Int) (0 : Int) (7 : Int) then bif decide (List.length l1 = Int.toNat (↑(boW brd a0) : Int) * Int.toNat (↑(boH brd a0) : Int)) then bif inR a1_0 (0 : Int) ((↑(boW brd a0) : Int) - (1 : Int)) then bif inR a1_1 (0 : Int) ((↑(boH brd a0) : Int) - (1 : Int)) then bif Die.good (Die.mk a1_2 a1_3 a1_4 a1_5 a1_6 a1_7) then spec_puHardest.l5 n n a0 (-1 : Int) (↑(List.length (Cod.encs ndC (wyN (flC (↑(boW brd a0) : Int) (↑(boH brd a0) : Int) l1) (Sta.mk a1_0 a1_1 (Die.mk a1_2 a1_3 a1_4 a1_5 a1_6 a1_7))))) : Int) (0 : Int) a1_0 a1_1 a1_2 a1_3 a1_4 a1_5 a1_6 a1_7 (ByteArray.mk #[]) (0 : Int) (0 : Int) (0 : Int) (0 : Int) (0 : Int) (0 : Int) (0 : Int) (0 : Int) (0 : Int) (0 : Int) (0 : Int) (ByteArray.mk #[]) (0 : Int) (0 : Int) (0 : Int) (0 : Int) (0 : Int) (0 : Int) (0 : Int) (0 : Int) (0 : Int) (0 : Int) (0 : Int) [] (Cod.encs ndC (wyN (flC (↑(boW brd a0) : Int) (↑(boH brd a0) : Int) l1) (Sta.mk a1_0 a1_1 (Die.mk a1_2 a1_3 a1_4 a1_5 a1_6 a1_7)))) else none else none else none else none else none else none
theorem spec_puHardest.run (n : Nat) (a0 : ByteArray) (a1_0 : Int) (a1_1 : Int) (a1_2 : Int) (a1_3 : Int) (a1_4 : Int) (a1_5 : Int) (a1_6 : Int) (a1_7 : Int) :
    run1 spec_puHardest.cfg [RK.agg [LK.str, LK.int IntKind.i64, LK.int IntKind.i64, LK.int IntKind.i64, LK.int IntKind.i64, LK.int IntKind.i64, LK.int IntKind.i64, LK.int IntKind.i64, LK.int IntKind.i64, LK.int IntKind.i64, LK.int IntKind.i64, LK.int IntKind.i64], RK.one (LK.int IntKind.i64)] n Tryd.f43 [Q.one (D.str a0), Q.agg [D.int IntKind.i64 a1_0, D.int IntKind.i64 a1_1, D.int IntKind.i64 a1_2, D.int IntKind.i64 a1_3, D.int IntKind.i64 a1_4, D.int IntKind.i64 a1_5, D.int IntKind.i64 a1_6, D.int IntKind.i64 a1_7]] = spec_puHardest.res n a0 a1_0 a1_1 a1_2 a1_3 a1_4 a1_5 a1_6 a1_7 := by kernel_rfl
theorem spec_puHardest.ev {n : Nat} {a0 : ByteArray} {a1_0 : Int} {a1_1 : Int} {a1_2 : Int} {a1_3 : Int} {a1_4 : Int} {a1_5 : Int} {a1_6 : Int} {a1_7 : Int} {r : List Q} (h : spec_puHardest.res n a0 a1_0 a1_1 a1_2 a1_3 a1_4 a1_5 a1_6 a1_7 = some r) : Snd Tryd.prog C0 43 [.one (.str a0), .agg [.int .i64 a1_0, .int .i64 a1_1, .int .i64 a1_2, .int .i64 a1_3, .int .i64 a1_4, .int .i64 a1_5, .int .i64 a1_6, .int .i64 a1_7]] r :=
  snd_ev (C := spec_puHardest.cfg) cfg0 mix rfl rfl rfl rfl rfl (.cons spec_boRead.ok (.cons spec_wyAll.ok (.cons spec_l1Same.ok (.cons spec_puBefore.ok .nil)))) .nil rfl Tryd.func43 (by kernel_rfl) (by kernel_rfl) rfl ((spec_puHardest.run n a0 a1_0 a1_1 a1_2 a1_3 a1_4 a1_5 a1_6 a1_7).trans h)

theorem spec_puHardest.l10_run {n m5 : Nat} {s0 : ByteArray} {i1 : Int} {i3 : Int} {i4 : Int} {i7 : Int} {i8 : Int} {i9 : Int} {i10 : Int} {i11 : Int} {i12 : Int} {i13 : Int} {i14 : Int} {s15 : ByteArray} {i16 : Int} {i17 : Int} {i18 : Int} {i19 : Int} {i20 : Int} {i21 : Int} {i22 : Int} {i23 : Int} {i24 : Int} {i25 : Int} {i26 : Int} {s27 : ByteArray} {i28 : Int} {i29 : Int} {i30 : Int} {i31 : Int} {i32 : Int} {i33 : Int} {i34 : Int} {i35 : Int} {i36 : Int} {i37 : Int} {i38 : Int} {i40 : Int} {i41 : Int} {i42 : Int} {i43 : Int} {i44 : Int} {i45 : Int} {i46 : Int} {i47 : Int} {i48 : Int} {i49 : Int} {i50 : Int} {i51 : Int} {i52 : Int} {i53 : Int} {i54 : Int} {i55 : Int} {l57 : List (List D)} {S : List Gl} {g : Gl} (hS : S.length ≤ LIM) : ∀ (d i m : Nat) (b2 : Bool), i + d = S.length → d < m →
    spec_puHardest.l10 n m5 m s0 i1 b2 i3 i4 ((S.length : Nat) : Int) (i : Int) i7 i8 i9 i10 i11 i12 i13 i14 s15 i16 i17 i18 i19 i20 i21 i22 i23 i24 i25 i26 s27 i28 i29 i30 i31 i32 i33 i34 i35 i36 i37 i38 (rowC.encs (S.map glL)) i40 i41 i42 i43 i44 i45 i46 i47 i48 i49 i50 i51 i52 i53 i54 i55 (intC.encs (glL g)) l57 = spec_puHardest.l10 n m5 1 s0 i1 (b2 || (S.drop i).any fun x => eqG x g) i3 i4 ((S.length : Nat) : Int) ((S.length : Nat) : Int) i7 i8 i9 i10 i11 i12 i13 i14 s15 i16 i17 i18 i19 i20 i21 i22 i23 i24 i25 i26 s27 i28 i29 i30 i31 i32 i33 i34 i35 i36 i37 i38 (rowC.encs (S.map glL)) i40 i41 i42 i43 i44 i45 i46 i47 i48 i49 i50 i51 i52 i53 i54 i55 (intC.encs (glL g)) l57 := by
  intro d
  induction d with
  | zero =>
    intro i m b2 hi hm
    obtain ⟨m, rfl⟩ : ∃ m', m = m' + 1 := ⟨m - 1, by omega⟩
    obtain rfl : i = S.length := by omega
    have h1 : ¬ ((S.length : Nat) : Int) < ((S.length : Nat) : Int) := by omega
    rw [List.drop_of_length_le (Nat.le_refl _), spec_puHardest.l10_eq, spec_puHardest.l10_eq]
    simp only [h1, decide_false, cond_false, List.any_nil, Bool.or_false]
  | succ d ih =>
    intro i m b2 hi hm
    obtain ⟨m, rfl⟩ : ∃ m', m = m' + 1 := ⟨m - 1, by omega⟩
    have hlt : i < S.length := by omega
    have hltm : i < (S.map glL).length := by rw [List.length_map]; exact hlt
    have h1 : (i : Int) < ((S.length : Nat) : Int) := by omega
    have hcell := rowC_cell' hltm
    rw [List.getElem_map] at hcell
    have d1 : intC.decs (intC.encs (glL S[i])) = some (glL S[i]) := Cod.decs_encs (by simp [glL, LIM])
    have d2 : intC.decs (intC.encs (glL g)) = some (glL g) := Cod.decs_encs (by simp [glL, LIM])
    have hl2 : (glL S[i]).length = (glL g).length := rfl
    rw [spec_puHardest.l10_eq, List.drop_eq_getElem_cons hlt, List.any_cons]
    simp only [h1, Cod.encs_len, List.length_map, Int.natCast_nonneg, Int.toNat_natCast, decide_true, cond_true, hcell, Option.bind_some, d1, d2, decide_eq_true hl2, eqIL_gl, wrap_succ (show i ≤ LIM by omega)]
    cases b2 with
    | true =>
      have step := ih (i + 1) m true (by omega) (by omega)
      simp only [cond_true, Bool.true_or] at step ⊢
      exact step
    | false =>
      have step := ih (i + 1) m (eqG S[i] g) (by omega) (by omega)
      simp only [cond_false, Bool.false_or] at step ⊢
      exact step
theorem onS_true (q : ByteArray) : onS true q = q := rfl
theorem onI_true (k : Int) : onI true k = k := rfl
theorem spec_puHardest.l5_run {n : Nat} {q : ByteArray} {s : Sta} {s12 : ByteArray} {i13 : Int} {i14 : Int} {i15 : Int} {i16 : Int} {i17 : Int} {i18 : Int} {i19 : Int} {i20 : Int} {i21 : Int} {i22 : Int} {i23 : Int} {N : List Nd} (hl : N.length ≤ BIG) (hn : BIG + 64 ≤ n) : ∀ (d i m : Nat) (h : Hd), i + d = N.length → d < m → h.seen.length ≤ i →
    spec_puHardest.l5 n m q h.most ((N.length : Nat) : Int) (i : Int) s.x s.y s.d.t s.d.n s.d.e s.d.s s.d.w s.d.b s12 i13 i14 i15 i16 i17 i18 i19 i20 i21 i22 i23 (onS (isG h.best) q) (onI (isG h.best) s.x) (onI (isG h.best) s.y) (onI (isG h.best) s.d.t) (onI (isG h.best) s.d.n) (onI (isG h.best) s.d.e) (onI (isG h.best) s.d.s) (onI (isG h.best) s.d.w) (onI (isG h.best) s.d.b) (gO h.best).x (gO h.best).y (gO h.best).t (rowC.encs (h.seen.map glL)) (ndC.encs N) = some [Q.agg [.str (onS (isG (((N.map Nd.core).drop i).foldl hdStep h).best) q), .int .i64 (onI (isG (((N.map Nd.core).drop i).foldl hdStep h).best) s.x), .int .i64 (onI (isG (((N.map Nd.core).drop i).foldl hdStep h).best) s.y), .int .i64 (onI (isG (((N.map Nd.core).drop i).foldl hdStep h).best) s.d.t), .int .i64 (onI (isG (((N.map Nd.core).drop i).foldl hdStep h).best) s.d.n), .int .i64 (onI (isG (((N.map Nd.core).drop i).foldl hdStep h).best) s.d.e), .int .i64 (onI (isG (((N.map Nd.core).drop i).foldl hdStep h).best) s.d.s), .int .i64 (onI (isG (((N.map Nd.core).drop i).foldl hdStep h).best) s.d.w), .int .i64 (onI (isG (((N.map Nd.core).drop i).foldl hdStep h).best) s.d.b), .int .i64 (gO (((N.map Nd.core).drop i).foldl hdStep h).best).x, .int .i64 (gO (((N.map Nd.core).drop i).foldl hdStep h).best).y, .int .i64 (gO (((N.map Nd.core).drop i).foldl hdStep h).best).t], Q.one (.int .i64 (((N.map Nd.core).drop i).foldl hdStep h).most)] := by
  intro d
  induction d with
  | zero =>
    intro i m h hi hm hs
    obtain ⟨m, rfl⟩ : ∃ m', m = m' + 1 := ⟨m - 1, by omega⟩
    have h1 : ¬ (i : Int) < ((N.length : Nat) : Int) := by omega
    rw [spec_puHardest.l5_eq, List.drop_of_length_le (by rw [List.length_map]; omega)]
    simp only [h1, decide_false, cond_false]
    rfl
  | succ d ih =>
    intro i m h hi hm hs
    obtain ⟨m, rfl⟩ : ∃ m', m = m' + 1 := ⟨m - 1, by omega⟩
    unfold BIG at hl hn
    have hlt : i < N.length := by omega
    have hltc : i < (N.map Nd.core).length := by rw [List.length_map]; exact hlt
    have h1 : (i : Int) < ((N.length : Nat) : Int) := by omega
    obtain ⟨c0, c1, c2, c3, c4, c5, c6, c7⟩ := nd_cells hlt
    obtain ⟨c8, c9, c10, c11⟩ := nd_cells2 hlt
    obtain ⟨c12, c13, c14, c15⟩ := nd_cells3 hlt
    have hs1 : h.seen.length + 1 ≤ 17179869184 := by omega
    have hss : ¬ ((h.seen.length : Nat) : Int) < ((h.seen.length : Nat) : Int) := by omega
    have hlen : (hdStep h N[i].core).seen.length ≤ i + 1 := by
      have := hd_len [N[i].core] h
      rw [List.foldl_cons, List.foldl_nil, List.length_singleton] at this
      omega
    have step := ih (i + 1) m (hdStep h N[i].core) (by omega) (by omega) hlen
    rw [spec_puHardest.l5_eq, List.drop_eq_getElem_cons hltc, List.getElem_map, List.foldl_cons]
    simp only [h1, Cod.encs_len, List.length_map, Int.natCast_nonneg, Int.toNat_natCast, decide_true, cond_true, c0, c1, c2, c3, c4, c5, c6, c7, c8, c9, c10, c11, c12, c13, c14, c15, Option.bind_some]
    rw [← step]
    refine Eq.trans (spec_puHardest.l10_run (S := h.seen) (g := glOf N[i].u) (by unfold LIM; omega) h.seen.length 0 n false (Nat.zero_add _) (by omega)) ?_
    rw [spec_puHardest.l10_eq, List.drop_zero, Bool.false_or]
    simp only [hss, decide_false, cond_false, wrap_succ (show i ≤ LIM by unfold LIM; omega), Cod.encs_len, List.length_map, hs1, decide_true, cond_true, rowC_snoc, ieq]
    unfold hdStep hdLt hasG
    rw [show N[i].core.u = N[i].u from rfl, show N[i].core.far = N[i].far from rfl]
    cases h.seen.any fun x => eqG x (glOf N[i].u) with
    | true => rfl
    | false =>
      simp only [cond_false]
      rw [show ltG N[i].u.y N[i].u.x N[i].u.d.t (gO h.best).y (gO h.best).x (gO h.best).t = ltG (glOf N[i].u).y (glOf N[i].u).x (glOf N[i].u).t (gO h.best).y (gO h.best).x (gO h.best).t from rfl]
      by_cases e1 : N[i].far > h.most
      · simp only [e1, decide_true, cond_true, Bool.true_or, List.map_append, List.map_cons, List.map_nil]
        rfl
      · by_cases e2 : N[i].far = h.most
        · cases e3 : ltG (glOf N[i].u).y (glOf N[i].u).x (glOf N[i].u).t (gO h.best).y (gO h.best).x (gO h.best).t with
          | true =>
            simp only [e1, e2, decide_true, decide_false, cond_true, cond_false, Bool.false_or, Bool.true_and, List.map_append, List.map_cons, List.map_nil, Bool.or_true]
            try simp only [Int.lt_irrefl, gt_iff_lt, decide_false, cond_false, List.map_append, List.map_cons, List.map_nil]
            try rfl
          | false =>
            simp only [e1, e2, decide_true, decide_false, cond_true, cond_false, Bool.false_or, Bool.true_and, List.map_append, List.map_cons, List.map_nil, Bool.or_false]
            try simp only [Int.lt_irrefl, gt_iff_lt, decide_false, cond_false, List.map_append, List.map_cons, List.map_nil]
            try rfl
        · simp only [e1, e2, decide_true, decide_false, cond_true, cond_false, Bool.false_or, Bool.false_and, List.map_append, List.map_cons, List.map_nil]
          try rfl
def spec_puHardest.stub : Stub
  | [.one (.str q), .agg [.int .i64 x, .int .i64 y, .int .i64 t, .int .i64 n, .int .i64 e, .int .i64 s, .int .i64 w, .int .i64 b]] => .gd (Sp.okSt q ⟨x, y, ⟨t, n, e, s, w, b⟩⟩) (.ret [.agg [.str q, .int .i64 x, .int .i64 y, .int .i64 t, .int .i64 n, .int .i64 e, .int .i64 s, .int .i64 w, .int .i64 b, .int .i64 (Sp.hdG q ⟨x, y, ⟨t, n, e, s, w, b⟩⟩).x, .int .i64 (Sp.hdG q ⟨x, y, ⟨t, n, e, s, w, b⟩⟩).y, .int .i64 (Sp.hdG q ⟨x, y, ⟨t, n, e, s, w, b⟩⟩).t], .one (.int .i64 (Sp.hdM q ⟨x, y, ⟨t, n, e, s, w, b⟩⟩))])
  | _ => .fail
theorem spec_puHardest.ok : StubOk Tryd.prog C0 43 spec_puHardest.stub := by
  intro args res h
  unfold spec_puHardest.stub at h
  split at h
  · rename_i q x y t n e s w b
    obtain ⟨ho, h0⟩ := gd_out h
    cases h0
    obtain ⟨N, hN⟩ : ∃ N, BIG + 64 ≤ N := ⟨BIG + 64, Nat.le_refl _⟩
    refine spec_puHardest.ev (n := N) ?_
    unfold spec_puHardest.res
    obtain ⟨hb, hg, hfl, _, _⟩ := okSt_out ho
    obtain ⟨e1, e2, e3, e4, e5, e6, e7⟩ := bo_ok hb
    have e6' : (boC brd q).length = (boW brd q : Int).toNat * (boH brd q : Int).toNat := by rw [Int.toNat_natCast, Int.toNat_natCast, e6]
    have hfl2 : flC (boW brd q : Int) (boH brd q : Int) (boC brd q) x y = true := by rw [fl_eq hb]; exact hfl
    obtain ⟨x0, x1, y0, y1⟩ := flC_gd _ _ hfl2
    have gx : inR x 0 ((boW brd q : Int) - 1) = true := by
      unfold inR
      rw [Bool.and_eq_true, decide_eq_true_eq, decide_eq_true_eq]; omega
    have gy : inR y 0 ((boH brd q : Int) - 1) = true := by
      unfold inR
      rw [Bool.and_eq_true, decide_eq_true_eq, decide_eq_true_eq]; omega
    have hlen := wyN_len ho
    have hg : Die.good ⟨t, n, e, s, w, b⟩ = true := hg
    simp only [Cod.decs_encs e7, Option.bind_some, e4, e5, decide_eq_true e6', gx, gy, hg, fl_eq hb, Cod.encs_len, cond_true]
    have hb2 := hdAll_some (isFl (rws q)) ⟨x, y, ⟨t, n, e, s, w, b⟩⟩
    have key := spec_puHardest.l5_run (n := N) (q := q) (s := ⟨x, y, ⟨t, n, e, s, w, b⟩⟩) (N := wyN (isFl (rws q)) ⟨x, y, ⟨t, n, e, s, w, b⟩⟩) (s12 := ByteArray.mk #[]) (i13 := 0) (i14 := 0) (i15 := 0) (i16 := 0) (i17 := 0) (i18 := 0) (i19 := 0) (i20 := 0) (i21 := 0) (i22 := 0) (i23 := 0) (by omega) hN _ 0 N ⟨[], none, -1⟩ (Nat.zero_add _) (by omega) (Nat.zero_le _)
    rw [List.drop_zero, wy_core] at key
    unfold hdAll at hb2
    rw [hb2] at key
    exact key
  · cases h
/-! spec_HardestGoal -/
/-! impl_hardest -/
noncomputable def impl_hardest.cfg : Cfg := { C0 with keep := fun | 6 => some [0, 3, 4, 7, 9, 10, 11, 30, 31, 32] | _ => none, nb := 0, M := tabM [(81, impl_reachOn.stub), (82, slices_Compare_Sint_int.stub)], MM := tabB [] }
noncomputable def impl_hardest.l6 (n : Nat) (m6 : Nat) (s0 : ByteArray) (l1 : List (List D)) (l2 : List (List D)) (l3 : List (List D)) (l4 : List (List D)) (l5 : List (List D × List D)) (i6 : Int) (l7 : List (List D)) (i8 : Int) (i9 : Int) (i10 : Int) (i11 : Int) (i12 : Int) (i13 : Int) (i14 : Int) (i15 : Int) (i16 : Int) (i17 : Int) (s18 : ByteArray) (i19 : Int) (i20 : Int) (i21 : Int) (i22 : Int) (i23 : Int) (i24 : Int) (i25 : Int) (i26 : Int) (i27 : Int) (i28 : Int) (i29 : Int) (s30 : ByteArray) (i31 : Int) (i32 : Int) (i33 : Int) (i34 : Int) (i35 : Int) (i36 : Int) (i37 : Int) (i38 : Int) (i39 : Int) (i40 : Int) (i41 : Int) (l42 : List (List D × List D)) : Option (List Q) :=
  loopAt impl_hardest.cfg [RK.agg [LK.str, LK.int IntKind.i64, LK.int IntKind.i64, LK.int IntKind.i64, LK.int IntKind.i64, LK.int IntKind.i64, LK.int IntKind.i64, LK.int IntKind.i64, LK.int IntKind.i64, LK.int IntKind.i64, LK.int IntKind.i64, LK.int IntKind.i64], RK.one (LK.int IntKind.i64), RK.one LK.bool] n Tryd.f45 [1, 1, 1, 1, 0, 1, 0] [] m6 (St.mk [V.one true (D.str s0), V.undef, V.undef, V.rp (0 : Nat) (0 : Nat), V.rp (1 : Nat) (0 : Nat), V.undef, V.undef, V.one true (D.pt [D.sl (8 : Nat) l1, D.sl (1 : Nat) l2, D.sl (1 : Nat) l3, D.sl (1 : Nat) l4, D.mp l5]), V.undef, V.rp (2 : Nat) (0 : Nat), V.one true (D.int IntKind.i64 i6), V.rm (3 : Nat), V.undef, V.undef, V.undef, V.undef, V.undef, V.undef, V.undef, V.undef, V.undef, V.undef, V.undef, V.undef, V.undef, V.undef, V.undef, V.undef, V.undef, V.undef, V.one true (D.sl (8 : Nat) l7), V.one true (D.int IntKind.i64 i8), V.one true (D.int IntKind.i64 i9), V.undef, V.undef, V.undef, V.undef, V.undef, V.undef, V.undef, V.undef, V.undef, V.undef, V.undef, V.undef, V.undef, V.undef, V.undef, V.undef, V.undef, V.undef, V.undef, V.undef, V.undef, V.undef, V.undef, V.undef, V.undef, V.undef, V.undef, V.undef, V.undef, V.undef, V.undef, V.undef, V.undef, V.undef, V.undef, V.undef, V.undef, V.undef, V.undef, V.undef, V.undef, V.undef, V.undef, V.undef, V.undef, V.undef, V.undef, V.undef, V.undef, V.undef, V.undef, V.undef, V.undef, V.undef, V.undef, V.undef, V.undef, V.undef, V.undef, V.undef, V.undef, V.undef, V.undef, V.undef, V.undef, V.undef, V.undef, V.undef, V.undef, V.undef, V.undef, V.undef, V.undef] [Ob.box [V.one true (D.int IntKind.i64 i10), V.one true (D.int IntKind.i64 i11), V.one true (D.int IntKind.i64 i12), V.one true (D.int IntKind.i64 i13), V.one true (D.int IntKind.i64 i14), V.one true (D.int IntKind.i64 i15), V.one true (D.int IntKind.i64 i16), V.one true (D.int IntKind.i64 i17)], Ob.box [V.one true (D.str s18), V.one true (D.int IntKind.i64 i19), V.one true (D.int IntKind.i64 i20), V.one true (D.int IntKind.i64 i21), V.one true (D.int IntKind.i64 i22), V.one true (D.int IntKind.i64 i23), V.one true (D.int IntKind.i64 i24), V.one true (D.int IntKind.i64 i25), V.one true (D.int IntKind.i64 i26), V.one true (D.int IntKind.i64 i27), V.one true (D.int IntKind.i64 i28), V.one true (D.int IntKind.i64 i29)], Ob.box [V.one true (D.str s30), V.one true (D.int IntKind.i64 i31), V.one true (D.int IntKind.i64 i32), V.one true (D.int IntKind.i64 i33), V.one true (D.int IntKind.i64 i34), V.one true (D.int IntKind.i64 i35), V.one true (D.int IntKind.i64 i36), V.one true (D.int IntKind.i64 i37), V.one true (D.int IntKind.i64 i38), V.one true (D.int IntKind.i64 i39), V.one true (D.int IntKind.i64 i40), V.one true (D.int IntKind.i64 i41)], Ob.mp l42])
theorem impl_hardest.l6_eq (n : Nat) (m6 : Nat) (s0 : ByteArray) (l1 : List (List D)) (l2 : List (List D)) (l3 : List (List D)) (l4 : List (List D)) (l5 : List (List D × List D)) (i6 : Int) (l7 : List (List D)) (i8 : Int) (i9 : Int) (i10 : Int) (i11 : Int) (i12 : Int) (i13 : Int) (i14 : Int) (i15 : Int) (i16 : Int) (i17 : Int) (s18 : ByteArray) (i19 : Int) (i20 : Int) (i21 : Int) (i22 : Int) (i23 : Int) (i24 : Int) (i25 : Int) (i26 : Int) (i27 : Int) (i28 : Int) (i29 : Int) (s30 : ByteArray) (i31 : Int) (i32 : Int) (i33 : Int) (i34 : Int) (i35 : Int) (i36 : Int) (i37 : Int) (i38 : Int) (i39 : Int) (i40 : Int) (i41 : Int) (l42 : List (List D × List D)) :
    impl_hardest.l6 n (m6 + 1) s0 l1 l2 l3 l4 l5 i6 l7 i8 i9 i10 i11 i12 i13 i14 i15 i16 i17 s18 i19 i20 i21 i22 i23 i24 i25 i26 i27 i28 i29 s30 i31 i32 i33 i34 i35 i36 i37 i38 i39 i40 i41 l42 = bif decide (i9 < i8) then bif decide ((0 : Int) ≤ i9) then bif decide (i9 < (↑(List.length l7) : Int)) then Option.bind (Option.bind (some (cellD l7 (Int.toNat i9) (0 : Nat))) (D.int? IntKind.i64)) fun (i1 : Int) => Option.bind (Option.bind (some (cellD l7 (Int.toNat i9) (1 : Nat))) (D.int? IntKind.i64)) fun (i2 : Int) => Option.bind (Option.bind (some (cellD l7 (Int.toNat i9) (2 : Nat))) (D.int? IntKind.i64)) fun (i3 : Int) => Option.bind (Option.bind (some (cellD l7 (Int.toNat i9) (3 : Nat))) (D.int? IntKind.i64)) fun (i4 : Int) => Option.bind (Option.bind (some (cellD l7 (Int.toNat i9) (4 : Nat))) (D.int? IntKind.i64)) fun (i5 : Int) => Option.bind (Option.bind (some (cellD l7 (Int.toNat i9) (5 : Nat))) (D.int? IntKind.i64)) fun (i6_1 : Int) => Option.bind (Option.bind (some (cellD l7 (Int.toNat i9) (6 : Nat))) (D.int? IntKind.i64)) fun (i7 : Int) => Option.bind (Option.bind (some (cellD l7 (Int.toNat i9) (7 : Nat))) (D.int? IntKind.i64)) fun (i8_1 : Int) => Option.bind (mpGet [D.int IntKind.i64 i2, D.int IntKind.i64 i1, D.int IntKind.i64 i3] l42) fun (d9 : Option (List D)) => bif decide (List.length (Option.getD d9 [D.bool false]) = (1 : Nat)) then Option.bind (Option.bind (some (cellD [Option.getD d9 [D.bool false]] (0 : Nat) (0 : Nat))) D.bool?) fun (b10 : Bool) => bif b10 then impl_hardest.l6 n m6 s0 l1 l2 l3 l4 l5 i6 l7 i8 (IntKind.wrap IntKind.i64 (i9 + (1 : Int))) i10 i11 i12 i13 i14 i15 i16 i17 s18 i19 i20 i21 i22 i23 i24 i25 i26 i27 i28 i29 s30 i31 i32 i33 i34 i35 i36 i37 i38 i39 i40 i41 l42 else Option.bind (mpSet [D.int IntKind.i64 i2, D.int IntKind.i64 i1, D.int IntKind.i64 i3] [D.bool true] l42) fun (l11 : List (List D × List D)) => bif decide ((0 : Int) ≤ i9) then bif decide (i9 < (↑(List.length l4) : Int)) then Option.bind (Option.bind (some (cellD l4 (Int.toNat i9) (0 : Nat))) (D.int? IntKind.i64)) fun (i12_1 : Int) => bif decide (i12_1 > i6) then bif decide ((0 : Int) ≤ i9) then bif decide (i9 < (↑(List.length l4) : Int)) then Option.bind (Option.bind (some (cellD l4 (Int.toNat i9) (0 : Nat))) (D.int? IntKind.i64)) fun (i13_1 : Int) => impl_hardest.l6 n m6 s0 l1 l2 l3 l4 l5 i13_1 l7 i8 (IntKind.wrap IntKind.i64 (i9 + (1 : Int))) i10 i11 i12 i13 i14 i15 i16 i17 s18 i19 i20 i21 i22 i23 i24 i25 i26 i27 i28 i29 s0 i10 i11 i12 i13 i14 i15 i16 i17 i1 i2 i3 l11 else none else none else bif decide ((0 : Int) ≤ i9) then bif decide (i9 < (↑(List.length l4) : Int)) then Option.bind (Option.bind (some (cellD l4 (Int.toNat i9) (0 : Nat))) (D.int? IntKind.i64)) fun (i14_1 : Int) => bif i14_1 == i6 then bif decide (cmp3 i2 i1 i3 i40 i39 i41 < (0 : Int)) then bif decide ((0 : Int) ≤ i9) then bif decide (i9 < (↑(List.length l4) : Int)) then Option.bind (Option.bind (some (cellD l4 (Int.toNat i9) (0 : Nat))) (D.int? IntKind.i64)) fun (i15_1 : Int) => impl_hardest.l6 n m6 s0 l1 l2 l3 l4 l5 i15_1 l7 i8 (IntKind.wrap IntKind.i64 (i9 + (1 : Int))) i10 i11 i12 i13 i14 i15 i16 i17 s18 i19 i20 i21 i22 i23 i24 i25 i26 i27 i28 i29 s0 i10 i11 i12 i13 i14 i15 i16 i17 i1 i2 i3 l11 else none else none else impl_hardest.l6 n m6 s0 l1 l2 l3 l4 l5 i6 l7 i8 (IntKind.wrap IntKind.i64 (i9 + (1 : Int))) i10 i11 i12 i13 i14 i15 i16 i17 s18 i19 i20 i21 i22 i23 i24 i25 i26 i27 i28 i29 s30 i31 i32 i33 i34 i35 i36 i37 i38 i39 i40 i41 l11 else impl_hardest.l6 n m6 s0 l1 l2 l3 l4 l5 i6 l7 i8 (IntKind.wrap IntKind.i64 (i9 + (1 : Int))) i10 i11 i12 i13 i14 i15 i16 i17 s18 i19 i20 i21 i22 i23 i24 i25 i26 i27 i28 i29 s30 i31 i32 i33 i34 i35 i36 i37 i38 i39 i40 i41 l11 else none else none else none else none else none else none else none else bif decide (i6 > (60 : Int)) then some [Q.agg [D.str (ByteArray.mk #[]), D.int IntKind.i64 (0 : Int), D.int IntKind.i64 (0 : Int), D.int IntKind.i64 (0 : Int), D.int IntKind.i64 (0 : Int), D.int IntKind.i64 (0 : Int), D.int IntKind.i64 (0 : Int), D.int IntKind.i64 (0 : Int), D.int IntKind.i64 (0 : Int), D.int IntKind.i64 (0 : Int), D.int IntKind.i64 (0 : Int), D.int IntKind.i64 (0 : Int)], Q.one (D.int IntKind.i64 (0 : Int)), Q.one (D.bool false)] else some [Q.agg [D.str s30, D.int IntKind.i64 i31, D.int IntKind.i64 i32, D.int IntKind.i64 i33, D.int IntKind.i64 i34, D.int IntKind.i64 i35, D.int IntKind.i64 i36, D.int IntKind.i64 i37, D.int IntKind.i64 i38, D.int IntKind.i64 i39, D.int IntKind.i64 i40, D.int IntKind.i64 i41], Q.one (D.int IntKind.i64 i6), Q.one (D.bool true)] := by kernel_rfl
noncomputable def impl_hardest.res (n : Nat) (a0 : ByteArray) (a1_0 : Int) (a1_1 : Int) (a1_2 : Int) (a1_3 : Int) (a1_4 : Int) (a1_5 : Int) (a1_6 : Int) (a1_7 : Int) : Option (List Q) :=
  bif decide (ByteArray.size a0 < (17179869184 : Nat)) then bif okSt a0 (Sta.mk a1_0 a1_1 (Die.mk a1_2 a1_3 a1_4 a1_5 a1_6 a1_7)) then impl_hardest.l6 n n a0 (Cod.encs stC (usC (wyC (isFl (rws a0)) (Sta.mk a1_0 a1_1 (Die.mk a1_2 a1_3 a1_4 a1_5 a1_6 a1_7))))) (Cod.encs intC (besC (wyC (isFl (rws a0)) (Sta.mk a1_0 a1_1 (Die.mk a1_2 a1_3 a1_4 a1_5 a1_6 a1_7))))) (Cod.encs u8C (rlsC (wyC (isFl (rws a0)) (Sta.mk a1_0 a1_1 (Die.mk a1_2 a1_3 a1_4 a1_5 a1_6 a1_7))))) (Cod.encs intC (fasC (wyC (isFl (rws a0)) (Sta.mk a1_0 a1_1 (Die.mk a1_2 a1_3 a1_4 a1_5 a1_6 a1_7))))) (plU (usC (wyC (isFl (rws a0)) (Sta.mk a1_0 a1_1 (Die.mk a1_2 a1_3 a1_4 a1_5 a1_6 a1_7))))) (-1 : Int) (Cod.encs stC (usC (wyC (isFl (rws a0)) (Sta.mk a1_0 a1_1 (Die.mk a1_2 a1_3 a1_4 a1_5 a1_6 a1_7))))) (↑(List.length (Cod.encs stC (usC (wyC (isFl (rws a0)) (Sta.mk a1_0 a1_1 (Die.mk a1_2 a1_3 a1_4 a1_5 a1_6 a1_7)))))) : Int) (0 : Int) a1_0 a1_1 a1_2 a1_3 a1_4 a1_5 a1_6 a1_7 (ByteArray.mk #[]) (0 : Int) (0 : Int) (0 : Int) (0 : Int) (0 : Int) (0 : Int) (0 : Int) (0 : Int) (0 : Int) (0 : Int) (0 : Int) (ByteArray.mk #[]) (0 : Int) (0 : Int) (0 : Int) (0 : Int) (0 : Int) (0 : Int) (0 : Int) (0 : Int) (0 : Int) (0 : Int) (0 : Int) [] else some [Q.agg [D.str (ByteArray.mk #[]), D.int IntKind.i64 (0 : Int), D.int IntKind.i64 (0 : Int), D.int IntKind.i64 (0 : Int), D.int IntKind.i64 (0 : Int), D.int IntKind.i64 (0 : Int), D.int IntKind.i64 (0 : Int), D.int IntKind.i64 (0 : Int), D.int IntKind.i64 (0 : Int), D.int IntKind.i64 (0 : Int), D.int IntKind.i64 (0 : Int), D.int IntKind.i64 (0 : Int)], Q.one (D.int IntKind.i64 (0 : Int)), Q.one (D.bool false)] else none
theorem impl_hardest.run (n : Nat) (a0 : ByteArray) (a1_0 : Int) (a1_1 : Int) (a1_2 : Int) (a1_3 : Int) (a1_4 : Int) (a1_5 : Int) (a1_6 : Int) (a1_7 : Int) :
    run1 impl_hardest.cfg [RK.agg [LK.str, LK.int IntKind.i64, LK.int IntKind.i64, LK.int IntKind.i64, LK.int IntKind.i64, LK.int IntKind.i64, LK.int IntKind.i64, LK.int IntKind.i64, LK.int IntKind.i64, LK.int IntKind.i64, LK.int IntKind.i64, LK.int IntKind.i64], RK.one (LK.int IntKind.i64), RK.one LK.bool] n Tryd.f45 [Q.one (D.str a0), Q.agg [D.int IntKind.i64 a1_0, D.int IntKind.i64 a1_1, D.int IntKind.i64 a1_2, D.int IntKind.i64 a1_3, D.int IntKind.i64 a1_4, D.int IntKind.i64 a1_5, D.int IntKind.i64 a1_6, D.int IntKind.i64 a1_7]] = impl_hardest.res n a0 a1_0 a1_1 a1_2 a1_3 a1_4 a1_5 a1_6 a1_7 := by kernel_rfl
theorem impl_hardest.ev {n : Nat} {a0 : ByteArray} {a1_0 : Int} {a1_1 : Int} {a1_2 : Int} {a1_3 : Int} {a1_4 : Int} {a1_5 : Int} {a1_6 : Int} {a1_7 : Int} {r : List Q} (h : impl_hardest.res n a0 a1_0 a1_1 a1_2 a1_3 a1_4 a1_5 a1_6 a1_7 = some r) : Snd Tryd.prog C0 45 [.one (.str a0), .agg [.int .i64 a1_0, .int .i64 a1_1, .int .i64 a1_2, .int .i64 a1_3, .int .i64 a1_4, .int .i64 a1_5, .int .i64 a1_6, .int .i64 a1_7]] r :=
  snd_ev (C := impl_hardest.cfg) cfg0 mix rfl rfl rfl rfl rfl (.cons impl_reachOn.ok (.cons slices_Compare_Sint_int.ok .nil)) .nil rfl Tryd.func45 (by kernel_rfl) (by kernel_rfl) rfl ((impl_hardest.run n a0 a1_0 a1_1 a1_2 a1_3 a1_4 a1_5 a1_6 a1_7).trans h)

def outH (q : ByteArray) (s : Sta) (r : Hd) : List Q := bif decide (r.most > 60) then [Q.agg [.str ⟨#[]⟩, .int .i64 0, .int .i64 0, .int .i64 0, .int .i64 0, .int .i64 0, .int .i64 0, .int .i64 0, .int .i64 0, .int .i64 0, .int .i64 0, .int .i64 0], Q.one (.int .i64 0), Q.one (.bool false)] else [Q.agg [.str (onS (isG r.best) q), .int .i64 (onI (isG r.best) s.x), .int .i64 (onI (isG r.best) s.y), .int .i64 (onI (isG r.best) s.d.t), .int .i64 (onI (isG r.best) s.d.n), .int .i64 (onI (isG r.best) s.d.e), .int .i64 (onI (isG r.best) s.d.s), .int .i64 (onI (isG r.best) s.d.w), .int .i64 (onI (isG r.best) s.d.b), .int .i64 (gO r.best).x, .int .i64 (gO r.best).y, .int .i64 (gO r.best).t], Q.one (.int .i64 r.most), Q.one (.bool true)]
theorem impl_hardest.l6_run {n : Nat} {q : ByteArray} {s : Sta} {l1 : List (List D)} {l2 : List (List D)} {l3 : List (List D)} {l5 : List (List D × List D)} {s18 : ByteArray} {i19 : Int} {i20 : Int} {i21 : Int} {i22 : Int} {i23 : Int} {i24 : Int} {i25 : Int} {i26 : Int} {i27 : Int} {i28 : Int} {i29 : Int} {C : List Cr} (hl : C.length ≤ BIG) : ∀ (d i m : Nat) (h : Hd), i + d = C.length → d < m →
    impl_hardest.l6 n m q l1 l2 l3 (intC.encs (C.map Cr.far)) l5 h.most (stC.encs (C.map Cr.u)) ((C.length : Nat) : Int) (i : Int) s.x s.y s.d.t s.d.n s.d.e s.d.s s.d.w s.d.b s18 i19 i20 i21 i22 i23 i24 i25 i26 i27 i28 i29 (onS (isG h.best) q) (onI (isG h.best) s.x) (onI (isG h.best) s.y) (onI (isG h.best) s.d.t) (onI (isG h.best) s.d.n) (onI (isG h.best) s.d.e) (onI (isG h.best) s.d.s) (onI (isG h.best) s.d.w) (onI (isG h.best) s.d.b) (gO h.best).x (gO h.best).y (gO h.best).t (mpG h.seen) = some (outH q s ((C.drop i).foldl hdStep h)) := by
  intro d
  induction d with
  | zero =>
    intro i m h hi hm
    obtain ⟨m, rfl⟩ : ∃ m', m = m' + 1 := ⟨m - 1, by omega⟩
    have h1 : ¬ (i : Int) < ((C.length : Nat) : Int) := by omega
    rw [impl_hardest.l6_eq, List.drop_of_length_le (by omega)]
    simp only [h1, decide_false, cond_false]
    unfold outH
    rw [List.foldl_nil]
    cases decide (h.most > 60) <;> rfl
  | succ d ih =>
    intro i m h hi hm
    obtain ⟨m, rfl⟩ : ∃ m', m = m' + 1 := ⟨m - 1, by omega⟩
    unfold BIG at hl
    have hlt : i < C.length := by omega
    have hltu : i < (C.map Cr.u).length := by rw [List.length_map]; exact hlt
    have hltf : i < (C.map Cr.far).length := by rw [List.length_map]; exact hlt
    have h1 : (i : Int) < ((C.length : Nat) : Int) := by omega
    obtain ⟨c0, c1, c2, c3, c4, c5, c6, c7⟩ := st_cells hltu
    have c8 := intC_at hltf
    rw [List.getElem_map] at c0 c1 c2 c3 c4 c5 c6 c7 c8
    have step := ih (i + 1) m (hdStep h C[i]) (by omega) (by omega)
    have hget : mpGet [D.int .i64 C[i].u.y, D.int .i64 C[i].u.x, D.int .i64 C[i].u.d.t] (mpG h.seen) = some (bif hasG (glOf C[i].u) h.seen then some [D.bool true] else none) := mpGet_G (glOf C[i].u) h.seen
    rw [impl_hardest.l6_eq, List.drop_eq_getElem_cons hlt, List.foldl_cons, ← step]
    simp only [h1, Cod.encs_len, List.length_map, Int.natCast_nonneg, Int.toNat_natCast, decide_true, cond_true, c0, c1, c2, c3, c4, c5, c6, c7, Option.bind_some, hget, wrap_succ (show i ≤ LIM by unfold LIM; omega)]
    cases hh : hasG (glOf C[i].u) h.seen with
    | true =>
      simp only [cond_true, Option.getD_some, List.length_singleton, decide_true]
      have e : hdStep h C[i] = h := by
        unfold hdStep
        rw [hh]; rfl
      rw [e]
      rfl
    | false =>
      simp only [cond_false, Option.getD_none, List.length_singleton, decide_true, cond_true]
      show (Option.bind (some false) _) = _
      have hset : mpSet [D.int .i64 C[i].u.y, D.int .i64 C[i].u.x, D.int .i64 C[i].u.d.t] [D.bool true] (mpG h.seen) = some (mpG (h.seen ++ [glOf C[i].u])) := mpSet_G (glOf C[i].u) h.seen hh
      simp only [Option.bind_some, cond_false, hset, h1, Int.natCast_nonneg, Int.toNat_natCast, decide_true, cond_true, c8, ieq, cmp3_lt]
      unfold hdStep hdLt
      rw [hh]
      simp only [cond_false]
      rw [show ltG C[i].u.y C[i].u.x C[i].u.d.t (gO h.best).y (gO h.best).x (gO h.best).t = ltG (glOf C[i].u).y (glOf C[i].u).x (glOf C[i].u).t (gO h.best).y (gO h.best).x (gO h.best).t from rfl]
      by_cases e1 : C[i].far > h.most
      · simp only [e1, decide_true, cond_true, Bool.true_or]
        rfl
      · by_cases e2 : C[i].far = h.most
        · cases e3 : ltG (glOf C[i].u).y (glOf C[i].u).x (glOf C[i].u).t (gO h.best).y (gO h.best).x (gO h.best).t with
          | true =>
            simp only [e1, e2, decide_true, decide_false, cond_true, cond_false, Bool.false_or, Bool.true_and, Bool.or_true]
            try simp only [Int.lt_irrefl, gt_iff_lt, decide_false, cond_false, List.map_append, List.map_cons, List.map_nil]
            try rfl
          | false =>
            simp only [e1, e2, decide_true, decide_false, cond_true, cond_false, Bool.false_or, Bool.true_and, Bool.or_false]
            try simp only [Int.lt_irrefl, gt_iff_lt, decide_false, cond_false, List.map_append, List.map_cons, List.map_nil]
            try rfl
        · simp only [e1, e2, decide_true, decide_false, cond_true, cond_false, Bool.false_or, Bool.false_and]
          try rfl
def impl_hardest.stub : Stub
  | [.one (.str q), .agg [.int .i64 x, .int .i64 y, .int .i64 t, .int .i64 n, .int .i64 e, .int .i64 s, .int .i64 w, .int .i64 b]] => .gd (decide (q.size < LIM)) (.ret [.agg [.str (Sp.onS (Sp.hdB q ⟨x, y, ⟨t, n, e, s, w, b⟩⟩) q), .int .i64 (Sp.onI (Sp.hdB q ⟨x, y, ⟨t, n, e, s, w, b⟩⟩) x), .int .i64 (Sp.onI (Sp.hdB q ⟨x, y, ⟨t, n, e, s, w, b⟩⟩) y), .int .i64 (Sp.onI (Sp.hdB q ⟨x, y, ⟨t, n, e, s, w, b⟩⟩) t), .int .i64 (Sp.onI (Sp.hdB q ⟨x, y, ⟨t, n, e, s, w, b⟩⟩) n), .int .i64 (Sp.onI (Sp.hdB q ⟨x, y, ⟨t, n, e, s, w, b⟩⟩) e), .int .i64 (Sp.onI (Sp.hdB q ⟨x, y, ⟨t, n, e, s, w, b⟩⟩) s), .int .i64 (Sp.onI (Sp.hdB q ⟨x, y, ⟨t, n, e, s, w, b⟩⟩) w), .int .i64 (Sp.onI (Sp.hdB q ⟨x, y, ⟨t, n, e, s, w, b⟩⟩) b), .int .i64 (Sp.onI (Sp.hdB q ⟨x, y, ⟨t, n, e, s, w, b⟩⟩) (Sp.hdG q ⟨x, y, ⟨t, n, e, s, w, b⟩⟩).x), .int .i64 (Sp.onI (Sp.hdB q ⟨x, y, ⟨t, n, e, s, w, b⟩⟩) (Sp.hdG q ⟨x, y, ⟨t, n, e, s, w, b⟩⟩).y), .int .i64 (Sp.onI (Sp.hdB q ⟨x, y, ⟨t, n, e, s, w, b⟩⟩) (Sp.hdG q ⟨x, y, ⟨t, n, e, s, w, b⟩⟩).t)], .one (.int .i64 (Sp.onI (Sp.hdB q ⟨x, y, ⟨t, n, e, s, w, b⟩⟩) (Sp.hdM q ⟨x, y, ⟨t, n, e, s, w, b⟩⟩))), .one (.bool (Sp.hdB q ⟨x, y, ⟨t, n, e, s, w, b⟩⟩))])
  | _ => .fail
theorem impl_hardest.ok : StubOk Tryd.prog C0 45 impl_hardest.stub := by
  intro args res h
  unfold impl_hardest.stub at h
  split at h
  · rename_i q x y t n e s w b
    obtain ⟨hs, h0⟩ := gd_out h
    cases h0
    unfold LIM at hs
    obtain ⟨N, hN⟩ : ∃ N, BIG + 64 ≤ N := ⟨BIG + 64, Nat.le_refl _⟩
    refine impl_hardest.ev (n := N) ?_
    unfold impl_hardest.res
    have e1 : hdB q ⟨x, y, ⟨t, n, e, s, w, b⟩⟩ = (okSt q ⟨x, y, ⟨t, n, e, s, w, b⟩⟩ && decide (hdM q ⟨x, y, ⟨t, n, e, s, w, b⟩⟩ ≤ 60)) := rfl
    rw [hs, e1]
    cases ho : okSt q ⟨x, y, ⟨t, n, e, s, w, b⟩⟩ with
    | false => rfl
    | true =>
      have hlen := wyC_len ho
      have hb2 := hdAll_some (isFl (rws q)) ⟨x, y, ⟨t, n, e, s, w, b⟩⟩
      simp only [cond_true, usC, besC, rlsC, fasC, Cod.encs_len, List.length_map]
      have key := impl_hardest.l6_run (n := N) (q := q) (s := ⟨x, y, ⟨t, n, e, s, w, b⟩⟩) (C := wyC (isFl (rws q)) ⟨x, y, ⟨t, n, e, s, w, b⟩⟩) (l1 := stC.encs ((wyC (isFl (rws q)) ⟨x, y, ⟨t, n, e, s, w, b⟩⟩).map Cr.u)) (l2 := intC.encs ((wyC (isFl (rws q)) ⟨x, y, ⟨t, n, e, s, w, b⟩⟩).map Cr.bef)) (l3 := u8C.encs ((wyC (isFl (rws q)) ⟨x, y, ⟨t, n, e, s, w, b⟩⟩).map Cr.rl)) (l5 := plU ((wyC (isFl (rws q)) ⟨x, y, ⟨t, n, e, s, w, b⟩⟩).map Cr.u)) (s18 := ByteArray.mk #[]) (i19 := 0) (i20 := 0) (i21 := 0) (i22 := 0) (i23 := 0) (i24 := 0) (i25 := 0) (i26 := 0) (i27 := 0) (i28 := 0) (i29 := 0) (by omega) _ 0 N ⟨[], none, -1⟩ (Nat.zero_add _) (by omega)
      rw [List.drop_zero] at key
      refine Eq.trans key ?_
      unfold outH
      unfold hdAll at hb2
      rw [hb2]
      by_cases h6 : hdM q ⟨x, y, ⟨t, n, e, s, w, b⟩⟩ > 60
      · have h7 : ¬ hdM q ⟨x, y, ⟨t, n, e, s, w, b⟩⟩ ≤ 60 := by omega
        have h8 : (List.foldl hdStep ⟨[], none, -1⟩ (wyC (isFl (rws q)) ⟨x, y, ⟨t, n, e, s, w, b⟩⟩)).most > 60 := h6
        simp only [h7, h8, decide_true, decide_false, cond_true, Bool.and_false]
        rfl
      · have h7 : hdM q ⟨x, y, ⟨t, n, e, s, w, b⟩⟩ ≤ 60 := by omega
        have h8 : ¬ (List.foldl hdStep ⟨[], none, -1⟩ (wyC (isFl (rws q)) ⟨x, y, ⟨t, n, e, s, w, b⟩⟩)).most > 60 := h6
        simp only [h7, h8, decide_true, decide_false, cond_false, Bool.and_true]
        rfl
  · cases h
/-! impl_HardestGoal -/
/-! laws_FnExactHardestGoal -/
end Go.Proofs.EV.PL
set_option linter.unusedVariables false
set_option linter.unusedSimpArgs false
set_option maxHeartbeats 4000000
/-! Puzzles made by numbers. -/
namespace Go.Proofs.EV.PL
open Go Go.Proofs Go.Proofs.EV Sp
/-! spec_diOf -/
noncomputable def spec_diOf.cfg : Cfg := { C0 with keep := fun _ => none, nb := 0, M := tabM [], MM := tabB [] }
noncomputable def spec_diOf.res (n : Nat) (a0 : List (List D)) : Option (List Q) :=
  bif decide ((0 : Int) < (↑(List.length a0) : Int)) then Option.bind (Option.bind (some (cellD a0 (Int.toNat (0 : Int)) (0 : Nat))) (D.int? IntKind.i64)) fun (i1 : Int) => bif decide ((1 : Int) < (↑(List.length a0) : Int)) then Option.bind (Option.bind (some (cellD a0 (Int.toNat (1 : Int)) (0 : Nat))) (D.int? IntKind.i64)) fun (i2 : Int) => bif decide ((2 : Int) < (↑(List.length a0) : Int)) then Option.bind (Option.bind (some (cellD a0 (Int.toNat (2 : Int)) (0 : Nat))) (D.int? IntKind.i64)) fun (i3 : Int) => bif decide ((3 : Int) < (↑(List.length a0) : Int)) then Option.bind (Option.bind (some (cellD a0 (Int.toNat (3 : Int)) (0 : Nat))) (D.int? IntKind.i64)) fun (i4 : Int) => bif decide ((4 : Int) < (↑(List.length a0) : Int)) then Option.bind (Option.bind (some (cellD a0 (Int.toNat (4 : Int)) (0 : Nat))) (D.int? IntKind.i64)) fun (i5 : Int) => bif decide ((5 : Int) < (↑(List.length a0) : Int)) then Option.bind (Option.bind (some (cellD a0 (Int.toNat (5 : Int)) (0 : Nat))) (D.int? IntKind.i64)) fun (i6 : Int) => some [Q.agg [D.int IntKind.i64 i1, D.int IntKind.i64 i2, D.int IntKind.i64 i3, D.int IntKind.i64 i4, D.int IntKind.i64 i5, D.int IntKind.i64 i6]] else none else none else none else none else none else none
theorem spec_diOf.run (n : Nat) (a0 : List (List D)) :
    run1 spec_diOf.cfg [RK.agg [LK.int IntKind.i64, LK.int IntKind.i64, LK.int IntKind.i64, LK.int IntKind.i64, LK.int IntKind.i64, LK.int IntKind.i64]] n Tryd.f65 [Q.one (D.sl (1 : Nat) a0)] = spec_diOf.res n a0 := by kernel_rfl
theorem spec_diOf.ev {n : Nat} {a0 : List (List D)} {r : List Q} (h : spec_diOf.res n a0 = some r) : Snd Tryd.prog C0 65 [.one (.sl 1 a0)] r :=
  snd_ev (C := spec_diOf.cfg) cfg0 mix rfl rfl rfl rfl rfl .nil .nil rfl Tryd.func65 (by kernel_rfl) (by kernel_rfl) rfl ((spec_diOf.run n a0).trans h)

def spec_diOf.stub : Stub
  | [.one (.sl 1 es)] => .any (intC.decs es) fun l => .gd (decide (l.length = 6)) (.ret [.agg (dieC.enc (Sp.ofL l))])
  | _ => .fail
theorem spec_diOf.ok : StubOk Tryd.prog C0 65 spec_diOf.stub := by
  intro args res h
  unfold spec_diOf.stub at h
  split at h
  · obtain ⟨l, h1, h0⟩ := any_out h
    obtain ⟨rfl, hl⟩ := Cod.decs_inv h1
    obtain ⟨h2, h3⟩ := gd_out h0
    have h2 := of_decide_eq_true h2
    cases h3
    refine spec_diOf.ev (n := 0) ?_
    unfold spec_diOf.res
    match l, h2 with
    | [a, b, c, d, e, f], _ => rfl
  · cases h
/-! impl_MakePuzzle_1 -/
noncomputable def impl_MakePuzzle_1.cfg : Cfg := { C0 with keep := fun _ => none, nb := 1, M := tabM [], MM := tabB [] }
noncomputable def impl_MakePuzzle_1.res (n : Nat) (k : Int) (z : Int) : Option (List V × List Ob) :=
  bif !decide (k = (0 : Int)) then some ([V.one true (D.int IntKind.i64 (Int.tmod (Int.tmod (IntKind.wrap IntKind.i64 (IntKind.wrap IntKind.i64 (z * (149 : Int)) + (211 : Int))) (10007 : Int)) k))], [Ob.box [V.one true (D.int IntKind.i64 (Int.tmod (IntKind.wrap IntKind.i64 (IntKind.wrap IntKind.i64 (z * (149 : Int)) + (211 : Int))) (10007 : Int)))]]) else none
theorem impl_MakePuzzle_1.run (n : Nat) (k : Int) (z : Int) :
    (fun p : List V × List Ob => runB impl_MakePuzzle_1.cfg n Tryd.f68 p.1 p.2) ([V.one true (D.int IntKind.i64 k), V.rp (0 : Nat) (0 : Nat)], [Ob.box [V.one true (D.int IntKind.i64 z)]]) = impl_MakePuzzle_1.res n k z := by kernel_rfl
theorem impl_MakePuzzle_1.ev {n : Nat} {k : Int} {z : Int} {r : List V} {o : List Ob} (h : impl_MakePuzzle_1.res n k z = some (r, o)) : SndB Tryd.prog C0 68 [.one true (.int .i64 k), .rp 0 0] [.box [.one true (.int .i64 z)]] r o :=
  sndB_ev (C := impl_MakePuzzle_1.cfg) cfg0 mix rfl rfl rfl rfl rfl .nil .nil Tryd.func68 (by kernel_rfl) (by kernel_rfl) rfl ((impl_MakePuzzle_1.run n k z).trans h)

def impl_MakePuzzle_1.stub : StubB
  | [.one true (.int .i64 k), .rp 0 0], [.box [.one true (.int .i64 z)]] => .gd (Sp.inR z 0 10006) (.gd (Sp.inR k 1 100) (.ret ([.one true (.int .i64 (Sp.lcg z % k))], [.box [.one true (.int .i64 (Sp.lcg z))]])))
  | _, _ => .fail
theorem impl_MakePuzzle_1.ok : StubBOk Tryd.prog C0 68 impl_MakePuzzle_1.stub := by
  intro args objs res objs' h
  unfold impl_MakePuzzle_1.stub at h
  split at h
  · rename_i k z
    obtain ⟨h1, h0⟩ := gd_out h
    obtain ⟨h2, h0⟩ := gd_out h0
    cases h0
    unfold inR at h1 h2
    simp only [Bool.and_eq_true, decide_eq_true_eq] at h1 h2
    refine impl_MakePuzzle_1.ev (n := 0) ?_
    unfold impl_MakePuzzle_1.res
    have hk : ¬ k = 0 := by omega
    have hz := lcg_in z
    rw [lcg_eq h1.1 (by omega), Int.tmod_eq_emod_of_nonneg (b := k) hz.1, decide_eq_false hk]
    rfl
  · cases h
/-! spec_MakePuzzle -/
noncomputable def spec_MakePuzzle.cfg : Cfg := { C0 with keep := fun | 6 => some [0, 1, 6, 8, 9, 10] | 17 => some [0, 6, 8, 9, 11, 12, 13] | 21 => some [0, 6, 8, 9, 11, 12, 13, 14] | _ => none, nb := 0, M := tabM [(64, spec_l1In.stub), (65, spec_diOf.stub), (66, spec_diRoll.stub), (48, spec_boText.stub), (43, spec_puHardest.stub)], MM := tabB [] }
noncomputable def spec_MakePuzzle.l6 (n : Nat) (m6 : Nat) (i0 : Int) (i1 : Int) (i2 : Int) (i3 : Int) (s4 : ByteArray) (i5 : Int) (i6 : Int) (i7 : Int) (i8 : Int) (i9 : Int) (i10 : Int) (i11 : Int) (i12 : Int) (i13 : Int) (i14 : Int) (i15 : Int) (i16 : Int) (i17 : Int) (l18 : List (List D)) : Option (List Q) :=
  loopAt spec_MakePuzzle.cfg [RK.agg [LK.str, LK.int IntKind.i64, LK.int IntKind.i64, LK.int IntKind.i64, LK.int IntKind.i64, LK.int IntKind.i64, LK.int IntKind.i64, LK.int IntKind.i64, LK.int IntKind.i64, LK.int IntKind.i64, LK.int IntKind.i64, LK.int IntKind.i64], RK.one LK.bool] n Tryd.f35 [1, 1, 1, 1, 0, 1, 0] [] m6 (St.mk [V.one true (D.int IntKind.i64 i0), V.one true (D.int IntKind.i64 i1), V.undef, V.undef, V.undef, V.undef, V.rp (0 : Nat) (0 : Nat), V.undef, V.rp (1 : Nat) (0 : Nat), V.one true (D.int IntKind.i64 i2), V.one true (D.int IntKind.i64 i3), V.undef, V.undef, V.undef, V.undef, V.undef, V.undef, V.undef, V.undef, V.undef, V.undef, V.undef, V.undef, V.undef, V.undef, V.undef, V.undef, V.undef, V.undef, V.undef, V.undef, V.undef, V.undef, V.undef, V.undef, V.undef, V.undef, V.undef, V.undef, V.undef, V.undef, V.undef, V.undef, V.undef, V.undef, V.undef, V.undef, V.undef, V.undef, V.undef, V.undef, V.undef, V.undef, V.undef, V.undef, V.undef, V.undef, V.undef, V.undef, V.undef, V.undef, V.undef, V.undef, V.undef, V.undef, V.undef, V.undef, V.undef, V.undef, V.undef, V.undef, V.undef, V.undef, V.undef, V.undef, V.undef, V.undef, V.undef, V.undef, V.undef, V.undef, V.undef, V.undef, V.undef, V.undef, V.undef, V.undef, V.undef, V.undef, V.undef, V.undef, V.undef, V.undef, V.undef, V.undef, V.undef, V.undef, V.undef, V.undef, V.undef, V.undef, V.undef, V.undef, V.undef, V.undef, V.undef, V.undef, V.undef, V.undef] [Ob.box [V.one true (D.str s4), V.one true (D.int IntKind.i64 i5), V.one true (D.int IntKind.i64 i6), V.one true (D.int IntKind.i64 i7), V.one true (D.int IntKind.i64 i8), V.one true (D.int IntKind.i64 i9), V.one true (D.int IntKind.i64 i10), V.one true (D.int IntKind.i64 i11), V.one true (D.int IntKind.i64 i12), V.one true (D.int IntKind.i64 i13), V.one true (D.int IntKind.i64 i14), V.one true (D.int IntKind.i64 i15)], Ob.box [V.one true (D.int IntKind.i64 i16), V.one true (D.int IntKind.i64 i17), V.rw (2 : Nat)], Ob.row false (1 : Nat) l18])
noncomputable def spec_MakePuzzle.l17 (n : Nat) (m17 : Nat) (i0 : Int) (i1 : Int) (i2 : Int) (i3 : Int) (s4 : ByteArray) (i5 : Int) (i6 : Int) (i7 : Int) (i8 : Int) (i9 : Int) (i10 : Int) (i11 : Int) (i12 : Int) (i13 : Int) (i14 : Int) (i15 : Int) (i16 : Int) (i17 : Int) (l18 : List (List D)) (i19 : Int) (i20 : Int) (i21 : Int) (i22 : Int) (i23 : Int) (i24 : Int) : Option (List Q) :=
  loopAt spec_MakePuzzle.cfg [RK.agg [LK.str, LK.int IntKind.i64, LK.int IntKind.i64, LK.int IntKind.i64, LK.int IntKind.i64, LK.int IntKind.i64, LK.int IntKind.i64, LK.int IntKind.i64, LK.int IntKind.i64, LK.int IntKind.i64, LK.int IntKind.i64, LK.int IntKind.i64], RK.one LK.bool] n Tryd.f35 [1, 1, 1, 1, 1, 1, 1, 1, 1, 0, 1, 0] [] m17 (St.mk [V.one true (D.int IntKind.i64 i0), V.undef, V.undef, V.undef, V.undef, V.undef, V.rp (0 : Nat) (0 : Nat), V.undef, V.rp (1 : Nat) (0 : Nat), V.one true (D.int IntKind.i64 i1), V.undef, V.one true (D.int IntKind.i64 i2), V.rp (3 : Nat) (0 : Nat), V.one true (D.int IntKind.i64 i3), V.undef, V.undef, V.undef, V.undef, V.undef, V.undef, V.undef, V.undef, V.undef, V.undef, V.undef, V.undef, V.undef, V.undef, V.undef, V.undef, V.undef, V.undef, V.undef, V.undef, V.undef, V.undef, V.undef, V.undef, V.undef, V.undef, V.undef, V.undef, V.undef, V.undef, V.undef, V.undef, V.undef, V.undef, V.undef, V.undef, V.undef, V.undef, V.undef, V.undef, V.undef, V.undef, V.undef, V.undef, V.undef, V.undef, V.undef, V.undef, V.undef, V.undef, V.undef, V.undef, V.undef, V.undef, V.undef, V.undef, V.undef, V.undef, V.undef, V.undef, V.undef, V.undef, V.undef, V.undef, V.undef, V.undef, V.undef, V.undef, V.undef, V.undef, V.undef, V.undef, V.undef, V.undef, V.undef, V.undef, V.undef, V.undef, V.undef, V.undef, V.undef, V.undef, V.undef, V.undef, V.undef, V.undef, V.undef, V.undef, V.undef, V.undef, V.undef, V.undef, V.undef, V.undef, V.undef] [Ob.box [V.one true (D.str s4), V.one true (D.int IntKind.i64 i5), V.one true (D.int IntKind.i64 i6), V.one true (D.int IntKind.i64 i7), V.one true (D.int IntKind.i64 i8), V.one true (D.int IntKind.i64 i9), V.one true (D.int IntKind.i64 i10), V.one true (D.int IntKind.i64 i11), V.one true (D.int IntKind.i64 i12), V.one true (D.int IntKind.i64 i13), V.one true (D.int IntKind.i64 i14), V.one true (D.int IntKind.i64 i15)], Ob.box [V.one true (D.int IntKind.i64 i16), V.one true (D.int IntKind.i64 i17), V.rw (2 : Nat)], Ob.row false (1 : Nat) l18, Ob.box [V.one true (D.int IntKind.i64 i19), V.one true (D.int IntKind.i64 i20), V.one true (D.int IntKind.i64 i21), V.one true (D.int IntKind.i64 i22), V.one true (D.int IntKind.i64 i23), V.one true (D.int IntKind.i64 i24)]])
noncomputable def spec_MakePuzzle.l21 (n : Nat) (m17 : Nat) (m21 : Nat) (i0 : Int) (i1 : Int) (i2 : Int) (i3 : Int) (i4 : Int) (s5 : ByteArray) (i6 : Int) (i7 : Int) (i8 : Int) (i9 : Int) (i10 : Int) (i11 : Int) (i12 : Int) (i13 : Int) (i14 : Int) (i15 : Int) (i16 : Int) (i17 : Int) (i18 : Int) (l19 : List (List D)) (i20 : Int) (i21 : Int) (i22 : Int) (i23 : Int) (i24 : Int) (i25 : Int) : Option (List Q) :=
  loopAt spec_MakePuzzle.cfg [RK.agg [LK.str, LK.int IntKind.i64, LK.int IntKind.i64, LK.int IntKind.i64, LK.int IntKind.i64, LK.int IntKind.i64, LK.int IntKind.i64, LK.int IntKind.i64, LK.int IntKind.i64, LK.int IntKind.i64, LK.int IntKind.i64, LK.int IntKind.i64], RK.one LK.bool] n Tryd.f35 [1, 1, 1, 1, 1, 1, 1, 1, 1, 0, 1, 0, 0, 1, 0, 0, 1, 1, 0] [m17] m21 (St.mk [V.one true (D.int IntKind.i64 i0), V.undef, V.undef, V.undef, V.undef, V.undef, V.rp (0 : Nat) (0 : Nat), V.undef, V.rp (1 : Nat) (0 : Nat), V.one true (D.int IntKind.i64 i1), V.undef, V.one true (D.int IntKind.i64 i2), V.rp (3 : Nat) (0 : Nat), V.one true (D.int IntKind.i64 i3), V.one true (D.int IntKind.i64 i4), V.undef, V.undef, V.undef, V.undef, V.undef, V.undef, V.undef, V.undef, V.undef, V.undef, V.undef, V.undef, V.undef, V.undef, V.undef, V.undef, V.undef, V.undef, V.undef, V.undef, V.undef, V.undef, V.undef, V.undef, V.undef, V.undef, V.undef, V.undef, V.undef, V.undef, V.undef, V.undef, V.undef, V.undef, V.undef, V.undef, V.undef, V.undef, V.undef, V.undef, V.undef, V.undef, V.undef, V.undef, V.undef, V.undef, V.undef, V.undef, V.undef, V.undef, V.undef, V.undef, V.undef, V.undef, V.undef, V.undef, V.undef, V.undef, V.undef, V.undef, V.undef, V.undef, V.undef, V.undef, V.undef, V.undef, V.undef, V.undef, V.undef, V.undef, V.undef, V.undef, V.undef, V.undef, V.undef, V.undef, V.undef, V.undef, V.undef, V.undef, V.undef, V.undef, V.undef, V.undef, V.undef, V.undef, V.undef, V.undef, V.undef, V.undef, V.undef, V.undef, V.undef, V.undef] [Ob.box [V.one true (D.str s5), V.one true (D.int IntKind.i64 i6), V.one true (D.int IntKind.i64 i7), V.one true (D.int IntKind.i64 i8), V.one true (D.int IntKind.i64 i9), V.one true (D.int IntKind.i64 i10), V.one true (D.int IntKind.i64 i11), V.one true (D.int IntKind.i64 i12), V.one true (D.int IntKind.i64 i13), V.one true (D.int IntKind.i64 i14), V.one true (D.int IntKind.i64 i15), V.one true (D.int IntKind.i64 i16)], Ob.box [V.one true (D.int IntKind.i64 i17), V.one true (D.int IntKind.i64 i18), V.rw (2 : Nat)], Ob.row false (1 : Nat) l19, Ob.box [V.one true (D.int IntKind.i64 i20), V.one true (D.int IntKind.i64 i21), V.one true (D.int IntKind.i64 i22), V.one true (D.int IntKind.i64 i23), V.one true (D.int IntKind.i64 i24), V.one true (D.int IntKind.i64 i25)]])
theorem spec_MakePuzzle.l6_eq (n : Nat) (m6 : Nat) (i0 : Int) (i1 : Int) (i2 : Int) (i3 : Int) (s4 : ByteArray) (i5 : Int) (i6 : Int) (i7 : Int) (i8 : Int) (i9 : Int) (i10 : Int) (i11 : Int) (i12 : Int) (i13 : Int) (i14 : Int) (i15 : Int) (i16 : Int) (i17 : Int) (l18 : List (List D)) :
    spec_MakePuzzle.l6 n (m6 + 1) i0 i1 i2 i3 s4 i5 i6 i7 i8 i9 i10 i11 i12 i13 i14 i15 i16 i17 l18 = bif decide (i3 < IntKind.wrap IntKind.i64 (i0 * i1)) then bif Int.tmod (Int.tmod (IntKind.wrap IntKind.i64 (IntKind.wrap IntKind.i64 (i2 * (149 : Int)) + (211 : Int))) (10007 : Int)) (4 : Int) == (0 : Int) then bif decide (List.length l18 + (1 : Nat) ≤ (17179869184 : Nat)) then spec_MakePuzzle.l6 n m6 i0 i1 (Int.tmod (IntKind.wrap IntKind.i64 (IntKind.wrap IntKind.i64 (i2 * (149 : Int)) + (211 : Int))) (10007 : Int)) (IntKind.wrap IntKind.i64 (i3 + (1 : Int))) s4 i5 i6 i7 i8 i9 i10 i11 i12 i13 i14 i15 i16 i17 (l18 ++ [[D.int IntKind.u8 (35 : Int)]]) else none else bif decide (List.length l18 + (1 : Nat) ≤ (17179869184 : Nat)) then spec_MakePuzzle.l6 n m6 i0 i1 (Int.tmod (IntKind.wrap IntKind.i64 (IntKind.wrap IntKind.i64 (i2 * (149 : Int)) + (211 : Int))) (10007 : Int)) (IntKind.wrap IntKind.i64 (i3 + (1 : Int))) s4 i5 i6 i7 i8 i9 i10 i11 i12 i13 i14 i15 i16 i17 (l18 ++ [[D.int IntKind.u8 (46 : Int)]]) else none else bif !decide ((↑(List.length l18) : Int) = (0 : Int)) then bif decide ((0 : Int) ≤ Int.tmod (Int.tmod (IntKind.wrap IntKind.i64 (IntKind.wrap IntKind.i64 (i2 * (149 : Int)) + (211 : Int))) (10007 : Int)) (↑(List.length l18) : Int)) then bif decide (Int.tmod (Int.tmod (IntKind.wrap IntKind.i64 (IntKind.wrap IntKind.i64 (i2 * (149 : Int)) + (211 : Int))) (10007 : Int)) (↑(List.length l18) : Int) < (↑(List.length l18) : Int)) then spec_MakePuzzle.l17 n n i0 (Int.tmod (IntKind.wrap IntKind.i64 (IntKind.wrap IntKind.i64 (i2 * (149 : Int)) + (211 : Int))) (10007 : Int)) (Int.tmod (Int.tmod (IntKind.wrap IntKind.i64 (IntKind.wrap IntKind.i64 (i2 * (149 : Int)) + (211 : Int))) (10007 : Int)) (↑(List.length l18) : Int)) (0 : Int) s4 i5 i6 i7 i8 i9 i10 i11 i12 i13 i14 i15 i16 i17 (setRow (1 : Nat) l18 (Int.toNat (Int.tmod (Int.tmod (IntKind.wrap IntKind.i64 (IntKind.wrap IntKind.i64 (i2 * (149 : Int)) + (211 : Int))) (10007 : Int)) (↑(List.length l18) : Int))) (0 : Nat) [D.int IntKind.u8 (46 : Int)]) (Die.t (ofL [(1 : Int), (2 : Int), (3 : Int), (5 : Int), (4 : Int), (6 : Int)])) (Die.n (ofL [(1 : Int), (2 : Int), (3 : Int), (5 : Int), (4 : Int), (6 : Int)])) (Die.e (ofL [(1 : Int), (2 : Int), (3 : Int), (5 : Int), (4 : Int), (6 : Int)])) (Die.s (ofL [(1 : Int), (2 : Int), (3 : Int), (5 : Int), (4 : Int), (6 : Int)])) (Die.w (ofL [(1 : Int), (2 : Int), (3 : Int), (5 : Int), (4 : Int), (6 : Int)])) (Die.b (ofL [(1 : Int), (2 : Int), (3 : Int), (5 : Int), (4 : Int), (6 : Int)])) else none else none else none := by kernel_rfl
theorem spec_MakePuzzle.l17_eq (n : Nat) (m17 : Nat) (i0 : Int) (i1 : Int) (i2 : Int) (i3 : Int) (s4 : ByteArray) (i5 : Int) (i6 : Int) (i7 : Int) (i8 : Int) (i9 : Int) (i10 : Int) (i11 : Int) (i12 : Int) (i13 : Int) (i14 : Int) (i15 : Int) (i16 : Int) (i17 : Int) (l18 : List (List D)) (i19 : Int) (i20 : Int) (i21 : Int) (i22 : Int) (i23 : Int) (i24 : Int) :
    spec_MakePuzzle.l17 n (m17 + 1) i0 i1 i2 i3 s4 i5 i6 i7 i8 i9 i10 i11 i12 i13 i14 i15 i16 i17 l18 i19 i20 i21 i22 i23 i24 = bif decide (i3 < (2 : Int)) then spec_MakePuzzle.l21 n m17 n i0 (Int.tmod (IntKind.wrap IntKind.i64 (IntKind.wrap IntKind.i64 (i1 * (149 : Int)) + (211 : Int))) (10007 : Int)) i2 i3 (Int.tmod (Int.tmod (IntKind.wrap IntKind.i64 (IntKind.wrap IntKind.i64 (i1 * (149 : Int)) + (211 : Int))) (10007 : Int)) (4 : Int)) s4 i5 i6 i7 i8 i9 i10 i11 i12 i13 i14 i15 i16 i17 l18 i19 i20 i21 i22 i23 i24 else Option.bind (Cod.decs u8C l18) fun (l1 : List UInt8) => bif inR i16 (0 : Int) (7 : Int) then bif inR i17 (0 : Int) (7 : Int) then bif decide (List.length l1 = Int.toNat i16 * Int.toNat i17) then bif !decide (i0 = (0 : Int)) then bif !decide (i0 = (0 : Int)) then bif okSt (mkB (jn (chunk (Int.toNat i16) (Int.toNat i17) l1))) (Sta.mk (Int.tmod i2 i0) (IntKind.wrap IntKind.i64 (Int.tdiv i2 i0)) (Die.mk i19 i20 i21 i22 i23 i24)) then bif decide (hdM (mkB (jn (chunk (Int.toNat i16) (Int.toNat i17) l1))) (Sta.mk (Int.tmod i2 i0) (IntKind.wrap IntKind.i64 (Int.tdiv i2 i0)) (Die.mk i19 i20 i21 i22 i23 i24)) > (60 : Int)) then some [Q.agg [D.str (ByteArray.mk #[]), D.int IntKind.i64 (0 : Int), D.int IntKind.i64 (0 : Int), D.int IntKind.i64 (0 : Int), D.int IntKind.i64 (0 : Int), D.int IntKind.i64 (0 : Int), D.int IntKind.i64 (0 : Int), D.int IntKind.i64 (0 : Int), D.int IntKind.i64 (0 : Int), D.int IntKind.i64 (0 : Int), D.int IntKind.i64 (0 : Int), D.int IntKind.i64 (0 : Int)], Q.one (D.bool false)] else some [Q.agg [D.str (mkB (jn (chunk (Int.toNat i16) (Int.toNat i17) l1))), D.int IntKind.i64 (Int.tmod i2 i0), D.int IntKind.i64 (IntKind.wrap IntKind.i64 (Int.tdiv i2 i0)), D.int IntKind.i64 i19, D.int IntKind.i64 i20, D.int IntKind.i64 i21, D.int IntKind.i64 i22, D.int IntKind.i64 i23, D.int IntKind.i64 i24, D.int IntKind.i64 (Gl.x (hdG (mkB (jn (chunk (Int.toNat i16) (Int.toNat i17) l1))) (Sta.mk (Int.tmod i2 i0) (IntKind.wrap IntKind.i64 (Int.tdiv i2 i0)) (Die.mk i19 i20 i21 i22 i23 i24)))), D.int IntKind.i64 (Gl.y (hdG (mkB (jn (chunk (Int.toNat i16) (Int.toNat i17) l1))) (Sta.mk (Int.tmod i2 i0) (IntKind.wrap IntKind.i64 (Int.tdiv i2 i0)) (Die.mk i19 i20 i21 i22 i23 i24)))), D.int IntKind.i64 (Gl.t (hdG (mkB (jn (chunk (Int.toNat i16) (Int.toNat i17) l1))) (Sta.mk (Int.tmod i2 i0) (IntKind.wrap IntKind.i64 (Int.tdiv i2 i0)) (Die.mk i19 i20 i21 i22 i23 i24))))], Q.one (D.bool true)] else none else none else none else none else none else none := by kernel_rfl
theorem spec_MakePuzzle.l21_eq (n : Nat) (m17 : Nat) (m21 : Nat) (i0 : Int) (i1 : Int) (i2 : Int) (i3 : Int) (i4 : Int) (s5 : ByteArray) (i6 : Int) (i7 : Int) (i8 : Int) (i9 : Int) (i10 : Int) (i11 : Int) (i12 : Int) (i13 : Int) (i14 : Int) (i15 : Int) (i16 : Int) (i17 : Int) (i18 : Int) (l19 : List (List D)) (i20 : Int) (i21 : Int) (i22 : Int) (i23 : Int) (i24 : Int) (i25 : Int) :
    spec_MakePuzzle.l21 n m17 (m21 + 1) i0 i1 i2 i3 i4 s5 i6 i7 i8 i9 i10 i11 i12 i13 i14 i15 i16 i17 i18 l19 i20 i21 i22 i23 i24 i25 = bif decide (i4 > (0 : Int)) then spec_MakePuzzle.l21 n m17 m21 i0 i1 i2 i3 (IntKind.wrap IntKind.i64 (i4 - (1 : Int))) s5 i6 i7 i8 i9 i10 i11 i12 i13 i14 i15 i16 i17 i18 l19 (Die.t (roll (Die.mk i20 i21 i22 i23 i24 i25) i3)) (Die.n (roll (Die.mk i20 i21 i22 i23 i24 i25) i3)) (Die.e (roll (Die.mk i20 i21 i22 i23 i24 i25) i3)) (Die.s (roll (Die.mk i20 i21 i22 i23 i24 i25) i3)) (Die.w (roll (Die.mk i20 i21 i22 i23 i24 i25) i3)) (Die.b (roll (Die.mk i20 i21 i22 i23 i24 i25) i3)) else spec_MakePuzzle.l17 n m17 i0 i1 i2 (IntKind.wrap IntKind.i64 (i3 + (1 : Int))) s5 i6 i7 i8 i9 i10 i11 i12 i13 i14 i15 i16 i17 i18 l19 i20 i21 i22 i23 i24 i25 := by kernel_rfl
noncomputable def spec_MakePuzzle.res (n : Nat) (a0 : Int) (a1 : Int) (a2 : Int) : Option (List Q) :=
  bif !inR a0 (2 : Int) (5 : Int) then some [Q.agg [D.str (ByteArray.mk #[]), D.int IntKind.i64 (0 : Int), D.int IntKind.i64 (0 : Int), D.int IntKind.i64 (0 : Int), D.int IntKind.i64 (0 : Int), D.int IntKind.i64 (0 : Int), D.int IntKind.i64 (0 : Int), D.int IntKind.i64 (0 : Int), D.int IntKind.i64 (0 : Int), D.int IntKind.i64 (0 : Int), D.int IntKind.i64 (0 : Int), D.int IntKind.i64 (0 : Int)], Q.one (D.bool false)] else bif !inR a1 (2 : Int) (5 : Int) then some [Q.agg [D.str (ByteArray.mk #[]), D.int IntKind.i64 (0 : Int), D.int IntKind.i64 (0 : Int), D.int IntKind.i64 (0 : Int), D.int IntKind.i64 (0 : Int), D.int IntKind.i64 (0 : Int), D.int IntKind.i64 (0 : Int), D.int IntKind.i64 (0 : Int), D.int IntKind.i64 (0 : Int), D.int IntKind.i64 (0 : Int), D.int IntKind.i64 (0 : Int), D.int IntKind.i64 (0 : Int)], Q.one (D.bool false)] else bif !inR a2 (0 : Int) (9999 : Int) then some [Q.agg [D.str (ByteArray.mk #[]), D.int IntKind.i64 (0 : Int), D.int IntKind.i64 (0 : Int), D.int IntKind.i64 (0 : Int), D.int IntKind.i64 (0 : Int), D.int IntKind.i64 (0 : Int), D.int IntKind.i64 (0 : Int), D.int IntKind.i64 (0 : Int), D.int IntKind.i64 (0 : Int), D.int IntKind.i64 (0 : Int), D.int IntKind.i64 (0 : Int), D.int IntKind.i64 (0 : Int)], Q.one (D.bool false)] else spec_MakePuzzle.l6 n n a0 a1 a2 (0 : Int) (ByteArray.mk #[]) (0 : Int) (0 : Int) (0 : Int) (0 : Int) (0 : Int) (0 : Int) (0 : Int) (0 : Int) (0 : Int) (0 : Int) (0 : Int) a0 a1 []
theorem spec_MakePuzzle.run (n : Nat) (a0 : Int) (a1 : Int) (a2 : Int) :
    run1 spec_MakePuzzle.cfg [RK.agg [LK.str, LK.int IntKind.i64, LK.int IntKind.i64, LK.int IntKind.i64, LK.int IntKind.i64, LK.int IntKind.i64, LK.int IntKind.i64, LK.int IntKind.i64, LK.int IntKind.i64, LK.int IntKind.i64, LK.int IntKind.i64, LK.int IntKind.i64], RK.one LK.bool] n Tryd.f35 [Q.one (D.int IntKind.i64 a0), Q.one (D.int IntKind.i64 a1), Q.one (D.int IntKind.i64 a2)] = spec_MakePuzzle.res n a0 a1 a2 := by kernel_rfl
theorem spec_MakePuzzle.ev {n : Nat} {a0 : Int} {a1 : Int} {a2 : Int} {r : List Q} (h : spec_MakePuzzle.res n a0 a1 a2 = some r) : Snd Tryd.prog C0 35 [.one (.int .i64 a0), .one (.int .i64 a1), .one (.int .i64 a2)] r :=
  snd_ev (C := spec_MakePuzzle.cfg) cfg0 mix rfl rfl rfl rfl rfl (.cons spec_l1In.ok (.cons spec_diOf.ok (.cons spec_diRoll.ok (.cons spec_boText.ok (.cons spec_puHardest.ok .nil))))) .nil rfl Tryd.func35 (by kernel_rfl) (by kernel_rfl) rfl ((spec_MakePuzzle.run n a0 a1 a2).trans h)

theorem rolls_down {k : Nat} (h : k ≤ 10) : IntKind.wrap .i64 (((k + 1 : Nat) : Int) - 1) = (k : Int) := by
  rw [wrap_in (by omega) (by omega)]; omega
section
variable {n : Nat} {s4 : ByteArray} {i5 i6 i7 i8 i9 i10 i11 i12 i13 i14 i15 i16 i17 : Int}
theorem spec_MakePuzzle.l21_run {m17 : Nat} {i0 i1 i2 c : Int} {l18 : List (List D)} : ∀ (k m : Nat) (d : Die), k ≤ 10 →
    spec_MakePuzzle.l21 n m17 (m + 1 + k) i0 i1 i2 c (k : Int) s4 i5 i6 i7 i8 i9 i10 i11 i12 i13 i14 i15 i16 i17 l18 d.t d.n d.e d.s d.w d.b = spec_MakePuzzle.l17 n m17 i0 i1 i2 (IntKind.wrap .i64 (c + 1)) s4 i5 i6 i7 i8 i9 i10 i11 i12 i13 i14 i15 i16 i17 l18 (rollN c k d).t (rollN c k d).n (rollN c k d).e (rollN c k d).s (rollN c k d).w (rollN c k d).b := by
  intro k
  induction k with
  | zero =>
    intro m d _
    have h1 : ¬ ((0 : Nat) : Int) > 0 := by omega
    rw [Nat.add_zero, spec_MakePuzzle.l21_eq, rollN]
    simp -implicitDefEqProofs only [h1, decide_false, cond_false]
  | succ k ih =>
    intro m d hk
    have h1 : ((k + 1 : Nat) : Int) > 0 := by omega
    rw [show m + 1 + (k + 1) = (m + 1 + k) + 1 by omega, spec_MakePuzzle.l21_eq, rollN, ← ih m (roll d c) (by omega)]
    simp -implicitDefEqProofs only [h1, decide_true, cond_true, rolls_down (show k ≤ 10 by omega), Die.eta]
theorem spec_MakePuzzle.l6_run {i0 i1 : Int} {N : Nat} (hN : IntKind.wrap .i64 (i0 * i1) = (N : Int)) (hl : N ≤ 100) : ∀ (d k m : Nat) (z : Int) (cs : List UInt8), k + d = N → cs.length = k → 0 ≤ z → z < 10007 →
    spec_MakePuzzle.l6 n (m + d) i0 i1 z (k : Int) s4 i5 i6 i7 i8 i9 i10 i11 i12 i13 i14 i15 i16 i17 (u8C.encs cs) = spec_MakePuzzle.l6 n m i0 i1 (lcgN d z) (N : Int) s4 i5 i6 i7 i8 i9 i10 i11 i12 i13 i14 i15 i16 i17 (u8C.encs (cs ++ mkCs d z)) := by
  intro d
  induction d with
  | zero =>
    intro k m z cs hk hc h0 h1
    obtain rfl : k = N := by omega
    rw [Nat.add_zero, lcgN, mkCs, List.append_nil]
  | succ d ih =>
    intro k m z cs hk hc h0 h1
    have g1 : (k : Int) < (N : Int) := by omega
    have g2 : cs.length + 1 ≤ 17179869184 := by omega
    have hz := lcg_in z
    have g3 : Int.tmod (lcg z) 4 = lcg z % 4 := Int.tmod_eq_emod_of_nonneg hz.1
    have e35 : u8C.encs cs ++ [[D.int .u8 35]] = u8C.encs (cs ++ [35]) := u8C_snoc cs 35
    have e46 : u8C.encs cs ++ [[D.int .u8 46]] = u8C.encs (cs ++ [46]) := u8C_snoc cs 46
    have step := fun c => ih (k + 1) m (lcg z) (cs ++ [c]) (by omega) (by simp [hc]) hz.1 hz.2
    rw [show m + (d + 1) = (m + d) + 1 by omega, spec_MakePuzzle.l6_eq, lcgN, mkCs]
    simp -implicitDefEqProofs only [hN, g1, g2, g3, Cod.encs_len, lcg_eq h0 h1, decide_true, cond_true, e35, e46, wrap_succ (show k ≤ LIM by unfold LIM; omega)]
    rw [show cs ++ sgnZ z :: mkCs d (lcg z) = (cs ++ [sgnZ z]) ++ mkCs d (lcg z) by simp]
    unfold sgnZ
    cases lcg z % 4 == 0 with
    | false =>
      simp -implicitDefEqProofs only [cond_false]
      exact step 46
    | true =>
      simp -implicitDefEqProofs only [cond_true]
      exact step 35
theorem spec_MakePuzzle.l17_step {i0 i2 z c : Int} {l18 : List (List D)} (hn : 10 ≤ n) (hz0 : 0 ≤ z) (hz1 : z < 10007) (hc : c < 2) (m : Nat) (d : Die) :
    spec_MakePuzzle.l17 n (m + 1) i0 z i2 c s4 i5 i6 i7 i8 i9 i10 i11 i12 i13 i14 i15 i16 i17 l18 d.t d.n d.e d.s d.w d.b = spec_MakePuzzle.l17 n m i0 (lcg z) i2 (IntKind.wrap .i64 (c + 1)) s4 i5 i6 i7 i8 i9 i10 i11 i12 i13 i14 i15 i16 i17 l18 (rollN c (lcg z % 4).toNat d).t (rollN c (lcg z % 4).toNat d).n (rollN c (lcg z % 4).toNat d).e (rollN c (lcg z % 4).toNat d).s (rollN c (lcg z % 4).toNat d).w (rollN c (lcg z % 4).toNat d).b := by
  have hz := lcg_in z
  have g3 : Int.tmod (lcg z) 4 = lcg z % 4 := Int.tmod_eq_emod_of_nonneg hz.1
  obtain ⟨k, hk⟩ : ∃ k : Nat, (k : Int) = lcg z % 4 := ⟨(lcg z % 4).toNat, by omega⟩
  obtain ⟨M, hM⟩ : ∃ M, n = M + 1 + k := ⟨n - 1 - k, by omega⟩
  have key := spec_MakePuzzle.l21_run (n := n) (s4 := s4) (i5 := i5) (i6 := i6) (i7 := i7) (i8 := i8) (i9 := i9) (i10 := i10) (i11 := i11) (i12 := i12) (i13 := i13) (i14 := i14) (i15 := i15) (i16 := i16) (i17 := i17) (m17 := m) (i0 := i0) (i1 := lcg z) (i2 := i2) (c := c) (l18 := l18) k M d (by omega)
  rw [← hM] at key
  rw [spec_MakePuzzle.l17_eq]
  simp -implicitDefEqProofs only [hc, decide_true, cond_true, lcg_eq hz0 hz1, g3, ← hk, Int.toNat_natCast]
  exact key
end
def spec_MakePuzzle.stub : Stub
  | [.one (.int .i64 w), .one (.int .i64 h), .one (.int .i64 z)] => .ret [.agg (Sp.mzP w h z), .one (.bool (Sp.mzB w h z))]
  | _ => .fail
theorem mz_wh {w h : Int} (hw : inR w 2 5 = true) (hh : inR h 2 5 = true) : (2 ≤ w ∧ w ≤ 5) ∧ (2 ≤ h ∧ h ≤ 5) ∧ IntKind.wrap .i64 (w * h) = ((w.toNat * h.toNat : Nat) : Int) ∧ w * h = ((w.toNat * h.toNat : Nat) : Int) ∧ w.toNat * h.toNat ≤ 25 ∧ 4 ≤ w.toNat * h.toNat := by
  unfold inR at hw hh
  simp only [Bool.and_eq_true, decide_eq_true_eq] at hw hh
  have hm : w.toNat * h.toNat ≤ 5 * 5 := Nat.mul_le_mul (by omega) (by omega)
  have hm2 : 2 * 2 ≤ w.toNat * h.toNat := Nat.mul_le_mul (by omega) (by omega)
  have e : w * h = ((w.toNat * h.toNat : Nat) : Int) := by rw [Int.natCast_mul, Int.toNat_of_nonneg (by omega), Int.toNat_of_nonneg (by omega)]
  exact ⟨hw, hh, by rw [e, wrap_in (by omega) (by omega)], e, by omega, by omega⟩
theorem spec_MakePuzzle.ok : StubOk Tryd.prog C0 35 spec_MakePuzzle.stub := by
  intro args res h
  unfold spec_MakePuzzle.stub at h
  split at h
  · rename_i w h z
    cases h
    obtain ⟨N, hN⟩ : ∃ N, 100 ≤ N := ⟨100, Nat.le_refl _⟩
    refine spec_MakePuzzle.ev (n := N) ?_
    unfold spec_MakePuzzle.res mzP mzB
    cases hw : inR w 2 5 with
    | false => rfl
    | true =>
    cases hh : inR h 2 5 with
    | false => rfl
    | true =>
    cases hz : inR z 0 9999 with
    | false => rfl
    | true =>
    obtain ⟨⟨w1, w2⟩, ⟨v1, v2⟩, e1, e2, e3, e4⟩ := mz_wh hw hh
    have hz' := hz
    unfold inR at hz'
    simp only [Bool.and_eq_true, decide_eq_true_eq] at hz'
    obtain ⟨z1, z2⟩ := hz'
    obtain ⟨M, hM⟩ : ∃ M, N = (M + 1) + w.toNat * h.toNat := ⟨N - 1 - w.toNat * h.toNat, by omega⟩
    have key := spec_MakePuzzle.l6_run (n := N) (s4 := ByteArray.mk #[]) (i5 := 0) (i6 := 0) (i7 := 0) (i8 := 0) (i9 := 0) (i10 := 0) (i11 := 0) (i12 := 0) (i13 := 0) (i14 := 0) (i15 := 0) (i16 := w) (i17 := h) e1 (by omega) (w.toNat * h.toNat) 0 (M + 1) z [] (by omega) rfl z1 (by omega)
    rw [← hM, Cod.encs_nil, List.nil_append] at key
    simp -implicitDefEqProofs only [Bool.not_true, cond_false]
    refine Eq.trans key ?_
    have hin := lcgN_in (w.toNat * h.toNat) z1 (show z < 10007 by omega)
    have hat := mzAt_in (z := z) w1 v1
    have g1 : ¬ ((w.toNat * h.toNat : Nat) : Int) < ((w.toNat * h.toNat : Nat) : Int) := by omega
    have g2 : ¬ ((w.toNat * h.toNat : Nat) : Int) = 0 := by omega
    have hz1 := lcg_in (lcgN (w.toNat * h.toNat) z)
    have a0 : Int.tmod (lcg (lcgN (w.toNat * h.toNat) z)) ((w.toNat * h.toNat : Nat) : Int) = mzAt w h z := by
      rw [Int.tmod_eq_emod_of_nonneg hz1.1, ← e2]; rfl
    have hck := mz_chunk z hw hh
    have a1 : 0 ≤ mzAt w h z := by rw [← a0, Int.tmod_eq_emod_of_nonneg hz1.1]; exact Int.emod_nonneg _ g2
    have a2 : mzAt w h z < ((w.toNat * h.toNat : Nat) : Int) := by omega
    have e46 : ∀ cs i, setRow 1 (u8C.encs cs) i 0 [D.int .u8 46] = u8C.encs (cs.set i 46) := fun cs i => u8C_set cs i 46
    rw [spec_MakePuzzle.l6_eq]
    simp -implicitDefEqProofs only [e1, g1, g2, Cod.encs_len, mkCs_len, lcg_eq hin.1 hin.2, a0, a1, a2, e46, decide_false, decide_true, cond_false, cond_true, Bool.not_false]
    obtain ⟨N3, hN3⟩ : ∃ k, N = k + 2 + 1 := ⟨N - 3, by omega⟩
    have hz2 := lcg_in (lcg (lcgN (w.toNat * h.toNat) z))
    have s1 := spec_MakePuzzle.l17_step (n := N) (s4 := ByteArray.mk #[]) (i5 := 0) (i6 := 0) (i7 := 0) (i8 := 0) (i9 := 0) (i10 := 0) (i11 := 0) (i12 := 0) (i13 := 0) (i14 := 0) (i15 := 0) (i16 := w) (i17 := h) (i0 := w) (i2 := mzAt w h z) (l18 := u8C.encs ((mkCs (w.toNat * h.toNat) z).set (mzAt w h z).toNat 46)) (by omega) hz1.1 hz1.2 (show (0 : Int) < 2 by omega) (N3 + 2) ⟨1, 2, 3, 5, 4, 6⟩
    have s2 := spec_MakePuzzle.l17_step (n := N) (s4 := ByteArray.mk #[]) (i5 := 0) (i6 := 0) (i7 := 0) (i8 := 0) (i9 := 0) (i10 := 0) (i11 := 0) (i12 := 0) (i13 := 0) (i14 := 0) (i15 := 0) (i16 := w) (i17 := h) (i0 := w) (i2 := mzAt w h z) (l18 := u8C.encs ((mkCs (w.toNat * h.toNat) z).set (mzAt w h z).toNat 46)) (by omega) hz2.1 hz2.2 (show (1 : Int) < 2 by omega) (N3 + 1) (rollN 0 (lcg (lcg (lcgN (w.toNat * h.toNat) z)) % 4).toNat ⟨1, 2, 3, 5, 4, 6⟩)
    have w01 : IntKind.wrap .i64 ((0 : Int) + 1) = 1 := by rw [wrap_in (by omega) (by omega)]; rfl
    have w12 : IntKind.wrap .i64 ((1 : Int) + 1) = 2 := by rw [wrap_in (by omega) (by omega)]; rfl
    rw [← hN3, w01] at s1
    rw [w12] at s2
    refine Eq.trans s1 (Eq.trans s2 ?_)
    have eZ2 : mzZ 2 w h z = lcg (lcg (lcgN (w.toNat * h.toNat) z)) := by unfold mzZ; rw [lcgN_add]; rfl
    have eZ3 : mzZ 3 w h z = lcg (lcg (lcg (lcgN (w.toNat * h.toNat) z))) := by unfold mzZ; rw [lcgN_add]; rfl
    rw [← eZ3, ← eZ2]
    generalize hD : rollN 1 (mzZ 3 w h z % 4).toNat (rollN 0 (mzZ 2 w h z % 4).toNat ⟨1, 2, 3, 5, 4, 6⟩) = DD
    have hD' : mzD w h z = DD := hD
    have hq : mkB (jn (chunk w.toNat h.toNat ((mkCs (w.toNat * h.toNat) z).set (mzAt w h z).toNat 46))) = mzQ w h z := by rw [hck.1]; rfl
    have q1 : Int.tmod (mzAt w h z) w = mzAt w h z % w := Int.tmod_eq_emod_of_nonneg a1
    have q2 : IntKind.wrap .i64 (Int.tdiv (mzAt w h z) w) = mzAt w h z / w := by
      rw [Int.tdiv_eq_ediv_of_nonneg a1, wrap_in (by omega) (by omega)]
    have hs : (⟨mzAt w h z % w, mzAt w h z / w, DD⟩ : Sta) = mzS w h z := by rw [← hD']; rfl
    have hdc : u8C.decs (u8C.encs ((mkCs (w.toNat * h.toNat) z).set (mzAt w h z).toNat 46)) = some ((mkCs (w.toNat * h.toNat) z).set (mzAt w h z).toNat 46) := Cod.decs_encs (by rw [List.length_set, mkCs_len]; unfold LIM; omega)
    have r1 : inR w 0 7 = true := by unfold inR; simp; omega
    have r2 : inR h 0 7 = true := by unfold inR; simp; omega
    have r3 : ¬ w = 0 := by omega
    have r4 : ¬ (2 : Int) < 2 := by omega
    rw [spec_MakePuzzle.l17_eq]
    simp -implicitDefEqProofs only [r1, r2, r3, r4, decide_false, decide_true, cond_false, cond_true, hdc, Option.bind_some, List.length_set, mkCs_len, Bool.not_false, Die.eta, hq, q1, q2, hs, mz_ok hw hh, Bool.true_and]
    have hS : (mzS w h z).d = DD := hD'
    have hx : (mzS w h z).x = mzAt w h z % w := rfl
    have hy : (mzS w h z).y = mzAt w h z / w := rfl
    rw [hS, hx, hy]
    have hB : hdB (mzQ w h z) (mzS w h z) = !decide (hdM (mzQ w h z) (mzS w h z) > 60) := by
      have : hdB (mzQ w h z) (mzS w h z) = (okSt (mzQ w h z) (mzS w h z) && decide (hdM (mzQ w h z) (mzS w h z) ≤ 60)) := rfl
      rw [this, mz_ok hw hh, Bool.true_and]
      by_cases hm : hdM (mzQ w h z) (mzS w h z) > 60
      · rw [decide_eq_true hm, decide_eq_false (by omega)]; rfl
      · rw [decide_eq_false hm, decide_eq_true (by omega)]; rfl
    rw [hB]
    cases decide (hdM (mzQ w h z) (mzS w h z) > 60) with
    | true => rfl
    | false => rfl
  · cases h
end Go.Proofs.EV.PL
set_option linter.unusedVariables false
set_option linter.unusedSimpArgs false
set_option maxHeartbeats 4000000
/-! Puzzles made by numbers, the program's. -/
namespace Go.Proofs.EV.PL
open Go Go.Proofs Go.Proofs.EV Sp
/-! impl_MakePuzzle -/
noncomputable def impl_MakePuzzle.cfg : Cfg := { C0 with nst := fun t => Nat.beq t 105 || Nat.beq t 65, bor := fun f => Nat.beq f 68, news := fun _ => 0, keep := fun | 7 => some [0, 1, 6, 9, 10, 38, 39] | 10 => some [0, 1, 6, 9, 10, 11, 38, 39, 42, 43] | 22 => some [6, 9, 10, 14, 80, 81] | 26 => some [6, 10, 14, 89, 90] | 31 => some [6, 14, 15, 98, 99, 100] | _ => none, nb := 0, M := tabM [(67, impl_in.stub), (69, impl_Die_roll.stub), (70, impl_grid_text.stub), (45, impl_hardest.stub)], MM := tabB [(68, impl_MakePuzzle_1.stub)] }
noncomputable def impl_MakePuzzle.l7 (n : Nat) (m7 : Nat) (i0 : Int) (i1 : Int) (i2 : Int) (i3 : Int) (s4 : ByteArray) (i5 : Int) (i6 : Int) (i7 : Int) (i8 : Int) (i9 : Int) (i10 : Int) (i11 : Int) (i12 : Int) (i13 : Int) (i14 : Int) (i15 : Int) (i16 : Int) (l17 : List (List (List D))) : Option (List Q) :=
  loopAt impl_MakePuzzle.cfg [RK.agg [LK.str, LK.int IntKind.i64, LK.int IntKind.i64, LK.int IntKind.i64, LK.int IntKind.i64, LK.int IntKind.i64, LK.int IntKind.i64, LK.int IntKind.i64, LK.int IntKind.i64, LK.int IntKind.i64, LK.int IntKind.i64, LK.int IntKind.i64], RK.one LK.bool] n Tryd.f36 [1, 1, 1, 1, 1, 0, 1, 0] [] m7 (St.mk [V.one true (D.int IntKind.i64 i0), V.one true (D.int IntKind.i64 i1), V.undef, V.undef, V.undef, V.undef, V.rp (0 : Nat) (0 : Nat), V.undef, V.undef, V.fnv (68 : Nat) [] [V.rp (1 : Nat) (0 : Nat)], V.rw (2 : Nat), V.undef, V.undef, V.undef, V.undef, V.undef, V.undef, V.undef, V.undef, V.undef, V.undef, V.undef, V.undef, V.undef, V.undef, V.undef, V.undef, V.undef, V.undef, V.undef, V.undef, V.undef, V.undef, V.undef, V.undef, V.undef, V.undef, V.undef, V.one true (D.int IntKind.i64 i2), V.one true (D.int IntKind.i64 i3), V.undef, V.undef, V.undef, V.undef, V.undef, V.undef, V.undef, V.undef, V.undef, V.undef, V.undef, V.undef, V.undef, V.undef, V.undef, V.undef, V.undef, V.undef, V.undef, V.undef, V.undef, V.undef, V.undef, V.undef, V.undef, V.undef, V.undef, V.undef, V.undef, V.undef, V.undef, V.undef, V.undef, V.undef, V.undef, V.undef, V.undef, V.undef, V.undef, V.undef, V.undef, V.undef, V.undef, V.undef, V.undef, V.undef, V.undef, V.undef, V.undef, V.undef, V.undef, V.undef, V.undef, V.undef, V.undef, V.undef, V.undef, V.undef, V.undef, V.undef, V.undef, V.undef, V.undef, V.undef, V.undef, V.undef, V.undef, V.undef, V.undef, V.undef, V.undef, V.undef, V.undef, V.undef, V.undef, V.undef, V.undef, V.undef, V.undef, V.undef] [Ob.box [V.one true (D.str s4), V.one true (D.int IntKind.i64 i5), V.one true (D.int IntKind.i64 i6), V.one true (D.int IntKind.i64 i7), V.one true (D.int IntKind.i64 i8), V.one true (D.int IntKind.i64 i9), V.one true (D.int IntKind.i64 i10), V.one true (D.int IntKind.i64 i11), V.one true (D.int IntKind.i64 i12), V.one true (D.int IntKind.i64 i13), V.one true (D.int IntKind.i64 i14), V.one true (D.int IntKind.i64 i15)], Ob.box [V.one true (D.int IntKind.i64 i16)], Ob.nest (1 : Nat) none l17])
noncomputable def impl_MakePuzzle.l10 (n : Nat) (m7 : Nat) (m10 : Nat) (i0 : Int) (i1 : Int) (i2 : Int) (i3 : Int) (i4 : Int) (i5 : Int) (s6 : ByteArray) (i7 : Int) (i8 : Int) (i9 : Int) (i10 : Int) (i11 : Int) (i12 : Int) (i13 : Int) (i14 : Int) (i15 : Int) (i16 : Int) (i17 : Int) (i18 : Int) (l19 : List (List (List D))) (l20 : List (List D)) : Option (List Q) :=
  loopAt impl_MakePuzzle.cfg [RK.agg [LK.str, LK.int IntKind.i64, LK.int IntKind.i64, LK.int IntKind.i64, LK.int IntKind.i64, LK.int IntKind.i64, LK.int IntKind.i64, LK.int IntKind.i64, LK.int IntKind.i64, LK.int IntKind.i64, LK.int IntKind.i64, LK.int IntKind.i64], RK.one LK.bool] n Tryd.f36 [1, 1, 1, 1, 1, 0, 1, 0, 0, 1, 1, 0, 0, 1, 0, 1, 0] [m7] m10 (St.mk [V.one true (D.int IntKind.i64 i0), V.one true (D.int IntKind.i64 i1), V.undef, V.undef, V.undef, V.undef, V.rp (0 : Nat) (0 : Nat), V.undef, V.undef, V.fnv (68 : Nat) [] [V.rp (1 : Nat) (0 : Nat)], V.rw (2 : Nat), V.rw (3 : Nat), V.undef, V.undef, V.undef, V.undef, V.undef, V.undef, V.undef, V.undef, V.undef, V.undef, V.undef, V.undef, V.undef, V.undef, V.undef, V.undef, V.undef, V.undef, V.undef, V.undef, V.undef, V.undef, V.undef, V.undef, V.undef, V.undef, V.one true (D.int IntKind.i64 i2), V.one true (D.int IntKind.i64 i3), V.undef, V.undef, V.one true (D.int IntKind.i64 i4), V.one true (D.int IntKind.i64 i5), V.undef, V.undef, V.undef, V.undef, V.undef, V.undef, V.undef, V.undef, V.undef, V.undef, V.undef, V.undef, V.undef, V.undef, V.undef, V.undef, V.undef, V.undef, V.undef, V.undef, V.undef, V.undef, V.undef, V.undef, V.undef, V.undef, V.undef, V.undef, V.undef, V.undef, V.undef, V.undef, V.undef, V.undef, V.undef, V.undef, V.undef, V.undef, V.undef, V.undef, V.undef, V.undef, V.undef, V.undef, V.undef, V.undef, V.undef, V.undef, V.undef, V.undef, V.undef, V.undef, V.undef, V.undef, V.undef, V.undef, V.undef, V.undef, V.undef, V.undef, V.undef, V.undef, V.undef, V.undef, V.undef, V.undef, V.undef, V.undef, V.undef, V.undef, V.undef, V.undef, V.undef, V.undef, V.undef, V.undef] [Ob.box [V.one true (D.str s6), V.one true (D.int IntKind.i64 i7), V.one true (D.int IntKind.i64 i8), V.one true (D.int IntKind.i64 i9), V.one true (D.int IntKind.i64 i10), V.one true (D.int IntKind.i64 i11), V.one true (D.int IntKind.i64 i12), V.one true (D.int IntKind.i64 i13), V.one true (D.int IntKind.i64 i14), V.one true (D.int IntKind.i64 i15), V.one true (D.int IntKind.i64 i16), V.one true (D.int IntKind.i64 i17)], Ob.box [V.one true (D.int IntKind.i64 i18)], Ob.nest (1 : Nat) none l19, Ob.row false (1 : Nat) l20])
noncomputable def impl_MakePuzzle.l22 (n : Nat) (m22 : Nat) (i0 : Int) (i1 : Int) (s2 : ByteArray) (i3 : Int) (i4 : Int) (i5 : Int) (i6 : Int) (i7 : Int) (i8 : Int) (i9 : Int) (i10 : Int) (i11 : Int) (i12 : Int) (i13 : Int) (i14 : Int) (l15 : List (List (List D))) (i16 : Int) (i17 : Int) (i18 : Int) (i19 : Int) (i20 : Int) (i21 : Int) (i22 : Int) (i23 : Int) : Option (List Q) :=
  loopAt impl_MakePuzzle.cfg [RK.agg [LK.str, LK.int IntKind.i64, LK.int IntKind.i64, LK.int IntKind.i64, LK.int IntKind.i64, LK.int IntKind.i64, LK.int IntKind.i64, LK.int IntKind.i64, LK.int IntKind.i64, LK.int IntKind.i64, LK.int IntKind.i64, LK.int IntKind.i64], RK.one LK.bool] n Tryd.f36 [1, 1, 1, 1, 1, 1, 1, 1, 1, 0, 1, 0] [] m22 (St.mk [V.undef, V.undef, V.undef, V.undef, V.undef, V.undef, V.rp (0 : Nat) (0 : Nat), V.undef, V.undef, V.fnv (68 : Nat) [] [V.rp (1 : Nat) (0 : Nat)], V.rw (2 : Nat), V.undef, V.undef, V.undef, V.rp (3 : Nat) (0 : Nat), V.undef, V.undef, V.undef, V.undef, V.undef, V.undef, V.undef, V.undef, V.undef, V.undef, V.undef, V.undef, V.undef, V.undef, V.undef, V.undef, V.undef, V.undef, V.undef, V.undef, V.undef, V.undef, V.undef, V.undef, V.undef, V.undef, V.undef, V.undef, V.undef, V.undef, V.undef, V.undef, V.undef, V.undef, V.undef, V.undef, V.undef, V.undef, V.undef, V.undef, V.undef, V.undef, V.undef, V.undef, V.undef, V.undef, V.undef, V.undef, V.undef, V.undef, V.undef, V.undef, V.undef, V.undef, V.undef, V.undef, V.undef, V.undef, V.undef, V.undef, V.undef, V.undef, V.undef, V.undef, V.undef, V.one true (D.int IntKind.i64 i0), V.one true (D.int IntKind.i64 i1), V.undef, V.undef, V.undef, V.undef, V.undef, V.undef, V.undef, V.undef, V.undef, V.undef, V.undef, V.undef, V.undef, V.undef, V.undef, V.undef, V.undef, V.undef, V.undef, V.undef, V.undef, V.undef, V.undef, V.undef, V.undef, V.undef, V.undef, V.undef, V.undef, V.undef, V.undef, V.undef, V.undef, V.undef, V.undef, V.undef, V.undef, V.undef] [Ob.box [V.one true (D.str s2), V.one true (D.int IntKind.i64 i3), V.one true (D.int IntKind.i64 i4), V.one true (D.int IntKind.i64 i5), V.one true (D.int IntKind.i64 i6), V.one true (D.int IntKind.i64 i7), V.one true (D.int IntKind.i64 i8), V.one true (D.int IntKind.i64 i9), V.one true (D.int IntKind.i64 i10), V.one true (D.int IntKind.i64 i11), V.one true (D.int IntKind.i64 i12), V.one true (D.int IntKind.i64 i13)], Ob.box [V.one true (D.int IntKind.i64 i14)], Ob.nest (1 : Nat) none l15, Ob.box [V.one true (D.int IntKind.i64 i16), V.one true (D.int IntKind.i64 i17), V.one true (D.int IntKind.i64 i18), V.one true (D.int IntKind.i64 i19), V.one true (D.int IntKind.i64 i20), V.one true (D.int IntKind.i64 i21), V.one true (D.int IntKind.i64 i22), V.one true (D.int IntKind.i64 i23)]])
noncomputable def impl_MakePuzzle.l26 (n : Nat) (m26 : Nat) (i0 : Int) (i1 : Int) (s2 : ByteArray) (i3 : Int) (i4 : Int) (i5 : Int) (i6 : Int) (i7 : Int) (i8 : Int) (i9 : Int) (i10 : Int) (i11 : Int) (i12 : Int) (i13 : Int) (l14 : List (List (List D))) (i15 : Int) (i16 : Int) (i17 : Int) (i18 : Int) (i19 : Int) (i20 : Int) (i21 : Int) (i22 : Int) : Option (List Q) :=
  loopAt impl_MakePuzzle.cfg [RK.agg [LK.str, LK.int IntKind.i64, LK.int IntKind.i64, LK.int IntKind.i64, LK.int IntKind.i64, LK.int IntKind.i64, LK.int IntKind.i64, LK.int IntKind.i64, LK.int IntKind.i64, LK.int IntKind.i64, LK.int IntKind.i64, LK.int IntKind.i64], RK.one LK.bool] n Tryd.f36 [1, 1, 1, 1, 1, 1, 1, 1, 1, 1, 0, 1, 0] [] m26 (St.mk [V.undef, V.undef, V.undef, V.undef, V.undef, V.undef, V.rp (0 : Nat) (0 : Nat), V.undef, V.undef, V.undef, V.rw (1 : Nat), V.undef, V.undef, V.undef, V.rp (2 : Nat) (0 : Nat), V.undef, V.undef, V.undef, V.undef, V.undef, V.undef, V.undef, V.undef, V.undef, V.undef, V.undef, V.undef, V.undef, V.undef, V.undef, V.undef, V.undef, V.undef, V.undef, V.undef, V.undef, V.undef, V.undef, V.undef, V.undef, V.undef, V.undef, V.undef, V.undef, V.undef, V.undef, V.undef, V.undef, V.undef, V.undef, V.undef, V.undef, V.undef, V.undef, V.undef, V.undef, V.undef, V.undef, V.undef, V.undef, V.undef, V.undef, V.undef, V.undef, V.undef, V.undef, V.undef, V.undef, V.undef, V.undef, V.undef, V.undef, V.undef, V.undef, V.undef, V.undef, V.undef, V.undef, V.undef, V.undef, V.undef, V.undef, V.undef, V.undef, V.undef, V.undef, V.undef, V.undef, V.undef, V.one true (D.int IntKind.i64 i0), V.one true (D.int IntKind.i64 i1), V.undef, V.undef, V.undef, V.undef, V.undef, V.undef, V.undef, V.undef, V.undef, V.undef, V.undef, V.undef, V.undef, V.undef, V.undef, V.undef, V.undef, V.undef, V.undef, V.undef, V.undef, V.undef, V.undef, V.undef, V.undef, V.undef, V.undef, V.undef, V.undef] [Ob.box [V.one true (D.str s2), V.one true (D.int IntKind.i64 i3), V.one true (D.int IntKind.i64 i4), V.one true (D.int IntKind.i64 i5), V.one true (D.int IntKind.i64 i6), V.one true (D.int IntKind.i64 i7), V.one true (D.int IntKind.i64 i8), V.one true (D.int IntKind.i64 i9), V.one true (D.int IntKind.i64 i10), V.one true (D.int IntKind.i64 i11), V.one true (D.int IntKind.i64 i12), V.one true (D.int IntKind.i64 i13)], Ob.nest (1 : Nat) none l14, Ob.box [V.one true (D.int IntKind.i64 i15), V.one true (D.int IntKind.i64 i16), V.one true (D.int IntKind.i64 i17), V.one true (D.int IntKind.i64 i18), V.one true (D.int IntKind.i64 i19), V.one true (D.int IntKind.i64 i20), V.one true (D.int IntKind.i64 i21), V.one true (D.int IntKind.i64 i22)]])
noncomputable def impl_MakePuzzle.l31 (n : Nat) (m31 : Nat) (i0 : Int) (i1 : Int) (s2 : ByteArray) (i3 : Int) (i4 : Int) (i5 : Int) (i6 : Int) (i7 : Int) (i8 : Int) (i9 : Int) (i10 : Int) (i11 : Int) (i12 : Int) (i13 : Int) (i14 : Int) (i15 : Int) (i16 : Int) (i17 : Int) (i18 : Int) (i19 : Int) (i20 : Int) (i21 : Int) (l22 : List (List D)) (l23 : List (List (List D))) : Option (List Q) :=
  loopAt impl_MakePuzzle.cfg [RK.agg [LK.str, LK.int IntKind.i64, LK.int IntKind.i64, LK.int IntKind.i64, LK.int IntKind.i64, LK.int IntKind.i64, LK.int IntKind.i64, LK.int IntKind.i64, LK.int IntKind.i64, LK.int IntKind.i64, LK.int IntKind.i64, LK.int IntKind.i64], RK.one LK.bool] n Tryd.f36 [1, 1, 1, 1, 1, 1, 1, 1, 1, 1, 1, 1, 0, 1, 0] [] m31 (St.mk [V.undef, V.undef, V.undef, V.undef, V.undef, V.undef, V.rp (0 : Nat) (0 : Nat), V.undef, V.undef, V.undef, V.undef, V.undef, V.undef, V.undef, V.rp (1 : Nat) (0 : Nat), V.rw (2 : Nat), V.undef, V.undef, V.undef, V.undef, V.undef, V.undef, V.undef, V.undef, V.undef, V.undef, V.undef, V.undef, V.undef, V.undef, V.undef, V.undef, V.undef, V.undef, V.undef, V.undef, V.undef, V.undef, V.undef, V.undef, V.undef, V.undef, V.undef, V.undef, V.undef, V.undef, V.undef, V.undef, V.undef, V.undef, V.undef, V.undef, V.undef, V.undef, V.undef, V.undef, V.undef, V.undef, V.undef, V.undef, V.undef, V.undef, V.undef, V.undef, V.undef, V.undef, V.undef, V.undef, V.undef, V.undef, V.undef, V.undef, V.undef, V.undef, V.undef, V.undef, V.undef, V.undef, V.undef, V.undef, V.undef, V.undef, V.undef, V.undef, V.undef, V.undef, V.undef, V.undef, V.undef, V.undef, V.undef, V.undef, V.undef, V.undef, V.undef, V.undef, V.undef, V.undef, V.rw (3 : Nat), V.one true (D.int IntKind.i64 i0), V.one true (D.int IntKind.i64 i1), V.undef, V.undef, V.undef, V.undef, V.undef, V.undef, V.undef, V.undef, V.undef, V.undef, V.undef, V.undef, V.undef, V.undef, V.undef, V.undef, V.undef, V.undef, V.undef] [Ob.box [V.one true (D.str s2), V.one true (D.int IntKind.i64 i3), V.one true (D.int IntKind.i64 i4), V.one true (D.int IntKind.i64 i5), V.one true (D.int IntKind.i64 i6), V.one true (D.int IntKind.i64 i7), V.one true (D.int IntKind.i64 i8), V.one true (D.int IntKind.i64 i9), V.one true (D.int IntKind.i64 i10), V.one true (D.int IntKind.i64 i11), V.one true (D.int IntKind.i64 i12), V.one true (D.int IntKind.i64 i13)], Ob.box [V.one true (D.int IntKind.i64 i14), V.one true (D.int IntKind.i64 i15), V.one true (D.int IntKind.i64 i16), V.one true (D.int IntKind.i64 i17), V.one true (D.int IntKind.i64 i18), V.one true (D.int IntKind.i64 i19), V.one true (D.int IntKind.i64 i20), V.one true (D.int IntKind.i64 i21)], Ob.row false (1 : Nat) l22, Ob.nest (1 : Nat) none l23])
theorem impl_MakePuzzle.l7_eq (n : Nat) (m7 : Nat) (i0 : Int) (i1 : Int) (i2 : Int) (i3 : Int) (s4 : ByteArray) (i5 : Int) (i6 : Int) (i7 : Int) (i8 : Int) (i9 : Int) (i10 : Int) (i11 : Int) (i12 : Int) (i13 : Int) (i14 : Int) (i15 : Int) (i16 : Int) (l17 : List (List (List D))) :
    impl_MakePuzzle.l7 n (m7 + 1) i0 i1 i2 i3 s4 i5 i6 i7 i8 i9 i10 i11 i12 i13 i14 i15 i16 l17 = bif decide (i3 < i2) then impl_MakePuzzle.l10 n m7 n i0 i1 i2 i3 i0 (0 : Int) s4 i5 i6 i7 i8 i9 i10 i11 i12 i13 i14 i15 i16 l17 [] else bif inR i16 (0 : Int) (10006 : Int) then bif inR (IntKind.wrap IntKind.i64 (i0 * i1)) (1 : Int) (100 : Int) then bif !decide (i0 = (0 : Int)) then bif !decide (i0 = (0 : Int)) then bif decide ((0 : Int) ≤ IntKind.wrap IntKind.i64 (Int.tdiv (lcg i16 % IntKind.wrap IntKind.i64 (i0 * i1)) i0)) then bif decide (IntKind.wrap IntKind.i64 (Int.tdiv (lcg i16 % IntKind.wrap IntKind.i64 (i0 * i1)) i0) < (↑(List.length l17) : Int)) then bif decide ((0 : Int) ≤ Int.tmod (lcg i16 % IntKind.wrap IntKind.i64 (i0 * i1)) i0) then bif decide (Int.tmod (lcg i16 % IntKind.wrap IntKind.i64 (i0 * i1)) i0 < (↑(List.length (List.getD l17 (Int.toNat (IntKind.wrap IntKind.i64 (Int.tdiv (lcg i16 % IntKind.wrap IntKind.i64 (i0 * i1)) i0))) [])) : Int)) then bif inR (lcg i16) (0 : Int) (10006 : Int) then impl_MakePuzzle.l22 n n (lcg (lcg i16) % (4 : Int)) (0 : Int) s4 i5 i6 i7 i8 i9 i10 i11 i12 i13 i14 i15 (lcg (lcg i16)) (List.set l17 (Int.toNat (IntKind.wrap IntKind.i64 (Int.tdiv (lcg i16 % IntKind.wrap IntKind.i64 (i0 * i1)) i0))) (setRow (1 : Nat) (List.getD l17 (Int.toNat (IntKind.wrap IntKind.i64 (Int.tdiv (lcg i16 % IntKind.wrap IntKind.i64 (i0 * i1)) i0))) []) (Int.toNat (Int.tmod (lcg i16 % IntKind.wrap IntKind.i64 (i0 * i1)) i0)) (0 : Nat) [D.int IntKind.u8 (46 : Int)])) (Int.tmod (lcg i16 % IntKind.wrap IntKind.i64 (i0 * i1)) i0) (IntKind.wrap IntKind.i64 (Int.tdiv (lcg i16 % IntKind.wrap IntKind.i64 (i0 * i1)) i0)) (1 : Int) (2 : Int) (3 : Int) (5 : Int) (4 : Int) (6 : Int) else none else none else none else none else none else none else none else none else none := by kernel_rfl
theorem impl_MakePuzzle.l10_eq (n : Nat) (m7 : Nat) (m10 : Nat) (i0 : Int) (i1 : Int) (i2 : Int) (i3 : Int) (i4 : Int) (i5 : Int) (s6 : ByteArray) (i7 : Int) (i8 : Int) (i9 : Int) (i10 : Int) (i11 : Int) (i12 : Int) (i13 : Int) (i14 : Int) (i15 : Int) (i16 : Int) (i17 : Int) (i18 : Int) (l19 : List (List (List D))) (l20 : List (List D)) :
    impl_MakePuzzle.l10 n m7 (m10 + 1) i0 i1 i2 i3 i4 i5 s6 i7 i8 i9 i10 i11 i12 i13 i14 i15 i16 i17 i18 l19 l20 = bif decide (i5 < i4) then bif inR i18 (0 : Int) (10006 : Int) then bif lcg i18 % (4 : Int) == (0 : Int) then bif decide (List.length l20 + (1 : Nat) ≤ (17179869184 : Nat)) then impl_MakePuzzle.l10 n m7 m10 i0 i1 i2 i3 i4 (IntKind.wrap IntKind.i64 (i5 + (1 : Int))) s6 i7 i8 i9 i10 i11 i12 i13 i14 i15 i16 i17 (lcg i18) l19 (l20 ++ [[D.int IntKind.u8 (35 : Int)]]) else none else bif decide (List.length l20 + (1 : Nat) ≤ (17179869184 : Nat)) then impl_MakePuzzle.l10 n m7 m10 i0 i1 i2 i3 i4 (IntKind.wrap IntKind.i64 (i5 + (1 : Int))) s6 i7 i8 i9 i10 i11 i12 i13 i14 i15 i16 i17 (lcg i18) l19 (l20 ++ [[D.int IntKind.u8 (46 : Int)]]) else none else none else bif decide (List.length l19 + (1 : Nat) ≤ (17179869184 : Nat)) then impl_MakePuzzle.l7 n m7 i0 i1 i2 (IntKind.wrap IntKind.i64 (i3 + (1 : Int))) s6 i7 i8 i9 i10 i11 i12 i13 i14 i15 i16 i17 i18 (l19 ++ [l20]) else none := by kernel_rfl
theorem impl_MakePuzzle.l22_eq (n : Nat) (m22 : Nat) (i0 : Int) (i1 : Int) (s2 : ByteArray) (i3 : Int) (i4 : Int) (i5 : Int) (i6 : Int) (i7 : Int) (i8 : Int) (i9 : Int) (i10 : Int) (i11 : Int) (i12 : Int) (i13 : Int) (i14 : Int) (l15 : List (List (List D))) (i16 : Int) (i17 : Int) (i18 : Int) (i19 : Int) (i20 : Int) (i21 : Int) (i22 : Int) (i23 : Int) :
    impl_MakePuzzle.l22 n (m22 + 1) i0 i1 s2 i3 i4 i5 i6 i7 i8 i9 i10 i11 i12 i13 i14 l15 i16 i17 i18 i19 i20 i21 i22 i23 = bif decide (i1 < i0) then impl_MakePuzzle.l22 n m22 i0 (IntKind.wrap IntKind.i64 (i1 + (1 : Int))) s2 i3 i4 i5 i6 i7 i8 i9 i10 i11 i12 i13 i14 l15 i16 i17 (Die.t (rollB (Die.mk i18 i19 i20 i21 i22 i23) (110 : Int))) (Die.n (rollB (Die.mk i18 i19 i20 i21 i22 i23) (110 : Int))) (Die.e (rollB (Die.mk i18 i19 i20 i21 i22 i23) (110 : Int))) (Die.s (rollB (Die.mk i18 i19 i20 i21 i22 i23) (110 : Int))) (Die.w (rollB (Die.mk i18 i19 i20 i21 i22 i23) (110 : Int))) (Die.b (rollB (Die.mk i18 i19 i20 i21 i22 i23) (110 : Int))) else bif inR i14 (0 : Int) (10006 : Int) then impl_MakePuzzle.l26 n n (lcg i14 % (4 : Int)) (0 : Int) s2 i3 i4 i5 i6 i7 i8 i9 i10 i11 i12 i13 l15 i16 i17 i18 i19 i20 i21 i22 i23 else none := by kernel_rfl
theorem impl_MakePuzzle.l26_eq (n : Nat) (m26 : Nat) (i0 : Int) (i1 : Int) (s2 : ByteArray) (i3 : Int) (i4 : Int) (i5 : Int) (i6 : Int) (i7 : Int) (i8 : Int) (i9 : Int) (i10 : Int) (i11 : Int) (i12 : Int) (i13 : Int) (l14 : List (List (List D))) (i15 : Int) (i16 : Int) (i17 : Int) (i18 : Int) (i19 : Int) (i20 : Int) (i21 : Int) (i22 : Int) :
    impl_MakePuzzle.l26 n (m26 + 1) i0 i1 s2 i3 i4 i5 i6 i7 i8 i9 i10 i11 i12 i13 l14 i15 i16 i17 i18 i19 i20 i21 i22 = bif decide (i1 < i0) then impl_MakePuzzle.l26 n m26 i0 (IntKind.wrap IntKind.i64 (i1 + (1 : Int))) s2 i3 i4 i5 i6 i7 i8 i9 i10 i11 i12 i13 l14 i15 i16 (Die.t (rollB (Die.mk i17 i18 i19 i20 i21 i22) (101 : Int))) (Die.n (rollB (Die.mk i17 i18 i19 i20 i21 i22) (101 : Int))) (Die.e (rollB (Die.mk i17 i18 i19 i20 i21 i22) (101 : Int))) (Die.s (rollB (Die.mk i17 i18 i19 i20 i21 i22) (101 : Int))) (Die.w (rollB (Die.mk i17 i18 i19 i20 i21 i22) (101 : Int))) (Die.b (rollB (Die.mk i17 i18 i19 i20 i21 i22) (101 : Int))) else impl_MakePuzzle.l31 n n (↑(List.length l14) : Int) (0 : Int) s2 i3 i4 i5 i6 i7 i8 i9 i10 i11 i12 i13 i15 i16 i17 i18 i19 i20 i21 i22 [] l14 := by kernel_rfl
theorem impl_MakePuzzle.l31_eq (n : Nat) (m31 : Nat) (i0 : Int) (i1 : Int) (s2 : ByteArray) (i3 : Int) (i4 : Int) (i5 : Int) (i6 : Int) (i7 : Int) (i8 : Int) (i9 : Int) (i10 : Int) (i11 : Int) (i12 : Int) (i13 : Int) (i14 : Int) (i15 : Int) (i16 : Int) (i17 : Int) (i18 : Int) (i19 : Int) (i20 : Int) (i21 : Int) (l22 : List (List D)) (l23 : List (List (List D))) :
    impl_MakePuzzle.l31 n (m31 + 1) i0 i1 s2 i3 i4 i5 i6 i7 i8 i9 i10 i11 i12 i13 i14 i15 i16 i17 i18 i19 i20 i21 l22 l23 = bif decide (i1 < i0) then bif decide ((0 : Int) ≤ i1) then bif decide (i1 < (↑(List.length l23) : Int)) then Option.bind (Option.map (fun (l : List UInt8) => ByteArray.mk (List.toArray l)) (rowStr? (List.getD l23 (Int.toNat i1) []))) fun (s1 : ByteArray) => bif decide (List.length l22 + (1 : Nat) ≤ (17179869184 : Nat)) then impl_MakePuzzle.l31 n m31 i0 (IntKind.wrap IntKind.i64 (i1 + (1 : Int))) s2 i3 i4 i5 i6 i7 i8 i9 i10 i11 i12 i13 i14 i15 i16 i17 i18 i19 i20 i21 (l22 ++ [[D.str s1]]) (List.set l23 (Int.toNat i1) (List.getD l23 (Int.toNat i1) [])) else none else none else none else Option.bind (Cod.decs strC l22) fun (l2 : List ByteArray) => bif decide (List.length (jn (lb l2)) ≤ (17179869184 : Nat)) then bif decide (ByteArray.size (mkB (jn (lb l2))) < (17179869184 : Nat)) then some [Q.agg [D.str (onS (hdB (mkB (jn (lb l2))) (Sta.mk i14 i15 (Die.mk i16 i17 i18 i19 i20 i21))) (mkB (jn (lb l2)))), D.int IntKind.i64 (onI (hdB (mkB (jn (lb l2))) (Sta.mk i14 i15 (Die.mk i16 i17 i18 i19 i20 i21))) i14), D.int IntKind.i64 (onI (hdB (mkB (jn (lb l2))) (Sta.mk i14 i15 (Die.mk i16 i17 i18 i19 i20 i21))) i15), D.int IntKind.i64 (onI (hdB (mkB (jn (lb l2))) (Sta.mk i14 i15 (Die.mk i16 i17 i18 i19 i20 i21))) i16), D.int IntKind.i64 (onI (hdB (mkB (jn (lb l2))) (Sta.mk i14 i15 (Die.mk i16 i17 i18 i19 i20 i21))) i17), D.int IntKind.i64 (onI (hdB (mkB (jn (lb l2))) (Sta.mk i14 i15 (Die.mk i16 i17 i18 i19 i20 i21))) i18), D.int IntKind.i64 (onI (hdB (mkB (jn (lb l2))) (Sta.mk i14 i15 (Die.mk i16 i17 i18 i19 i20 i21))) i19), D.int IntKind.i64 (onI (hdB (mkB (jn (lb l2))) (Sta.mk i14 i15 (Die.mk i16 i17 i18 i19 i20 i21))) i20), D.int IntKind.i64 (onI (hdB (mkB (jn (lb l2))) (Sta.mk i14 i15 (Die.mk i16 i17 i18 i19 i20 i21))) i21), D.int IntKind.i64 (onI (hdB (mkB (jn (lb l2))) (Sta.mk i14 i15 (Die.mk i16 i17 i18 i19 i20 i21))) (Gl.x (hdG (mkB (jn (lb l2))) (Sta.mk i14 i15 (Die.mk i16 i17 i18 i19 i20 i21))))), D.int IntKind.i64 (onI (hdB (mkB (jn (lb l2))) (Sta.mk i14 i15 (Die.mk i16 i17 i18 i19 i20 i21))) (Gl.y (hdG (mkB (jn (lb l2))) (Sta.mk i14 i15 (Die.mk i16 i17 i18 i19 i20 i21))))), D.int IntKind.i64 (onI (hdB (mkB (jn (lb l2))) (Sta.mk i14 i15 (Die.mk i16 i17 i18 i19 i20 i21))) (Gl.t (hdG (mkB (jn (lb l2))) (Sta.mk i14 i15 (Die.mk i16 i17 i18 i19 i20 i21)))))], Q.one (D.bool (hdB (mkB (jn (lb l2))) (Sta.mk i14 i15 (Die.mk i16 i17 i18 i19 i20 i21))))] else none else none := by kernel_rfl
noncomputable def impl_MakePuzzle.res (n : Nat) (a0 : Int) (a1 : Int) (a2 : Int) : Option (List Q) :=
  bif !inR a0 (2 : Int) (5 : Int) then some [Q.agg [D.str (ByteArray.mk #[]), D.int IntKind.i64 (0 : Int), D.int IntKind.i64 (0 : Int), D.int IntKind.i64 (0 : Int), D.int IntKind.i64 (0 : Int), D.int IntKind.i64 (0 : Int), D.int IntKind.i64 (0 : Int), D.int IntKind.i64 (0 : Int), D.int IntKind.i64 (0 : Int), D.int IntKind.i64 (0 : Int), D.int IntKind.i64 (0 : Int), D.int IntKind.i64 (0 : Int)], Q.one (D.bool false)] else bif !inR a1 (2 : Int) (5 : Int) then some [Q.agg [D.str (ByteArray.mk #[]), D.int IntKind.i64 (0 : Int), D.int IntKind.i64 (0 : Int), D.int IntKind.i64 (0 : Int), D.int IntKind.i64 (0 : Int), D.int IntKind.i64 (0 : Int), D.int IntKind.i64 (0 : Int), D.int IntKind.i64 (0 : Int), D.int IntKind.i64 (0 : Int), D.int IntKind.i64 (0 : Int), D.int IntKind.i64 (0 : Int), D.int IntKind.i64 (0 : Int)], Q.one (D.bool false)] else bif !inR a2 (0 : Int) (9999 : Int) then some [Q.agg [D.str (ByteArray.mk #[]), D.int IntKind.i64 (0 : Int), D.int IntKind.i64 (0 : Int), D.int IntKind.i64 (0 : Int), D.int IntKind.i64 (0 : Int), D.int IntKind.i64 (0 : Int), D.int IntKind.i64 (0 : Int), D.int IntKind.i64 (0 : Int), D.int IntKind.i64 (0 : Int), D.int IntKind.i64 (0 : Int), D.int IntKind.i64 (0 : Int), D.int IntKind.i64 (0 : Int)], Q.one (D.bool false)] else impl_MakePuzzle.l7 n n a0 a1 a1 (0 : Int) (ByteArray.mk #[]) (0 : Int) (0 : Int) (0 : Int) (0 : Int) (0 : Int) (0 : Int) (0 : Int) (0 : Int) (0 : Int) (0 : Int) (0 : Int) a2 []
theorem impl_MakePuzzle.run (n : Nat) (a0 : Int) (a1 : Int) (a2 : Int) :
    run1 impl_MakePuzzle.cfg [RK.agg [LK.str, LK.int IntKind.i64, LK.int IntKind.i64, LK.int IntKind.i64, LK.int IntKind.i64, LK.int IntKind.i64, LK.int IntKind.i64, LK.int IntKind.i64, LK.int IntKind.i64, LK.int IntKind.i64, LK.int IntKind.i64, LK.int IntKind.i64], RK.one LK.bool] n Tryd.f36 [Q.one (D.int IntKind.i64 a0), Q.one (D.int IntKind.i64 a1), Q.one (D.int IntKind.i64 a2)] = impl_MakePuzzle.res n a0 a1 a2 := by kernel_rfl
theorem impl_MakePuzzle.ev {n : Nat} {a0 : Int} {a1 : Int} {a2 : Int} {r : List Q} (h : impl_MakePuzzle.res n a0 a1 a2 = some r) : Snd Tryd.prog C0 36 [.one (.int .i64 a0), .one (.int .i64 a1), .one (.int .i64 a2)] r :=
  snd_ev (C := impl_MakePuzzle.cfg) cfg0 mix rfl rfl rfl rfl rfl (.cons impl_in.ok (.cons impl_Die_roll.ok (.cons impl_grid_text.ok (.cons impl_hardest.ok .nil)))) (.cons impl_MakePuzzle_1.ok .nil) rfl Tryd.func36 (by kernel_rfl) (by kernel_rfl) rfl ((impl_MakePuzzle.run n a0 a1 a2).trans h)

theorem rollB_n (d : Die) : rollB d 110 = roll d 0 := rfl
theorem rollB_e (d : Die) : rollB d 101 = roll d 1 := rfl
theorem nest8_set (B : List (List UInt8)) (k : Nat) (r : List UInt8) : (B.map u8C.encs).set k (u8C.encs r) = (B.set k r).map u8C.encs := by rw [List.map_set]
theorem nest8_get (B : List (List UInt8)) (k : Nat) : (B.map u8C.encs).getD k [] = u8C.encs (B.getD k []) := by
  rw [List.getD_eq_getElem?_getD, List.getElem?_map, List.getD_eq_getElem?_getD]
  cases B[k]? <;> rfl
theorem set_getD {α : Type} (l : List α) (k : Nat) (a : α) : l.set k (l.getD k a) = l := by
  apply List.ext_getElem?
  intro i
  rw [List.getElem?_set]
  split
  · rename_i h
    subst h
    split
    · rename_i h
      rw [List.getD_eq_getElem?_getD, List.getElem?_eq_getElem h]; rfl
    · rename_i h
      rw [List.getElem?_eq_none (by omega)]
  · rfl
section
variable {n : Nat} {s4 : ByteArray} {i5 i6 i7 i8 i9 i10 i11 i12 i13 i14 i15 : Int}
theorem impl_MakePuzzle.l10_run {m7 : Nat} {i0 i1 i2 i3 : Int} {nest : List (List (List D))} {W : Nat} (hW : W ≤ 100) : ∀ (d k m : Nat) (z : Int) (cs : List UInt8), k + d = W → cs.length = k → 0 ≤ z → z < 10007 →
    impl_MakePuzzle.l10 n m7 (m + d) i0 i1 i2 i3 (W : Int) (k : Int) s4 i5 i6 i7 i8 i9 i10 i11 i12 i13 i14 i15 z nest (u8C.encs cs) = impl_MakePuzzle.l10 n m7 m i0 i1 i2 i3 (W : Int) (W : Int) s4 i5 i6 i7 i8 i9 i10 i11 i12 i13 i14 i15 (lcgN d z) nest (u8C.encs (cs ++ mkCs d z)) := by
  intro d
  induction d with
  | zero =>
    intro k m z cs hk hc h0 h1
    obtain rfl : k = W := by omega
    rw [Nat.add_zero, lcgN, mkCs, List.append_nil]
  | succ d ih =>
    intro k m z cs hk hc h0 h1
    have g1 : (k : Int) < (W : Int) := by omega
    have g2 : cs.length + 1 ≤ 17179869184 := by omega
    have g3 : inR z 0 10006 = true := by unfold inR; simp; omega
    have hz := lcg_in z
    have e35 : u8C.encs cs ++ [[D.int .u8 35]] = u8C.encs (cs ++ [35]) := u8C_snoc cs 35
    have e46 : u8C.encs cs ++ [[D.int .u8 46]] = u8C.encs (cs ++ [46]) := u8C_snoc cs 46
    have step := fun c => ih (k + 1) m (lcg z) (cs ++ [c]) (by omega) (by simp [hc]) hz.1 hz.2
    rw [show m + (d + 1) = (m + d) + 1 by omega, impl_MakePuzzle.l10_eq, lcgN, mkCs]
    simp -implicitDefEqProofs only [g1, g2, g3, Cod.encs_len, decide_true, cond_true, e35, e46, wrap_succ (show k ≤ LIM by unfold LIM; omega)]
    rw [show cs ++ sgnZ z :: mkCs d (lcg z) = (cs ++ [sgnZ z]) ++ mkCs d (lcg z) by simp]
    unfold sgnZ
    cases lcg z % 4 == 0 with
    | false =>
      simp -implicitDefEqProofs only [cond_false]
      exact step 46
    | true =>
      simp -implicitDefEqProofs only [cond_true]
      exact step 35
theorem impl_MakePuzzle.l7_run {i1 : Int} {W H M : Nat} (hW : W ≤ 100) (hH : H ≤ 100) (hn : n = (M + 1) + W) : ∀ (d k m : Nat) (z : Int) (rows : List (List UInt8)), k + d = H → rows.length = k → 0 ≤ z → z < 10007 →
    impl_MakePuzzle.l7 n (m + d) (W : Int) i1 (H : Int) (k : Int) s4 i5 i6 i7 i8 i9 i10 i11 i12 i13 i14 i15 z (rows.map u8C.encs) = impl_MakePuzzle.l7 n m (W : Int) i1 (H : Int) (H : Int) s4 i5 i6 i7 i8 i9 i10 i11 i12 i13 i14 i15 (lcgN (W * d) z) ((rows ++ mkRows d W z).map u8C.encs) := by
  intro d
  induction d with
  | zero =>
    intro k m z rows hk hc h0 h1
    obtain rfl : k = H := by omega
    rw [Nat.add_zero, Nat.mul_zero, lcgN, mkRows, List.append_nil]
  | succ d ih =>
    intro k m z rows hk hc h0 h1
    have g1 : (k : Int) < (H : Int) := by omega
    have g2 : rows.length + 1 ≤ 17179869184 := by omega
    have g3 : ¬ (W : Int) < (W : Int) := by omega
    have hz := lcgN_in W h0 h1
    have inner := impl_MakePuzzle.l10_run (n := n) (s4 := s4) (i5 := i5) (i6 := i6) (i7 := i7) (i8 := i8) (i9 := i9) (i10 := i10) (i11 := i11) (i12 := i12) (i13 := i13) (i14 := i14) (i15 := i15) (m7 := m + d) (i0 := (W : Int)) (i1 := i1) (i2 := (H : Int)) (i3 := (k : Int)) (nest := rows.map u8C.encs) hW W 0 (M + 1) z [] (by omega) rfl h0 h1
    rw [← hn, Cod.encs_nil, List.nil_append] at inner
    have step := ih (k + 1) m (lcgN W z) (rows ++ [mkCs W z]) (by omega) (by simp [hc]) hz.1 hz.2
    rw [show m + (d + 1) = (m + d) + 1 by omega, impl_MakePuzzle.l7_eq, mkRows, Nat.mul_succ, Nat.add_comm (W * d) W, lcgN_add, show rows ++ mkCs W z :: mkRows d W (lcgN W z) = (rows ++ [mkCs W z]) ++ mkRows d W (lcgN W z) by simp, ← step]
    simp -implicitDefEqProofs only [g1, decide_true, cond_true]
    refine Eq.trans inner ?_
    rw [impl_MakePuzzle.l10_eq]
    simp -implicitDefEqProofs only [g2, g3, decide_true, decide_false, cond_true, cond_false, List.length_map, wrap_succ (show k ≤ LIM by unfold LIM; omega), List.map_append, List.map_cons, List.map_nil]
theorem impl_MakePuzzle.l22_run {z X Y : Int} {nest : List (List (List D))} {K : Nat} (hK : K ≤ 10) : ∀ (d k m : Nat) (D : Die), k + d = K →
    impl_MakePuzzle.l22 n (m + d) (K : Int) (k : Int) s4 i5 i6 i7 i8 i9 i10 i11 i12 i13 i14 i15 z nest X Y D.t D.n D.e D.s D.w D.b = impl_MakePuzzle.l22 n m (K : Int) (K : Int) s4 i5 i6 i7 i8 i9 i10 i11 i12 i13 i14 i15 z nest X Y (rollN 0 d D).t (rollN 0 d D).n (rollN 0 d D).e (rollN 0 d D).s (rollN 0 d D).w (rollN 0 d D).b := by
  intro d
  induction d with
  | zero =>
    intro k m D hk
    obtain rfl : k = K := by omega
    rw [Nat.add_zero, rollN]
  | succ d ih =>
    intro k m D hk
    have g1 : (k : Int) < (K : Int) := by omega
    rw [show m + (d + 1) = (m + d) + 1 by omega, impl_MakePuzzle.l22_eq, rollN, ← ih (k + 1) m (roll D 0) (by omega)]
    simp -implicitDefEqProofs only [g1, decide_true, cond_true, Die.eta, rollB_n, wrap_succ (show k ≤ LIM by unfold LIM; omega)]
theorem impl_MakePuzzle.l26_run {X Y : Int} {nest : List (List (List D))} {K : Nat} (hK : K ≤ 10) : ∀ (d k m : Nat) (D : Die), k + d = K →
    impl_MakePuzzle.l26 n (m + d) (K : Int) (k : Int) s4 i5 i6 i7 i8 i9 i10 i11 i12 i13 i14 i15 nest X Y D.t D.n D.e D.s D.w D.b = impl_MakePuzzle.l26 n m (K : Int) (K : Int) s4 i5 i6 i7 i8 i9 i10 i11 i12 i13 i14 i15 nest X Y (rollN 1 d D).t (rollN 1 d D).n (rollN 1 d D).e (rollN 1 d D).s (rollN 1 d D).w (rollN 1 d D).b := by
  intro d
  induction d with
  | zero =>
    intro k m D hk
    obtain rfl : k = K := by omega
    rw [Nat.add_zero, rollN]
  | succ d ih =>
    intro k m D hk
    have g1 : (k : Int) < (K : Int) := by omega
    rw [show m + (d + 1) = (m + d) + 1 by omega, impl_MakePuzzle.l26_eq, rollN, ← ih (k + 1) m (roll D 1) (by omega)]
    simp -implicitDefEqProofs only [g1, decide_true, cond_true, Die.eta, rollB_e, wrap_succ (show k ≤ LIM by unfold LIM; omega)]
theorem impl_MakePuzzle.l31_run {X Y a b c e f g : Int} {rows : List (List UInt8)} (hl : rows.length ≤ 100) : ∀ (d k m : Nat), k + d = rows.length →
    impl_MakePuzzle.l31 n (m + d) ((rows.length : Nat) : Int) (k : Int) s4 i5 i6 i7 i8 i9 i10 i11 i12 i13 i14 i15 X Y a b c e f g (strC.encs ((rows.take k).map mkB)) (rows.map u8C.encs) = impl_MakePuzzle.l31 n m ((rows.length : Nat) : Int) ((rows.length : Nat) : Int) s4 i5 i6 i7 i8 i9 i10 i11 i12 i13 i14 i15 X Y a b c e f g (strC.encs (rows.map mkB)) (rows.map u8C.encs) := by
  intro d
  induction d with
  | zero =>
    intro k m hk
    obtain rfl : k = rows.length := by omega
    rw [Nat.add_zero, List.take_length]
  | succ d ih =>
    intro k m hk
    have hk' : k < rows.length := by omega
    have g1 : (k : Int) < ((rows.length : Nat) : Int) := by omega
    have g2 : (rows.take k).length + 1 ≤ 17179869184 := by rw [List.length_take]; omega
    have eg : (rows.map u8C.encs).getD k [] = u8C.encs rows[k] := by rw [nest8_get, List.getD_eq_getElem?_getD, List.getElem?_eq_getElem hk']; rfl
    have es : (rows.map u8C.encs).set k (u8C.encs rows[k]) = rows.map u8C.encs := by
      rw [← eg]; exact set_getD _ _ _
    have et : (rows.take (k + 1)).map mkB = (rows.take k).map mkB ++ [mkB rows[k]] := by rw [List.take_add_one, List.getElem?_eq_getElem hk', List.map_append]; rfl
    have em : ByteArray.mk (List.toArray rows[k]) = mkB rows[k] := rfl
    have step := ih (k + 1) m (by omega)
    rw [et] at step
    rw [show m + (d + 1) = (m + d) + 1 by omega, impl_MakePuzzle.l31_eq]
    simp -implicitDefEqProofs only [g1, g2, Cod.encs_len, List.length_map, Int.natCast_nonneg, Int.toNat_natCast, decide_true, cond_true, eg, es, rowStr_u8, Option.map_some, Option.bind_some, em, strC_snoc, wrap_succ (show k ≤ LIM by unfold LIM; omega)]
    exact step
theorem impl_MakePuzzle.tail {X Y z : Int} {rows : List (List UInt8)} (hn : 100 ≤ n) (hl : rows.length ≤ 10) (hj : (jn rows).length < 17179869184) (D : Die) :
    impl_MakePuzzle.l22 n n (lcg z % 4) 0 s4 i5 i6 i7 i8 i9 i10 i11 i12 i13 i14 i15 (lcg z) (rows.map u8C.encs) X Y D.t D.n D.e D.s D.w D.b = some [.agg (hdP (mkB (jn rows)) ⟨X, Y, rollN 1 (lcg (lcg z) % 4).toNat (rollN 0 (lcg z % 4).toNat D)⟩), .one (.bool (hdB (mkB (jn rows)) ⟨X, Y, rollN 1 (lcg (lcg z) % 4).toNat (rollN 0 (lcg z % 4).toNat D)⟩))] := by
  have hz := lcg_in z
  have hz2 := lcg_in (lcg z)
  obtain ⟨k, hk⟩ : ∃ k : Nat, (k : Int) = lcg z % 4 := ⟨(lcg z % 4).toNat, by omega⟩
  obtain ⟨M, hM⟩ : ∃ M, n = M + 1 + k := ⟨n - 1 - k, by omega⟩
  obtain ⟨k2, hk2⟩ : ∃ k : Nat, (k : Int) = lcg (lcg z) % 4 := ⟨(lcg (lcg z) % 4).toNat, by omega⟩
  obtain ⟨M2, hM2⟩ : ∃ M, n = M + 1 + k2 := ⟨n - 1 - k2, by omega⟩
  obtain ⟨M3, hM3⟩ : ∃ M, n = M + 1 + rows.length := ⟨n - 1 - rows.length, by omega⟩
  have key := impl_MakePuzzle.l22_run (n := n) (s4 := s4) (i5 := i5) (i6 := i6) (i7 := i7) (i8 := i8) (i9 := i9) (i10 := i10) (i11 := i11) (i12 := i12) (i13 := i13) (i14 := i14) (i15 := i15) (z := lcg z) (X := X) (Y := Y) (nest := rows.map u8C.encs) (K := k) (by omega) k 0 (M + 1) D (by omega)
  rw [← hM] at key
  have c0 : ((0 : Nat) : Int) = 0 := rfl
  rw [c0] at key
  rw [← hk, ← hk2, Int.toNat_natCast, Int.toNat_natCast]
  refine Eq.trans key ?_
  have g1 : ¬ (k : Int) < (k : Int) := by omega
  have g2 : inR (lcg z) 0 10006 = true := by unfold inR; simp; omega
  rw [impl_MakePuzzle.l22_eq]
  simp -implicitDefEqProofs only [g1, g2, decide_false, cond_false, cond_true, ← hk2]
  have key2 := impl_MakePuzzle.l26_run (n := n) (s4 := s4) (i5 := i5) (i6 := i6) (i7 := i7) (i8 := i8) (i9 := i9) (i10 := i10) (i11 := i11) (i12 := i12) (i13 := i13) (i14 := i14) (i15 := i15) (X := X) (Y := Y) (nest := rows.map u8C.encs) (K := k2) (by omega) k2 0 (M2 + 1) (rollN 0 k D) (by omega)
  rw [← hM2, c0] at key2
  refine Eq.trans key2 ?_
  have g3 : ¬ (k2 : Int) < (k2 : Int) := by omega
  rw [impl_MakePuzzle.l26_eq]
  simp -implicitDefEqProofs only [g3, decide_false, cond_false, List.length_map]
  generalize rollN 1 k2 (rollN 0 k D) = DD
  have key3 := impl_MakePuzzle.l31_run (n := n) (s4 := s4) (i5 := i5) (i6 := i6) (i7 := i7) (i8 := i8) (i9 := i9) (i10 := i10) (i11 := i11) (i12 := i12) (i13 := i13) (i14 := i14) (i15 := i15) (X := X) (Y := Y) (a := DD.t) (b := DD.n) (c := DD.e) (e := DD.s) (f := DD.w) (g := DD.b) (rows := rows) (by omega) rows.length 0 (M3 + 1) (by omega)
  rw [← hM3, c0, List.take_zero, List.map_nil, Cod.encs_nil] at key3
  refine Eq.trans key3 ?_
  have g4 : ¬ ((rows.length : Nat) : Int) < ((rows.length : Nat) : Int) := by omega
  have hd : strC.decs (strC.encs (rows.map mkB)) = some (rows.map mkB) := Cod.decs_encs (by rw [List.length_map]; unfold LIM; omega)
  have g5 : (jn rows).length ≤ 17179869184 := by omega
  rw [impl_MakePuzzle.l31_eq]
  simp -implicitDefEqProofs only [g4, g5, hj, hd, decide_false, decide_true, cond_false, cond_true, Option.bind_some, lb_mkB, mkB_size, Die.eta]
  rfl
end
def impl_MakePuzzle.stub : Stub
  | [.one (.int .i64 w), .one (.int .i64 h), .one (.int .i64 z)] => .ret [.agg (Sp.mzP w h z), .one (.bool (Sp.mzB w h z))]
  | _ => .fail
theorem impl_MakePuzzle.ok : StubOk Tryd.prog C0 36 impl_MakePuzzle.stub := by
  intro args res h
  unfold impl_MakePuzzle.stub at h
  split at h
  · rename_i w h z
    cases h
    obtain ⟨N, hN⟩ : ∃ N, 100 ≤ N := ⟨100, Nat.le_refl _⟩
    refine impl_MakePuzzle.ev (n := N) ?_
    unfold impl_MakePuzzle.res mzP mzB
    cases hw : inR w 2 5 with
    | false => rfl
    | true =>
    cases hh : inR h 2 5 with
    | false => rfl
    | true =>
    cases hz : inR z 0 9999 with
    | false => rfl
    | true =>
    obtain ⟨⟨w1, w2⟩, ⟨v1, v2⟩, e1, e2, e3, e4⟩ := mz_wh hw hh
    have hz' := hz
    unfold inR at hz'
    simp only [Bool.and_eq_true, decide_eq_true_eq] at hz'
    obtain ⟨z1, z2⟩ := hz'
    have hat := mzAt_in (z := z) w1 v1
    have hin := lcgN_in (w.toNat * h.toNat) z1 (show z < 10007 by omega)
    have hz1 := lcg_in (lcgN (w.toNat * h.toNat) z)
    have hz2 := lcg_in (lcg (lcgN (w.toNat * h.toNat) z))
    obtain ⟨hR1, hR2, hR3⟩ := mz_rows z hw hh
    have eQ : ∀ x, onS (true && (true && (true && x))) = onS x := fun x => rfl
    have eI : ∀ x, onI (true && (true && (true && x))) = onI x := fun x => rfl
    have hwW : ((w.toNat : Nat) : Int) = w := by omega
    have hhH : ((h.toNat : Nat) : Int) = h := by omega
    obtain ⟨M, hM⟩ : ∃ M, N = (M + 1) + w.toNat := ⟨N - 1 - w.toNat, by omega⟩
    obtain ⟨M2, hM2⟩ : ∃ M, N = (M + 1) + h.toNat := ⟨N - 1 - h.toNat, by omega⟩
    have key := impl_MakePuzzle.l7_run (n := N) (s4 := ByteArray.mk #[]) (i5 := 0) (i6 := 0) (i7 := 0) (i8 := 0) (i9 := 0) (i10 := 0) (i11 := 0) (i12 := 0) (i13 := 0) (i14 := 0) (i15 := 0) (i1 := h) (W := w.toNat) (H := h.toNat) (M := M) (by omega) (by omega) hM h.toNat 0 (M2 + 1) z [] (by omega) rfl z1 (by omega)
    rw [← hM2, List.map_nil, List.nil_append, hwW, hhH] at key
    simp -implicitDefEqProofs only [Bool.not_true, cond_false]
    refine Eq.trans key ?_
    have hr := mkRows_rw w.toNat h.toNat z
    have hY : (mzAt w h z / w).toNat < (mkRows h.toNat w.toNat z).length := by rw [hr.len]; omega
    have hYi : mzAt w h z / w < (((mkRows h.toNat w.toNat z).length : Nat) : Int) := by rw [hr.len]; omega
    have hrowL : ((mkRows h.toNat w.toNat z).getD (mzAt w h z / w).toNat []).length = w.toNat := by
      rw [List.getD_eq_getElem?_getD, List.getElem?_eq_getElem hY]; exact hr.row _ (List.getElem_mem hY)
    have hXi : mzAt w h z % w < ((w.toNat : Nat) : Int) := by omega
    have g0 : ¬ h < h := by omega
    have g1 : inR (lcgN (w.toNat * h.toNat) z) 0 10006 = true := by unfold inR; simp; omega
    have g2 : inR ((w.toNat * h.toNat : Nat) : Int) 1 100 = true := by unfold inR; rw [Bool.and_eq_true, decide_eq_true_eq, decide_eq_true_eq]; omega
    have g3 : ¬ w = 0 := by omega
    have g4 : inR (lcg (lcgN (w.toNat * h.toNat) z)) 0 10006 = true := by unfold inR; simp; omega
    have a0 : lcg (lcgN (w.toNat * h.toNat) z) % ((w.toNat * h.toNat : Nat) : Int) = mzAt w h z := by rw [← e2]; rfl
    have a1 : 0 ≤ mzAt w h z := by rw [← a0]; exact Int.emod_nonneg _ (by omega)
    have a2 : mzAt w h z < ((w.toNat * h.toNat : Nat) : Int) := by rw [← a0]; exact Int.emod_lt_of_pos _ (Int.natCast_pos.2 (by omega : 0 < w.toNat * h.toNat))
    have q1 : Int.tmod (mzAt w h z) w = mzAt w h z % w := Int.tmod_eq_emod_of_nonneg a1
    have q2 : IntKind.wrap .i64 (Int.tdiv (mzAt w h z) w) = mzAt w h z / w := by
      rw [Int.tdiv_eq_ediv_of_nonneg a1, wrap_in (by omega) (by omega)]
    have e46 : ∀ cs i, setRow 1 (u8C.encs cs) i 0 [D.int .u8 46] = u8C.encs (cs.set i 46) := fun cs i => u8C_set cs i 46
    have hR : (mkRows h.toNat w.toNat z).set (mzAt w h z / w).toNat (((mkRows h.toNat w.toNat z).getD (mzAt w h z / w).toNat []).set (mzAt w h z % w).toNat 46) = mzR w h z := rfl
    rw [impl_MakePuzzle.l7_eq]
    simp -implicitDefEqProofs only [g0, g1, g2, g3, g4, e1, a0, q1, q2, hat.1, hat.2.2.1, hYi, hXi, hrowL, List.length_map, nest8_get, Cod.encs_len, e46, nest8_set, hR, decide_false, decide_true, cond_false, cond_true, Bool.not_false]
    have hjl : (jn (mzR w h z)).length < 17179869184 := by
      have := jn_le w.toNat (mzR w h z) (fun x hx => Nat.le_of_eq (hR1.row x hx))
      rw [hR1.len] at this
      have h2 : h.toNat * (w.toNat + 1) ≤ 5 * 6 := Nat.mul_le_mul (by omega) (by omega)
      omega
    have fin := impl_MakePuzzle.tail (n := N) (s4 := ByteArray.mk #[]) (i5 := 0) (i6 := 0) (i7 := 0) (i8 := 0) (i9 := 0) (i10 := 0) (i11 := 0) (i12 := 0) (i13 := 0) (i14 := 0) (i15 := 0) (X := mzAt w h z % w) (Y := mzAt w h z / w) (z := lcg (lcgN (w.toNat * h.toNat) z)) (rows := mzR w h z) hN (by rw [hR1.len]; omega) hjl ⟨1, 2, 3, 5, 4, 6⟩
    refine Eq.trans fin ?_
    have eZ2 : mzZ 2 w h z = lcg (lcg (lcgN (w.toNat * h.toNat) z)) := by unfold mzZ; rw [lcgN_add]; rfl
    have eZ3 : mzZ 3 w h z = lcg (lcg (lcg (lcgN (w.toNat * h.toNat) z))) := by unfold mzZ; rw [lcgN_add]; rfl
    rw [← eZ3, ← eZ2]
    rfl
  · cases h
/-! laws_FnExactMakePuzzle -/
noncomputable def laws_FnExactMakePuzzle.cfg : Cfg := { C0 with keep := fun _ => none, nb := 0, M := tabM [(20, laws_eqPuzzle.stub), (35, spec_MakePuzzle.stub), (36, impl_MakePuzzle.stub)], MM := tabB [] }
noncomputable def laws_FnExactMakePuzzle.res (n : Nat) (a0 : Int) (a1 : Int) (a2 : Int) : Option (List Q) :=
  bif decide (onS (mzB a0 a1 a2) (mzQ a0 a1 a2) = onS (mzB a0 a1 a2) (mzQ a0 a1 a2) ∧ onI (mzB a0 a1 a2) (Sta.x (mzS a0 a1 a2)) = onI (mzB a0 a1 a2) (Sta.x (mzS a0 a1 a2)) ∧ onI (mzB a0 a1 a2) (Sta.y (mzS a0 a1 a2)) = onI (mzB a0 a1 a2) (Sta.y (mzS a0 a1 a2)) ∧ onI (mzB a0 a1 a2) (Die.t (Sta.d (mzS a0 a1 a2))) = onI (mzB a0 a1 a2) (Die.t (Sta.d (mzS a0 a1 a2))) ∧ onI (mzB a0 a1 a2) (Die.n (Sta.d (mzS a0 a1 a2))) = onI (mzB a0 a1 a2) (Die.n (Sta.d (mzS a0 a1 a2))) ∧ onI (mzB a0 a1 a2) (Die.e (Sta.d (mzS a0 a1 a2))) = onI (mzB a0 a1 a2) (Die.e (Sta.d (mzS a0 a1 a2))) ∧ onI (mzB a0 a1 a2) (Die.s (Sta.d (mzS a0 a1 a2))) = onI (mzB a0 a1 a2) (Die.s (Sta.d (mzS a0 a1 a2))) ∧ onI (mzB a0 a1 a2) (Die.w (Sta.d (mzS a0 a1 a2))) = onI (mzB a0 a1 a2) (Die.w (Sta.d (mzS a0 a1 a2))) ∧ onI (mzB a0 a1 a2) (Die.b (Sta.d (mzS a0 a1 a2))) = onI (mzB a0 a1 a2) (Die.b (Sta.d (mzS a0 a1 a2))) ∧ onI (mzB a0 a1 a2) (Gl.x (hdG (mzQ a0 a1 a2) (mzS a0 a1 a2))) = onI (mzB a0 a1 a2) (Gl.x (hdG (mzQ a0 a1 a2) (mzS a0 a1 a2))) ∧ onI (mzB a0 a1 a2) (Gl.y (hdG (mzQ a0 a1 a2) (mzS a0 a1 a2))) = onI (mzB a0 a1 a2) (Gl.y (hdG (mzQ a0 a1 a2) (mzS a0 a1 a2))) ∧ onI (mzB a0 a1 a2) (Gl.t (hdG (mzQ a0 a1 a2) (mzS a0 a1 a2))) = onI (mzB a0 a1 a2) (Gl.t (hdG (mzQ a0 a1 a2) (mzS a0 a1 a2)))) then bif !mzB a0 a1 a2 == mzB a0 a1 a2 then some [Q.one (D.bool false)] else some [Q.one (D.bool true)] else none
theorem laws_FnExactMakePuzzle.run (n : Nat) (a0 : Int) (a1 : Int) (a2 : Int) :
    run1 laws_FnExactMakePuzzle.cfg [RK.one LK.bool] n Tryd.f10 [Q.one (D.int IntKind.i64 a0), Q.one (D.int IntKind.i64 a1), Q.one (D.int IntKind.i64 a2)] = laws_FnExactMakePuzzle.res n a0 a1 a2 := by kernel_rfl
theorem laws_FnExactMakePuzzle.ev {n : Nat} {a0 : Int} {a1 : Int} {a2 : Int} {r : List Q} (h : laws_FnExactMakePuzzle.res n a0 a1 a2 = some r) : Snd Tryd.prog C0 10 [.one (.int .i64 a0), .one (.int .i64 a1), .one (.int .i64 a2)] r :=
  snd_ev (C := laws_FnExactMakePuzzle.cfg) cfg0 mix rfl rfl rfl rfl rfl (.cons laws_eqPuzzle.ok (.cons spec_MakePuzzle.ok (.cons impl_MakePuzzle.ok .nil))) .nil rfl Tryd.func10 (by kernel_rfl) (by kernel_rfl) rfl ((laws_FnExactMakePuzzle.run n a0 a1 a2).trans h)

theorem laws_FnExactMakePuzzle.law (w h z : Int) : Snd Tryd.prog C0 10 [.one (.int .i64 w), .one (.int .i64 h), .one (.int .i64 z)] [.one (.bool true)] := by
  refine laws_FnExactMakePuzzle.ev (n := 0) ?_
  unfold laws_FnExactMakePuzzle.res
  simp only [beq_self_eq_true, bne_self_eq_false, decide_true, cond_true, cond_false, and_self, Bool.not_true]
end Go.Proofs.EV.PL
