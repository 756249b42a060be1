import Derived.Test.YtopdhhekaacjbaaPlA
set_option linter.unusedVariables false
set_option linter.unusedSimpArgs false
/-! Towers that fit. -/
namespace Go.Proofs.EV.PL
open Go Go.Proofs Go.Proofs.EV Sp
/-! spec_clSide -/
noncomputable def spec_clSide.cfg : Cfg := { C0 with keep := fun | 3 => some [1, 5, 8, 9, 10] | _ => none, nb := 0, M := tabM [(55, spec_diFaces.stub)], MM := tabB [] }
noncomputable def spec_clSide.l3 (n : Nat) (m3 : Nat) (i0 : Int) (l1 : List (List D)) (i2 : Int) (i3 : Int) (l4 : List (List D)) : Option (List Q) :=
  loopAt spec_clSide.cfg [RK.own (1 : Nat)] n Try.f65 [1, 1, 0, 1, 0] [] m3 (St.mk [V.undef, V.one true (D.int IntKind.i64 i0), V.undef, V.undef, V.undef, V.rw (0 : Nat), V.undef, V.undef, V.one false (D.sl (6 : Nat) l1), V.one true (D.int IntKind.i64 i2), V.one true (D.int IntKind.i64 i3), V.undef, V.undef, V.undef, V.undef, V.undef, V.undef, V.undef, V.undef, V.undef, V.undef, V.undef, V.undef, V.undef, V.undef] [Ob.row false (1 : Nat) l4])
theorem spec_clSide.l3_eq (n : Nat) (m3 : Nat) (i0 : Int) (l1 : List (List D)) (i2 : Int) (i3 : Int) (l4 : List (List D)) :
    spec_clSide.l3 n (m3 + 1) i0 l1 i2 i3 l4 = bif decide (i3 < i2) then bif decide ((0 : Int) ≤ i3) then bif decide (i3 < (↑(List.length l1) : Int)) then Option.bind (Option.bind (some (cellD l1 (Int.toNat i3) (0 : Nat))) (D.int? IntKind.i64)) fun (i1 : Int) => Option.bind (Option.bind (some (cellD l1 (Int.toNat i3) (1 : Nat))) (D.int? IntKind.i64)) fun (i2_1 : Int) => Option.bind (Option.bind (some (cellD l1 (Int.toNat i3) (2 : Nat))) (D.int? IntKind.i64)) fun (i3_1 : Int) => Option.bind (Option.bind (some (cellD l1 (Int.toNat i3) (3 : Nat))) (D.int? IntKind.i64)) fun (i4 : Int) => Option.bind (Option.bind (some (cellD l1 (Int.toNat i3) (4 : Nat))) (D.int? IntKind.i64)) fun (i5 : Int) => Option.bind (Option.bind (some (cellD l1 (Int.toNat i3) (5 : Nat))) (D.int? IntKind.i64)) fun (i6 : Int) => bif decide ((0 : Int) ≤ IntKind.wrap IntKind.i64 ((1 : Int) + i0)) then bif decide (IntKind.wrap IntKind.i64 ((1 : Int) + i0) < (6 : Int)) then Option.bind (Option.bind (some (cellD [[D.int IntKind.i64 i1], [D.int IntKind.i64 i2_1], [D.int IntKind.i64 i3_1], [D.int IntKind.i64 i4], [D.int IntKind.i64 i5], [D.int IntKind.i64 i6]] (Int.toNat (IntKind.wrap IntKind.i64 ((1 : Int) + i0))) (0 : Nat))) (D.int? IntKind.i64)) fun (i7 : Int) => bif decide (List.length l4 + (1 : Nat) ≤ (17179869184 : Nat)) then spec_clSide.l3 n m3 i0 l1 i2 (IntKind.wrap IntKind.i64 (i3 + (1 : Int))) (l4 ++ [[D.int IntKind.i64 i7]]) else none else none else none else none else none else some [Q.one (D.sl (1 : Nat) l4)] := by kernel_rfl
noncomputable def spec_clSide.res (n : Nat) (a0 : List (List D)) (a1 : Int) : Option (List Q) :=
  spec_clSide.l3 n n a1 a0 (↑(List.length a0) : Int) (0 : Int) []
theorem spec_clSide.run (n : Nat) (a0 : List (List D)) (a1 : Int) :
    run1 spec_clSide.cfg [RK.own (1 : Nat)] n Try.f65 [Q.one (D.sl (6 : Nat) a0), Q.one (D.int IntKind.i64 a1)] = spec_clSide.res n a0 a1 := by kernel_rfl
theorem spec_clSide.ev {n : Nat} {a0 : List (List D)} {a1 : Int} {r : List Q} (h : spec_clSide.res n a0 a1 = some r) : Snd Try.prog C0 65 [.one (.sl 6 a0), .one (.int .i64 a1)] r :=
  snd_ev (C := spec_clSide.cfg) cfg0 mix rfl rfl rfl rfl rfl (.cons spec_diFaces.ok .nil) .nil rfl Try.func65 (by kernel_rfl) (by kernel_rfl) rfl ((spec_clSide.run n a0 a1).trans h)

theorem side_cell (d : Die) {k : Nat} (hk : k < 4) : D.int? .i64 (cellD [[D.int .i64 d.t], [D.int .i64 d.n], [D.int .i64 d.e], [D.int .i64 d.s], [D.int .i64 d.w], [D.int .i64 d.b]] (k + 1) 0) = some (side d k) := by
  rcases (show k = 0 ∨ k = 1 ∨ k = 2 ∨ k = 3 by omega) with rfl | rfl | rfl | rfl <;> rfl
theorem spec_clSide.l3_run {n : Nat} {l : List Die} {k : Nat} (hl : l.length ≤ LIM) (hk : k < 4) : ∀ (d i m : Nat), i + d = l.length → d < m →
    spec_clSide.l3 n m k (dieC.encs l) l.length i (intC.encs (sideL (l.take i) k)) = some [Q.one (.sl 1 (intC.encs (sideL l k)))] := by
  intro d
  induction d with
  | zero =>
    intro i m hi hm
    obtain ⟨m, rfl⟩ : ∃ m', m = m' + 1 := ⟨m - 1, by omega⟩
    obtain rfl : i = l.length := by omega
    have h1 : ¬ (l.length : Int) < l.length := by omega
    rw [spec_clSide.l3_eq, List.take_length]
    simp only [h1, decide_false, cond_false]
  | succ d ih =>
    intro i m hi hm
    obtain ⟨m, rfl⟩ : ∃ m', m = m' + 1 := ⟨m - 1, by omega⟩
    have hlt : i < l.length := by omega
    have hw : IntKind.wrap .i64 (1 + (k : Int)) = ((k + 1 : Nat) : Int) := by rw [wrap_in (by omega) (by omega)]; omega
    have h6 : ((k + 1 : Nat) : Int) < 6 := by omega
    have hlen : (sideL (l.take i) k).length + 1 ≤ 17179869184 := by rw [sideL_len, List.length_take]; unfold LIM at hl; omega
    rw [spec_clSide.l3_eq]
    simp only [Cod.encs_len, Int.ofNat_lt, hlt, decide_true, cond_true, Int.natCast_nonneg, Int.toNat_natCast, dieC_t' hlt, dieC_n' hlt, dieC_e' hlt, dieC_s' hlt, dieC_w' hlt, dieC_b' hlt, Option.bind_some, hw, h6, side_cell _ hk, hlen, intC_snoc, wrap_succ (show i ≤ LIM by omega)]
    rw [← sideL_snoc, ← List.take_succ_eq_append_getElem hlt]
    exact ih (i + 1) m (by omega) (by omega)
def spec_clSide.stub : Stub
  | [.one (.sl 6 es), .one (.int .i64 k)] => .any (dieC.decs es) fun l => .gd (Sp.in4 k) (.ret [.one (.sl 1 (intC.encs (Sp.sideL l k.toNat)))])
  | _ => .fail
theorem in4_nat {k : Int} (h : in4 k = true) : ∃ j : Nat, k = (j : Int) ∧ j < 4 := by
  have := of_decide_eq_true h
  exact ⟨k.toNat, by omega, by omega⟩
theorem in4_of {k : Nat} (h : k < 4) : in4 (k : Int) = true := by unfold in4; rw [decide_eq_true_eq]; omega
theorem spec_clSide.ok : StubOk Try.prog C0 65 spec_clSide.stub := by
  intro args res h
  unfold spec_clSide.stub at h
  split at h
  · obtain ⟨l, h1, h0⟩ := any_out h
    obtain ⟨rfl, hl⟩ := Cod.decs_inv h1
    obtain ⟨h2, h3⟩ := gd_out h0
    obtain ⟨k, rfl, hk⟩ := in4_nat h2
    cases h3
    refine spec_clSide.ev (n := l.length + 1) ?_
    unfold spec_clSide.res
    rw [Cod.encs_len]
    exact spec_clSide.l3_run (n := l.length + 1) hl hk l.length 0 (l.length + 1) (by omega) (by omega)
  · cases h
/-! spec_l1Has -/
noncomputable def spec_l1Has.cfg : Cfg := { C0 with keep := fun | 2 => some [1, 7, 8, 9] | _ => none, nb := 0, M := tabM [], MM := tabB [] }
noncomputable def spec_l1Has.l2 (n : Nat) (m2 : Nat) (i0 : Int) (l1 : List (List D)) (i2 : Int) (i3 : Int) : Option (List Q) :=
  loopAt spec_l1Has.cfg [RK.one LK.bool] n Try.f66 [1, 0, 1, 0] [] m2 (St.mk [V.undef, V.one true (D.int IntKind.i64 i0), V.undef, V.undef, V.undef, V.undef, V.undef, V.one false (D.sl (1 : Nat) l1), V.one true (D.int IntKind.i64 i2), V.one true (D.int IntKind.i64 i3), V.undef, V.undef, V.undef, V.undef, V.undef, V.undef, V.undef] [])
theorem spec_l1Has.l2_eq (n : Nat) (m2 : Nat) (i0 : Int) (l1 : List (List D)) (i2 : Int) (i3 : Int) :
    spec_l1Has.l2 n (m2 + 1) i0 l1 i2 i3 = bif decide (i3 < i2) then bif decide ((0 : Int) ≤ i3) then bif decide (i3 < (↑(List.length l1) : Int)) then Option.bind (Option.bind (some (cellD l1 (Int.toNat i3) (0 : Nat))) (D.int? IntKind.i64)) fun (i1 : Int) => bif i1 == i0 then some [Q.one (D.bool true)] else spec_l1Has.l2 n m2 i0 l1 i2 (IntKind.wrap IntKind.i64 (i3 + (1 : Int))) else none else none else some [Q.one (D.bool false)] := by kernel_rfl
noncomputable def spec_l1Has.res (n : Nat) (a0 : List (List D)) (a1 : Int) : Option (List Q) :=
  spec_l1Has.l2 n n a1 a0 (↑(List.length a0) : Int) (0 : Int)
theorem spec_l1Has.run (n : Nat) (a0 : List (List D)) (a1 : Int) :
    run1 spec_l1Has.cfg [RK.one LK.bool] n Try.f66 [Q.one (D.sl (1 : Nat) a0), Q.one (D.int IntKind.i64 a1)] = spec_l1Has.res n a0 a1 := by kernel_rfl
theorem spec_l1Has.ev {n : Nat} {a0 : List (List D)} {a1 : Int} {r : List Q} (h : spec_l1Has.res n a0 a1 = some r) : Snd Try.prog C0 66 [.one (.sl 1 a0), .one (.int .i64 a1)] r :=
  snd_ev (C := spec_l1Has.cfg) cfg0 mix rfl rfl rfl rfl rfl .nil .nil rfl Try.func66 (by kernel_rfl) (by kernel_rfl) rfl ((spec_l1Has.run n a0 a1).trans h)

theorem spec_l1Has.l2_run {n : Nat} {l : List Int} {x : Int} (hl : l.length ≤ LIM) : ∀ (d i m : Nat), i + d = l.length → d < m →
    spec_l1Has.l2 n m x (intC.encs l) l.length i = some [Q.one (.bool (hasI (l.drop i) x))] := by
  intro d
  induction d with
  | zero =>
    intro i m hi hm
    obtain ⟨m, rfl⟩ : ∃ m', m = m' + 1 := ⟨m - 1, by omega⟩
    obtain rfl : i = l.length := by omega
    have h1 : ¬ (l.length : Int) < l.length := by omega
    rw [spec_l1Has.l2_eq, List.drop_length]
    simp only [h1, decide_false, cond_false]
    rfl
  | succ d ih =>
    intro i m hi hm
    obtain ⟨m, rfl⟩ : ∃ m', m = m' + 1 := ⟨m - 1, by omega⟩
    have hlt : i < l.length := by omega
    rw [spec_l1Has.l2_eq, List.drop_eq_getElem_cons hlt, hasI_cons]
    simp only [Cod.encs_len, Int.ofNat_lt, hlt, decide_true, cond_true, Int.natCast_nonneg, Int.toNat_natCast, intC_int' hlt, Option.bind_some, wrap_succ (show i ≤ LIM by omega), ih (i + 1) m (by omega) (by omega), ieq]
    cases decide (l[i] = x) <;> rfl
def spec_l1Has.stub : Stub
  | [.one (.sl 1 es), .one (.int .i64 x)] => .any (intC.decs es) fun l => .ret [.one (.bool (Sp.hasI l x))]
  | _ => .fail
theorem spec_l1Has.ok : StubOk Try.prog C0 66 spec_l1Has.stub := by
  intro args res h
  unfold spec_l1Has.stub at h
  split at h
  · obtain ⟨l, h1, h0⟩ := any_out h
    obtain ⟨rfl, hl⟩ := Cod.decs_inv h1
    cases h0
    refine spec_l1Has.ev (n := l.length + 1) ?_
    unfold spec_l1Has.res
    rw [Cod.encs_len]
    exact spec_l1Has.l2_run (n := l.length + 1) hl l.length 0 (l.length + 1) (by omega) (by omega)
  · cases h
/-! spec_clFits -/
noncomputable def spec_clFits.cfg : Cfg := { C0 with keep := fun | 2 => some [0, 1, 5] | 6 => some [0, 1, 5, 6, 16, 17, 18] | _ => none, nb := 0, M := tabM [(65, spec_clSide.stub), (20, spec_l1In.stub), (66, spec_l1Has.stub)], MM := tabB [] }
noncomputable def spec_clFits.l2 (n : Nat) (m2 : Nat) (l0 : List (List D)) (i1 : Int) (i2 : Int) : Option (List Q) :=
  loopAt spec_clFits.cfg [RK.one LK.bool] n Try.f49 [1, 0, 1, 0] [] m2 (St.mk [V.one false (D.sl (6 : Nat) l0), V.one true (D.int IntKind.i64 i1), V.undef, V.undef, V.undef, V.one true (D.int IntKind.i64 i2), V.undef, V.undef, V.undef, V.undef, V.undef, V.undef, V.undef, V.undef, V.undef, V.undef, V.undef, V.undef, V.undef, V.undef, V.undef, V.undef, V.undef, V.undef, V.undef, V.undef, V.undef, V.undef, V.undef, V.undef, V.undef, V.undef, V.undef, V.undef, V.undef] [])
noncomputable def spec_clFits.l6 (n : Nat) (m2 : Nat) (m6 : Nat) (l0 : List (List D)) (i1 : Int) (i2 : Int) (i3 : Int) (i4 : Int) (l5 : List (List D)) : Option (List Q) :=
  loopAt spec_clFits.cfg [RK.one LK.bool] n Try.f49 [1, 0, 1, 0, 0, 1, 0, 0, 1, 1, 0] [m2] m6 (St.mk [V.one false (D.sl (6 : Nat) l0), V.one true (D.int IntKind.i64 i1), V.undef, V.undef, V.undef, V.one true (D.int IntKind.i64 i2), V.rw (0 : Nat), V.undef, V.undef, V.undef, V.undef, V.undef, V.undef, V.undef, V.undef, V.undef, V.rw (0 : Nat), V.one true (D.int IntKind.i64 i3), V.one true (D.int IntKind.i64 i4), V.undef, V.undef, V.undef, V.undef, V.undef, V.undef, V.undef, V.undef, V.undef, V.undef, V.undef, V.undef, V.undef, V.undef, V.undef, V.undef] [Ob.row false (1 : Nat) l5])
theorem spec_clFits.l2_eq (n : Nat) (m2 : Nat) (l0 : List (List D)) (i1 : Int) (i2 : Int) :
    spec_clFits.l2 n (m2 + 1) l0 i1 i2 = bif decide (i2 < (4 : Int)) then Option.bind (Cod.decs dieC l0) fun (l1 : List Die) => bif in4 i2 then spec_clFits.l6 n m2 n l0 i1 i2 (↑(List.length (Cod.encs intC (sideL l1 (Int.toNat i2)))) : Int) (0 : Int) (Cod.encs intC (sideL l1 (Int.toNat i2))) else none else some [Q.one (D.bool true)] := by kernel_rfl
theorem spec_clFits.l6_eq (n : Nat) (m2 : Nat) (m6 : Nat) (l0 : List (List D)) (i1 : Int) (i2 : Int) (i3 : Int) (i4 : Int) (l5 : List (List D)) :
    spec_clFits.l6 n m2 (m6 + 1) l0 i1 i2 i3 i4 l5 = bif decide (i4 < i3) then bif decide ((0 : Int) ≤ i4) then bif decide (i4 < (↑(List.length l5) : Int)) then Option.bind (Option.bind (some (cellD l5 (Int.toNat i4) (0 : Nat))) (D.int? IntKind.i64)) fun (i2_1 : Int) => bif !inR i2_1 (1 : Int) i1 then some [Q.one (D.bool false)] else bif decide ((0 : Int) ≤ i4) then bif decide (i4 ≤ (↑(List.length l5) : Int)) then Option.bind (Cod.decs intC (List.take (Int.toNat i4 - (0 : Nat)) (List.drop (0 : Nat) l5))) fun (l3 : List Int) => bif hasI l3 i2_1 then some [Q.one (D.bool false)] else spec_clFits.l6 n m2 m6 l0 i1 i2 i3 (IntKind.wrap IntKind.i64 (i4 + (1 : Int))) l5 else none else none else none else none else spec_clFits.l2 n m2 l0 i1 (IntKind.wrap IntKind.i64 (i2 + (1 : Int))) := by kernel_rfl
noncomputable def spec_clFits.res (n : Nat) (a0 : List (List D)) (a1 : Int) : Option (List Q) :=
  spec_clFits.l2 n n a0 a1 (0 : Int)
theorem spec_clFits.run (n : Nat) (a0 : List (List D)) (a1 : Int) :
    run1 spec_clFits.cfg [RK.one LK.bool] n Try.f49 [Q.one (D.sl (6 : Nat) a0), Q.one (D.int IntKind.i64 a1)] = spec_clFits.res n a0 a1 := by kernel_rfl
theorem spec_clFits.ev {n : Nat} {a0 : List (List D)} {a1 : Int} {r : List Q} (h : spec_clFits.res n a0 a1 = some r) : Snd Try.prog C0 49 [.one (.sl 6 a0), .one (.int .i64 a1)] r :=
  snd_ev (C := spec_clFits.cfg) cfg0 mix rfl rfl rfl rfl rfl (.cons spec_clSide.ok (.cons spec_l1In.ok (.cons spec_l1Has.ok .nil))) .nil rfl Try.func49 (by kernel_rfl) (by kernel_rfl) rfl ((spec_clFits.run n a0 a1).trans h)

theorem spec_clFits.l6_run {n m2 : Nat} {t : List Die} {many : Int} {k : Nat} {l : List Int} (hl : l.length ≤ LIM) : ∀ (d i m : Nat), i + d = l.length → d < m →
    spec_clFits.l6 n m2 m (dieC.encs t) many k l.length i (intC.encs l) = bif okFrom many (l.take i) (l.drop i) then spec_clFits.l2 n m2 (dieC.encs t) many (IntKind.wrap .i64 ((k : Int) + 1)) else some [Q.one (.bool false)] := by
  intro d
  induction d with
  | zero =>
    intro i m hi hm
    obtain ⟨m, rfl⟩ : ∃ m', m = m' + 1 := ⟨m - 1, by omega⟩
    obtain rfl : i = l.length := by omega
    have h1 : ¬ (l.length : Int) < l.length := by omega
    rw [spec_clFits.l6_eq, List.drop_length]
    simp only [h1, decide_false, cond_false, okFrom, cond_true]
  | succ d ih =>
    intro i m hi hm
    obtain ⟨m, rfl⟩ : ∃ m', m = m' + 1 := ⟨m - 1, by omega⟩
    have hlt : i < l.length := by omega
    have hle : (i : Int) ≤ l.length := by omega
    have hd : intC.decs (List.take (i - 0) (List.drop 0 (intC.encs l))) = some (l.take i) := by
      rw [Nat.sub_zero, List.drop_zero, Cod.encs_take, Cod.decs_encs (by rw [List.length_take]; omega)]
    rw [spec_clFits.l6_eq, List.drop_eq_getElem_cons hlt, okFrom]
    simp only [Cod.encs_len, Int.ofNat_lt, hlt, hle, decide_true, cond_true, Int.natCast_nonneg, Int.toNat_natCast, intC_int' hlt, Option.bind_some, hd, wrap_succ (show i ≤ LIM by omega)]
    rw [ih (i + 1) m (by omega) (by omega), List.take_succ_eq_append_getElem hlt]
    show (bif !inR l[i] 1 many then _ else bif hasI (l.take i) l[i] then _ else _) = _
    rw [show (l.take i).contains l[i] = hasI (l.take i) l[i] from rfl]
    cases inR l[i] 1 many <;> cases hasI (l.take i) l[i] <;> simp
theorem spec_clFits.l2_run {n : Nat} {t : List Die} {many : Int} (ht : t.length ≤ LIM) (hn : t.length < n) : ∀ (q k m : Nat), k + q = 4 → q < m →
    spec_clFits.l2 n m (dieC.encs t) many k = some [Q.one (.bool (clFrom t many q k))] := by
  intro q
  induction q with
  | zero =>
    intro k m hk hm
    obtain ⟨m, rfl⟩ : ∃ m', m = m' + 1 := ⟨m - 1, by omega⟩
    obtain rfl : k = 4 := by omega
    rw [spec_clFits.l2_eq]
    rfl
  | succ q ih =>
    intro k m hk hm
    obtain ⟨m, rfl⟩ : ∃ m', m = m' + 1 := ⟨m - 1, by omega⟩
    have h4 : (k : Int) < 4 := by omega
    have e := spec_clFits.l6_run (n := n) (m2 := m) (t := t) (many := many) (k := k) (l := sideL t k) (by rw [sideL_len]; exact ht) t.length 0 n (by rw [sideL_len]; omega) (by omega)
    rw [spec_clFits.l2_eq]
    simp only [h4, decide_true, cond_true, Cod.decs_encs ht, Option.bind_some, in4_of (show k < 4 by omega), Cod.encs_len, Int.toNat_natCast]
    refine Eq.trans e ?_
    rw [wrap_succ (show k ≤ LIM by unfold LIM; omega), ih (k + 1) m (by omega) (by omega), List.take_zero, List.drop_zero, clFrom]
    cases okFrom many [] (sideL t k) <;> rfl
def spec_clFits.stub : Stub
  | [.one (.sl 6 es), .one (.int .i64 many)] => .any (dieC.decs es) fun l => .ret [.one (.bool (Sp.clF l many))]
  | _ => .fail
theorem spec_clFits.ok : StubOk Try.prog C0 49 spec_clFits.stub := by
  intro args res h
  unfold spec_clFits.stub at h
  split at h
  · obtain ⟨l, h1, h0⟩ := any_out h
    obtain ⟨rfl, hl⟩ := Cod.decs_inv h1
    cases h0
    refine spec_clFits.ev (n := l.length + 10) ?_
    exact spec_clFits.l2_run (n := l.length + 10) hl (by omega) 4 0 (l.length + 10) (by omega) (by omega)
  · cases h
/-! impl_Die_sides -/
noncomputable def impl_Die_sides.cfg : Cfg := { C0 with keep := fun _ => none, nb := 0, M := tabM [], MM := tabB [] }
noncomputable def impl_Die_sides.res (n : Nat) (a0_0 : Int) (a0_1 : Int) (a0_2 : Int) (a0_3 : Int) (a0_4 : Int) (a0_5 : Int) : Option (List Q) :=
  some [Q.agg [D.int IntKind.i64 a0_1, D.int IntKind.i64 a0_2, D.int IntKind.i64 a0_3, D.int IntKind.i64 a0_4]]
theorem impl_Die_sides.run (n : Nat) (a0_0 : Int) (a0_1 : Int) (a0_2 : Int) (a0_3 : Int) (a0_4 : Int) (a0_5 : Int) :
    run1 impl_Die_sides.cfg [RK.agg [LK.int IntKind.i64, LK.int IntKind.i64, LK.int IntKind.i64, LK.int IntKind.i64]] n Try.f70 [Q.agg [D.int IntKind.i64 a0_0, D.int IntKind.i64 a0_1, D.int IntKind.i64 a0_2, D.int IntKind.i64 a0_3, D.int IntKind.i64 a0_4, D.int IntKind.i64 a0_5]] = impl_Die_sides.res n a0_0 a0_1 a0_2 a0_3 a0_4 a0_5 := by kernel_rfl
theorem impl_Die_sides.ev {n : Nat} {a0_0 : Int} {a0_1 : Int} {a0_2 : Int} {a0_3 : Int} {a0_4 : Int} {a0_5 : Int} {r : List Q} (h : impl_Die_sides.res n a0_0 a0_1 a0_2 a0_3 a0_4 a0_5 = some r) : Snd Try.prog C0 70 [.agg [.int .i64 a0_0, .int .i64 a0_1, .int .i64 a0_2, .int .i64 a0_3, .int .i64 a0_4, .int .i64 a0_5]] r :=
  snd_ev (C := impl_Die_sides.cfg) cfg0 mix rfl rfl rfl rfl rfl .nil .nil rfl Try.func70 (by kernel_rfl) (by kernel_rfl) rfl ((impl_Die_sides.run n a0_0 a0_1 a0_2 a0_3 a0_4 a0_5).trans h)

def impl_Die_sides.stub : Stub
  | [.agg [.int .i64 t, .int .i64 n, .int .i64 e, .int .i64 s, .int .i64 w, .int .i64 b]] => .ret [.agg [.int .i64 n, .int .i64 e, .int .i64 s, .int .i64 w]]
  | _ => .fail
theorem impl_Die_sides.ok : StubOk Try.prog C0 70 impl_Die_sides.stub := by
  intro args res h
  unfold impl_Die_sides.stub at h
  split at h
  · cases h; exact impl_Die_sides.ev (n := 0) rfl
  · cases h
/-! impl_fits_1 -/
noncomputable def impl_fits_1.cfg : Cfg := { C0 with keep := fun _ => none, nb := 0, M := tabM [(70, impl_Die_sides.stub)], MM := tabB [] }
noncomputable def impl_fits_1.res (n : Nat) (a0_0 : Int) (a0_1 : Int) (a0_2 : Int) (a0_3 : Int) (a0_4 : Int) (a0_5 : Int) (c0 : Int) (c1 : Int) : Option (List Q) :=
  bif decide ((0 : Int) ≤ c0) then bif decide (c0 < (4 : Int)) then some [Q.one (D.bool (List.getD [a0_1, a0_2, a0_3, a0_4] (Int.toNat c0) (0 : Int) == c1))] else none else none
theorem impl_fits_1.run (n : Nat) (a0_0 : Int) (a0_1 : Int) (a0_2 : Int) (a0_3 : Int) (a0_4 : Int) (a0_5 : Int) (c0 : Int) (c1 : Int) :
    run1 impl_fits_1.cfg [RK.one LK.bool] n Try.f71 [Q.agg [D.int IntKind.i64 a0_0, D.int IntKind.i64 a0_1, D.int IntKind.i64 a0_2, D.int IntKind.i64 a0_3, D.int IntKind.i64 a0_4, D.int IntKind.i64 a0_5], Q.one (D.pt [D.int IntKind.i64 c0]), Q.one (D.pt [D.int IntKind.i64 c1])] = impl_fits_1.res n a0_0 a0_1 a0_2 a0_3 a0_4 a0_5 c0 c1 := by kernel_rfl
theorem impl_fits_1.ev {n : Nat} {a0_0 : Int} {a0_1 : Int} {a0_2 : Int} {a0_3 : Int} {a0_4 : Int} {a0_5 : Int} {c0 : Int} {c1 : Int} {r : List Q} (h : impl_fits_1.res n a0_0 a0_1 a0_2 a0_3 a0_4 a0_5 c0 c1 = some r) : Snd Try.prog C0 71 [.agg [.int .i64 a0_0, .int .i64 a0_1, .int .i64 a0_2, .int .i64 a0_3, .int .i64 a0_4, .int .i64 a0_5], .one (.pt [.int .i64 c0]), .one (.pt [.int .i64 c1])] r :=
  snd_ev (C := impl_fits_1.cfg) cfg0 mix rfl rfl rfl rfl rfl (.cons impl_Die_sides.ok .nil) .nil rfl Try.func71 (by kernel_rfl) (by kernel_rfl) rfl ((impl_fits_1.run n a0_0 a0_1 a0_2 a0_3 a0_4 a0_5 c0 c1).trans h)

def impl_fits_1.stub : Stub
  | [.agg [.int .i64 t, .int .i64 n, .int .i64 e, .int .i64 s, .int .i64 w, .int .i64 b], .one (.pt [.int .i64 c0]), .one (.pt [.int .i64 c1])] => .gd (Sp.in4 c0) (.ret [.one (.bool (decide (Sp.sideAt ⟨t, n, e, s, w, b⟩ c0 = c1)))])
  | _ => .fail
theorem impl_fits_1.ok : StubOk Try.prog C0 71 impl_fits_1.stub := by
  intro args res h
  unfold impl_fits_1.stub at h
  split at h
  · obtain ⟨h2, h3⟩ := gd_out h
    obtain ⟨k, rfl, hk⟩ := in4_nat h2
    cases h3
    refine impl_fits_1.ev (n := 0) ?_
    have h4 : (k : Int) < 4 := by omega
    unfold impl_fits_1.res
    simp only [Int.natCast_nonneg, h4, decide_true, cond_true, ieq]
    rfl
  · cases h
/-! idx_fit -/
noncomputable def idx_fit.cfg : Cfg := { C0 with keep := fun | 2 => some [0, 1, 7, 8] | _ => none, nb := 0, M := tabM [(71, impl_fits_1.stub)], MM := tabB [] }
noncomputable def idx_fit.l2 (n : Nat) (m2 : Nat) (l0 : List (List D)) (i1 : Int) (i2 : Int) (i3 : Int) (i4 : Int) : Option (List Q) :=
  loopAt idx_fit.cfg [RK.one (LK.int IntKind.i64)] n Try.f67 [1, 0, 1, 0] [] m2 (St.mk [V.one false (D.sl (6 : Nat) l0), V.one false (D.fn (71 : Nat) [] [D.pt [D.int IntKind.i64 i1], D.pt [D.int IntKind.i64 i2]]), V.undef, V.undef, V.undef, V.undef, V.undef, V.one true (D.int IntKind.i64 i3), V.one true (D.int IntKind.i64 i4), V.undef, V.undef, V.undef, V.undef, V.undef, V.undef, V.undef, V.undef, V.undef, V.undef] [])
theorem idx_fit.l2_eq (n : Nat) (m2 : Nat) (l0 : List (List D)) (i1 : Int) (i2 : Int) (i3 : Int) (i4 : Int) :
    idx_fit.l2 n (m2 + 1) l0 i1 i2 i3 i4 = bif decide (i4 < i3) then bif decide ((0 : Int) ≤ i4) then bif decide (i4 < (↑(List.length l0) : Int)) then Option.bind (Option.bind (some (cellD l0 (Int.toNat i4) (0 : Nat))) (D.int? IntKind.i64)) fun (i1_1 : Int) => Option.bind (Option.bind (some (cellD l0 (Int.toNat i4) (1 : Nat))) (D.int? IntKind.i64)) fun (i2_1 : Int) => Option.bind (Option.bind (some (cellD l0 (Int.toNat i4) (2 : Nat))) (D.int? IntKind.i64)) fun (i3_1 : Int) => Option.bind (Option.bind (some (cellD l0 (Int.toNat i4) (3 : Nat))) (D.int? IntKind.i64)) fun (i4_1 : Int) => Option.bind (Option.bind (some (cellD l0 (Int.toNat i4) (4 : Nat))) (D.int? IntKind.i64)) fun (i5 : Int) => Option.bind (Option.bind (some (cellD l0 (Int.toNat i4) (5 : Nat))) (D.int? IntKind.i64)) fun (i6 : Int) => bif in4 i1 then bif decide (sideAt (Die.mk i1_1 i2_1 i3_1 i4_1 i5 i6) i1 = i2) then some [Q.one (D.int IntKind.i64 i4)] else idx_fit.l2 n m2 l0 i1 i2 i3 (IntKind.wrap IntKind.i64 (i4 + (1 : Int))) else none else none else none else some [Q.one (D.int IntKind.i64 (-1 : Int))] := by kernel_rfl
noncomputable def idx_fit.res (n : Nat) (a0 : List (List D)) (c0 : Int) (c1 : Int) : Option (List Q) :=
  idx_fit.l2 n n a0 c0 c1 (↑(List.length a0) : Int) (0 : Int)
theorem idx_fit.run (n : Nat) (a0 : List (List D)) (c0 : Int) (c1 : Int) :
    run1 idx_fit.cfg [RK.one (LK.int IntKind.i64)] n Try.f67 [Q.one (D.sl (6 : Nat) a0), Q.one (D.fn (71 : FuncId) [] [D.pt [D.int IntKind.i64 c0], D.pt [D.int IntKind.i64 c1]])] = idx_fit.res n a0 c0 c1 := by kernel_rfl
theorem idx_fit.ev {n : Nat} {a0 : List (List D)} {c0 : Int} {c1 : Int} {r : List Q} (h : idx_fit.res n a0 c0 c1 = some r) : Snd Try.prog C0 67 [.one (.sl 6 a0), .one (.fn 71 [] [.pt [.int .i64 c0], .pt [.int .i64 c1]])] r :=
  snd_ev (C := idx_fit.cfg) cfg0 mix rfl rfl rfl rfl rfl (.cons impl_fits_1.ok .nil) .nil rfl Try.func67 (by kernel_rfl) (by kernel_rfl) rfl ((idx_fit.run n a0 c0 c1).trans h)

theorem idx_fit.loop {n : Nat} {l : List Die} {c0 c1 : Int} (h4 : in4 c0 = true) (hl : l.length ≤ LIM) : ∀ (d k m : Nat), k + d = l.length → d < m →
    idx_fit.l2 n m (dieC.encs l) c0 c1 l.length k = some [Q.one (.int .i64 (Sp.idxFrom (fun x => decide (sideAt x c0 = c1)) (l.drop k) k))] := by
  intro d
  induction d with
  | zero =>
    intro k m hk hm
    obtain ⟨m, rfl⟩ : ∃ m', m = m' + 1 := ⟨m - 1, by omega⟩
    obtain rfl : k = l.length := by omega
    simp [idx_fit.l2_eq, Sp.idxFrom]
  | succ d ih =>
    intro k m hk hm
    obtain ⟨m, rfl⟩ : ∃ m', m = m' + 1 := ⟨m - 1, by omega⟩
    have hlt : k < l.length := by omega
    rw [idx_fit.l2_eq, List.drop_eq_getElem_cons hlt, Sp.idxFrom]
    simp only [Cod.encs_len, Int.ofNat_lt, hlt, decide_true, cond_true, Int.natCast_nonneg, Int.toNat_natCast, dieC_t' hlt, dieC_n' hlt, dieC_e' hlt, dieC_s' hlt, dieC_w' hlt, dieC_b' hlt, Option.bind_some, h4, Die.eta, wrap_succ (show k ≤ LIM by omega), ih (k + 1) m (by omega) (by omega)]
    cases decide (sideAt l[k] c0 = c1) <;> rfl
def idx_fit.stub : Stub
  | [.one (.sl 6 es), .one (.fn 71 [] [.pt [.int .i64 c0], .pt [.int .i64 c1]])] => .any (dieC.decs es) fun l => .gd (Sp.in4 c0) (.ret [.one (.int .i64 (Sp.idxFrom (fun x => decide (sideAt x c0 = c1)) l 0))])
  | _ => .fail
theorem idx_fit.ok : StubOk Try.prog C0 67 idx_fit.stub := by
  intro args res h
  unfold idx_fit.stub at h
  split at h
  · obtain ⟨l, h1, h0⟩ := any_out h
    obtain ⟨rfl, hl⟩ := Cod.decs_inv h1
    obtain ⟨h3, h4⟩ := gd_out h0
    cases h4
    refine idx_fit.ev (n := l.length + 1) ?_
    unfold idx_fit.res
    simpa using idx_fit.loop (n := l.length + 1) h3 hl l.length 0 (l.length + 1) (by omega) (by omega)
  · cases h
/-! con_fit -/
noncomputable def con_fit.cfg : Cfg := { C0 with keep := fun _ => none, nb := 0, M := tabM [(67, idx_fit.stub)], MM := tabB [] }
noncomputable def con_fit.res (n : Nat) (a0 : List (List D)) (c0 : Int) (c1 : Int) : Option (List Q) :=
  Option.bind (Cod.decs dieC a0) fun (l1 : List Die) => bif in4 c0 then some [Q.one (D.bool (decide (idxFrom (fun (x : Die) => decide (sideAt x c0 = c1)) l1 (0 : Nat) ≥ (0 : Int))))] else none
theorem con_fit.run (n : Nat) (a0 : List (List D)) (c0 : Int) (c1 : Int) :
    run1 con_fit.cfg [RK.one LK.bool] n Try.f50 [Q.one (D.sl (6 : Nat) a0), Q.one (D.fn (71 : FuncId) [] [D.pt [D.int IntKind.i64 c0], D.pt [D.int IntKind.i64 c1]])] = con_fit.res n a0 c0 c1 := by kernel_rfl
theorem con_fit.ev {n : Nat} {a0 : List (List D)} {c0 : Int} {c1 : Int} {r : List Q} (h : con_fit.res n a0 c0 c1 = some r) : Snd Try.prog C0 50 [.one (.sl 6 a0), .one (.fn 71 [] [.pt [.int .i64 c0], .pt [.int .i64 c1]])] r :=
  snd_ev (C := con_fit.cfg) cfg0 mix rfl rfl rfl rfl rfl (.cons idx_fit.ok .nil) .nil rfl Try.func50 (by kernel_rfl) (by kernel_rfl) rfl ((con_fit.run n a0 c0 c1).trans h)

def con_fit.stub : Stub
  | [.one (.sl 6 es), .one (.fn 71 [] [.pt [.int .i64 c0], .pt [.int .i64 c1]])] => .any (dieC.decs es) fun l => .gd (Sp.in4 c0) (.ret [.one (.bool (Sp.hasSide l c0 c1))])
  | _ => .fail
theorem con_fit.ok : StubOk Try.prog C0 50 con_fit.stub := by
  intro args res h
  unfold con_fit.stub at h
  split at h
  · obtain ⟨l, h1, h0⟩ := any_out h
    obtain ⟨rfl, hl⟩ := Cod.decs_inv h1
    obtain ⟨h3, h4⟩ := gd_out h0
    cases h4
    refine con_fit.ev (n := 0) ?_
    unfold con_fit.res
    simp only [Cod.decs_encs hl, Option.bind_some, h3, cond_true]
    rw [hasSide_any, ← Sp.idxFrom_any l _ 0]
  · cases h
/-! impl_fits -/
noncomputable def impl_fits.cfg : Cfg := { C0 with keep := fun | 2 => some [0, 2, 10, 11] | _ => none, nb := 0, M := tabM [(24, impl_in.stub), (70, impl_Die_sides.stub), (50, con_fit.stub)], MM := tabB [] }
noncomputable def impl_fits.l2 (n : Nat) (m2 : Nat) (l0 : List (List D)) (i1 : Int) (i2 : Int) (i3 : Int) (i4 : Int) (i5 : Int) (i6 : Int) : Option (List Q) :=
  loopAt impl_fits.cfg [RK.one LK.bool] n Try.f53 [1, 0, 1, 0] [] m2 (St.mk [V.one false (D.sl (6 : Nat) l0), V.undef, V.one true (D.int IntKind.i64 i1), V.undef, V.undef, V.undef, V.undef, V.undef, V.undef, V.undef, V.agg [V.one true (D.int IntKind.i64 i2), V.one true (D.int IntKind.i64 i3), V.one true (D.int IntKind.i64 i4), V.one true (D.int IntKind.i64 i5)], V.one true (D.int IntKind.i64 i6), V.undef, V.undef, V.undef, V.undef, V.undef, V.undef, V.undef, V.undef, V.undef, V.undef, V.undef, V.undef, V.undef] [])
theorem impl_fits.l2_eq (n : Nat) (m2 : Nat) (l0 : List (List D)) (i1 : Int) (i2 : Int) (i3 : Int) (i4 : Int) (i5 : Int) (i6 : Int) :
    impl_fits.l2 n (m2 + 1) l0 i1 i2 i3 i4 i5 i6 = bif decide (i6 < (4 : Int)) then bif decide ((0 : Int) ≤ i6) then bif decide (i6 < (4 : Int)) then bif !inR (List.getD [i2, i3, i4, i5] (Int.toNat i6) (0 : Int)) (1 : Int) i1 then some [Q.one (D.bool false)] else Option.bind (Cod.decs dieC l0) fun (l1 : List Die) => bif in4 i6 then bif hasSide l1 i6 (List.getD [i2, i3, i4, i5] (Int.toNat i6) (0 : Int)) then some [Q.one (D.bool false)] else impl_fits.l2 n m2 l0 i1 i2 i3 i4 i5 (IntKind.wrap IntKind.i64 (i6 + (1 : Int))) else none else none else none else some [Q.one (D.bool true)] := by kernel_rfl
noncomputable def impl_fits.res (n : Nat) (a0 : List (List D)) (a1_0 : Int) (a1_1 : Int) (a1_2 : Int) (a1_3 : Int) (a1_4 : Int) (a1_5 : Int) (a2 : Int) : Option (List Q) :=
  impl_fits.l2 n n a0 a2 a1_1 a1_2 a1_3 a1_4 (0 : Int)
theorem impl_fits.run (n : Nat) (a0 : List (List D)) (a1_0 : Int) (a1_1 : Int) (a1_2 : Int) (a1_3 : Int) (a1_4 : Int) (a1_5 : Int) (a2 : Int) :
    run1 impl_fits.cfg [RK.one LK.bool] n Try.f53 [Q.one (D.sl (6 : Nat) a0), Q.agg [D.int IntKind.i64 a1_0, D.int IntKind.i64 a1_1, D.int IntKind.i64 a1_2, D.int IntKind.i64 a1_3, D.int IntKind.i64 a1_4, D.int IntKind.i64 a1_5], Q.one (D.int IntKind.i64 a2)] = impl_fits.res n a0 a1_0 a1_1 a1_2 a1_3 a1_4 a1_5 a2 := by kernel_rfl
theorem impl_fits.ev {n : Nat} {a0 : List (List D)} {a1_0 : Int} {a1_1 : Int} {a1_2 : Int} {a1_3 : Int} {a1_4 : Int} {a1_5 : Int} {a2 : Int} {r : List Q} (h : impl_fits.res n a0 a1_0 a1_1 a1_2 a1_3 a1_4 a1_5 a2 = some r) : Snd Try.prog C0 53 [.one (.sl 6 a0), .agg [.int .i64 a1_0, .int .i64 a1_1, .int .i64 a1_2, .int .i64 a1_3, .int .i64 a1_4, .int .i64 a1_5], .one (.int .i64 a2)] r :=
  snd_ev (C := impl_fits.cfg) cfg0 mix rfl rfl rfl rfl rfl (.cons impl_in.ok (.cons impl_Die_sides.ok (.cons con_fit.ok .nil))) .nil rfl Try.func53 (by kernel_rfl) (by kernel_rfl) rfl ((impl_fits.run n a0 a1_0 a1_1 a1_2 a1_3 a1_4 a1_5 a2).trans h)

theorem impl_fits.l2_run {n : Nat} {t : List Die} {d : Die} {many : Int} (ht : t.length ≤ LIM) : ∀ (q k m : Nat), k + q = 4 → q < m →
    impl_fits.l2 n m (dieC.encs t) many d.n d.e d.s d.w k = some [Q.one (.bool (fitFrom t d many q k))] := by
  intro q
  induction q with
  | zero =>
    intro k m hk hm
    obtain ⟨m, rfl⟩ : ∃ m', m = m' + 1 := ⟨m - 1, by omega⟩
    obtain rfl : k = 4 := by omega
    rw [impl_fits.l2_eq]
    rfl
  | succ q ih =>
    intro k m hk hm
    obtain ⟨m, rfl⟩ : ∃ m', m = m' + 1 := ⟨m - 1, by omega⟩
    have h4 : (k : Int) < 4 := by omega
    rw [impl_fits.l2_eq, fitFrom]
    simp only [h4, Int.natCast_nonneg, decide_true, cond_true, Cod.decs_encs ht, Option.bind_some, in4_of (show k < 4 by omega), Int.toNat_natCast, wrap_succ (show k ≤ LIM by unfold LIM; omega), ih (k + 1) m (by omega) (by omega)]
    rw [show [d.n, d.e, d.s, d.w].getD k 0 = side d k from rfl, show hasSide t (k : Int) (side d k) = (sideL t k).contains (side d k) from rfl]
    cases inR (side d k) 1 many <;> cases (sideL t k).contains (side d k) <;> simp
def impl_fits.stub : Stub
  | [.one (.sl 6 es), .agg [.int .i64 t, .int .i64 n, .int .i64 e, .int .i64 s, .int .i64 w, .int .i64 b], .one (.int .i64 many)] => .any (dieC.decs es) fun l => .ret [.one (.bool (Sp.fit l ⟨t, n, e, s, w, b⟩ many))]
  | _ => .fail
theorem impl_fits.ok : StubOk Try.prog C0 53 impl_fits.stub := by
  intro args res h
  unfold impl_fits.stub at h
  split at h
  · rename_i es t n e s w b many
    obtain ⟨l, h1, h0⟩ := any_out h
    obtain ⟨rfl, hl⟩ := Cod.decs_inv h1
    cases h0
    refine impl_fits.ev (n := 10) ?_
    exact impl_fits.l2_run (n := 10) (d := ⟨t, n, e, s, w, b⟩) hl 4 0 10 (by omega) (by omega)
  · cases h
/-! slices_Clone_Simpl_Die_impl_Die -/
noncomputable def slices_Clone_Simpl_Die_impl_Die.cfg : Cfg := { C0 with keep := fun _ => none, nb := 0, M := tabM [], MM := tabB [] }
noncomputable def slices_Clone_Simpl_Die_impl_Die.res (n : Nat) (a0 : List (List D)) : Option (List Q) :=
  bif decide ((0 : Nat) < List.length a0) then bif List.all a0 fun (r : List D) => List.all r scalar then bif decide ((0 : Nat) + List.length a0 ≤ (17179869184 : Nat)) then some [Q.one (D.sl (6 : Nat) ([] ++ a0))] else none else none else none
theorem slices_Clone_Simpl_Die_impl_Die.run (n : Nat) (a0 : List (List D)) :
    run1 slices_Clone_Simpl_Die_impl_Die.cfg [RK.own (6 : Nat)] n Try.f54 [Q.one (D.sl (6 : Nat) a0)] = slices_Clone_Simpl_Die_impl_Die.res n a0 := by kernel_rfl
theorem slices_Clone_Simpl_Die_impl_Die.ev {n : Nat} {a0 : List (List D)} {r : List Q} (h : slices_Clone_Simpl_Die_impl_Die.res n a0 = some r) : Snd Try.prog C0 54 [.one (.sl 6 a0)] r :=
  snd_ev (C := slices_Clone_Simpl_Die_impl_Die.cfg) cfg0 mix rfl rfl rfl rfl rfl .nil .nil rfl Try.func54 (by kernel_rfl) (by kernel_rfl) rfl ((slices_Clone_Simpl_Die_impl_Die.run n a0).trans h)

def slices_Clone_Simpl_Die_impl_Die.stub : Stub
  | [.one (.sl 6 es)] => .any (dieC.decs es) fun l => .ret [.one (.sl 6 (dieC.encs l))]
  | _ => .fail
theorem slices_Clone_Simpl_Die_impl_Die.ok : StubOk Try.prog C0 54 slices_Clone_Simpl_Die_impl_Die.stub := by
  intro args res h
  unfold slices_Clone_Simpl_Die_impl_Die.stub at h
  split at h
  · obtain ⟨l, h1, h0⟩ := any_out h
    obtain ⟨rfl, hl⟩ := Cod.decs_inv h1
    cases h0
    cases l with
    | nil =>
      obtain ⟨i0, hi0⟩ := Option.isSome_iff_exists.1 (show (Try.prog.info? 40).isSome = true by kernel_rfl)
      exact cloneEmpty_ok (C := C0) Try.cloneDie i0 hi0 Try.sizeOf40 (by decide) (f := 54) rfl Try.func54 (by kernel_rfl) (by kernel_rfl) rfl
    | cons x l =>
      refine slices_Clone_Simpl_Die_impl_Die.ev (n := 0) ?_
      have e : slices_Clone_Simpl_Die_impl_Die.res 0 (dieC.encs (x :: l)) = (bif decide (0 < (dieC.encs (x :: l)).length) then bif (dieC.encs (x :: l)).all (fun r => r.all scalar) then bif decide (0 + (dieC.encs (x :: l)).length ≤ 17179869184) then some [Q.one (.sl 6 ([] ++ dieC.encs (x :: l)))] else none else none else none) := by kernel_rfl
      have h2 : (dieC.encs (x :: l)).all (fun r => r.all scalar) = true := by
        rw [List.all_eq_true]
        intro r hr
        obtain ⟨y, _, rfl⟩ := List.mem_map.1 hr
        rfl
      have h3 : 0 + (dieC.encs (x :: l)).length ≤ 17179869184 := by rw [Nat.zero_add, Cod.encs_len]; exact hl
      have h4 : 0 < (dieC.encs (x :: l)).length := by rw [Cod.encs_len]; simp
      rw [e, h2]
      simp only [cond_true, h3, h4, decide_true, List.nil_append]
  · cases h
end Go.Proofs.EV.PL
set_option linter.unusedVariables false
set_option linter.unusedSimpArgs false
/-! Towers, the reference's. -/
namespace Go.Proofs.EV.PL
open Go Go.Proofs Go.Proofs.EV Sp
theorem dieC_scalar (l : List Die) : (dieC.encs l).all (fun r => r.all scalar) = true := by
  rw [List.all_eq_true]
  intro r hr
  obtain ⟨y, _, rfl⟩ := List.mem_map.1 hr
  rfl
theorem lvl_out {q : Nat} {dice below : List Die} (h : lvl q dice below = true) : dice.length = below.length + q ∧ dice.length ≤ 4 ∧ clF below dice.length = true := by
  unfold lvl at h
  rw [Bool.and_eq_true, decide_eq_true_eq] at h
  exact ⟨h.1.1, h.1.2, h.2⟩
/-! bd0 -/
noncomputable def bd0.cfg : Cfg := { C0 with keep := fun | 6 => some [0, 1, 6, 7, 26, 27, 28] | _ => none, nb := 0, M := tabM [(23, spec_diWays.stub), (49, spec_clFits.stub)], MM := tabB [] }
noncomputable def bd0.l6 (n : Nat) (m6 : Nat) (l0 : List (List D)) (l1 : List (List D)) (i2 : Int) (i3 : Int) (i4 : Int) (l5 : List (List D)) (l6 : List (List D)) : Option (List Q) :=
  loopAt bd0.cfg [RK.own (6 : Nat), RK.one (LK.int IntKind.i64)] n Try.f29 [1, 1, 1, 1, 0, 1, 0] [] m6 (St.mk [V.one false (D.sl (6 : Nat) l0), V.one false (D.sl (6 : Nat) l1), V.undef, V.undef, V.undef, V.undef, V.rw (0 : Nat), V.one true (D.int IntKind.i64 i2), V.undef, V.undef, V.undef, V.undef, V.undef, V.undef, V.undef, V.undef, V.undef, V.undef, V.undef, V.undef, V.undef, V.undef, V.undef, V.undef, V.undef, V.undef, V.rw (1 : Nat), V.one true (D.int IntKind.i64 i3), V.one true (D.int IntKind.i64 i4), V.undef, V.undef, V.undef, V.undef, V.undef, V.undef, V.undef, V.undef, V.undef, V.undef, V.undef, V.undef, V.undef, V.undef, V.undef, V.undef, V.undef, V.undef, V.undef, V.undef, V.undef, V.undef, V.undef, V.undef, V.undef, V.undef, V.undef, V.undef, V.undef] [Ob.row false (6 : Nat) l5, Ob.row false (6 : Nat) l6])
theorem bd0.l6_eq (n : Nat) (m6 : Nat) (l0 : List (List D)) (l1 : List (List D)) (i2 : Int) (i3 : Int) (i4 : Int) (l5 : List (List D)) (l6 : List (List D)) :
    bd0.l6 n (m6 + 1) l0 l1 i2 i3 i4 l5 l6 = bif decide (i4 < i3) then bif decide ((0 : Int) ≤ i4) then bif decide (i4 < (↑(List.length l6) : Int)) then Option.bind (Option.bind (some (cellD l6 (Int.toNat i4) (0 : Nat))) (D.int? IntKind.i64)) fun (i7 : Int) => Option.bind (Option.bind (some (cellD l6 (Int.toNat i4) (1 : Nat))) (D.int? IntKind.i64)) fun (i8 : Int) => Option.bind (Option.bind (some (cellD l6 (Int.toNat i4) (2 : Nat))) (D.int? IntKind.i64)) fun (i9 : Int) => Option.bind (Option.bind (some (cellD l6 (Int.toNat i4) (3 : Nat))) (D.int? IntKind.i64)) fun (i10 : Int) => Option.bind (Option.bind (some (cellD l6 (Int.toNat i4) (4 : Nat))) (D.int? IntKind.i64)) fun (i11 : Int) => Option.bind (Option.bind (some (cellD l6 (Int.toNat i4) (5 : Nat))) (D.int? IntKind.i64)) fun (i12 : Int) => bif List.all l1 fun (r : List D) => List.all r scalar then bif decide ((0 : Nat) + List.length l1 ≤ (17179869184 : Nat)) then bif decide (List.length ([] ++ l1) + (1 : Nat) ≤ (17179869184 : Nat)) then Option.bind (Cod.decs dieC ([] ++ l1 ++ [[D.int IntKind.i64 i7, D.int IntKind.i64 i8, D.int IntKind.i64 i9, D.int IntKind.i64 i10, D.int IntKind.i64 i11, D.int IntKind.i64 i12]])) fun (l13 : List Die) => bif !clF l13 (↑(List.length l0) : Int) then bd0.l6 n m6 l0 l1 i2 i3 (IntKind.wrap IntKind.i64 (i4 + (1 : Int))) l5 l6 else none else none else none else none else none else none else some [Q.one (D.sl (6 : Nat) l5), Q.one (D.int IntKind.i64 i2)] := by kernel_rfl
noncomputable def bd0.res (n : Nat) (a0 : List (List D)) (a1 : List (List D)) : Option (List Q) :=
  bif (↑(List.length a1) : Int) == (↑(List.length a0) : Int) then bif List.all a1 fun (r : List D) => List.all r scalar then bif decide ((0 : Nat) + List.length a1 ≤ (17179869184 : Nat)) then some [Q.one (D.sl (6 : Nat) ([] ++ a1)), Q.one (D.int IntKind.i64 (1 : Int))] else none else none else bif decide ((↑(List.length a1) : Int) < (↑(List.length a0) : Int)) then Option.bind (Option.bind (some (cellD a0 (Int.toNat (↑(List.length a1) : Int)) (0 : Nat))) (D.int? IntKind.i64)) fun (i1 : Int) => Option.bind (Option.bind (some (cellD a0 (Int.toNat (↑(List.length a1) : Int)) (1 : Nat))) (D.int? IntKind.i64)) fun (i2 : Int) => Option.bind (Option.bind (some (cellD a0 (Int.toNat (↑(List.length a1) : Int)) (2 : Nat))) (D.int? IntKind.i64)) fun (i3 : Int) => Option.bind (Option.bind (some (cellD a0 (Int.toNat (↑(List.length a1) : Int)) (3 : Nat))) (D.int? IntKind.i64)) fun (i4 : Int) => Option.bind (Option.bind (some (cellD a0 (Int.toNat (↑(List.length a1) : Int)) (4 : Nat))) (D.int? IntKind.i64)) fun (i5 : Int) => Option.bind (Option.bind (some (cellD a0 (Int.toNat (↑(List.length a1) : Int)) (5 : Nat))) (D.int? IntKind.i64)) fun (i6 : Int) => bd0.l6 n n a0 a1 (0 : Int) (↑(List.length (Cod.encs dieC (Sp.ways (Die.mk i1 i2 i3 i4 i5 i6)))) : Int) (0 : Int) [] (Cod.encs dieC (Sp.ways (Die.mk i1 i2 i3 i4 i5 i6))) else none
theorem bd0.run (n : Nat) (a0 : List (List D)) (a1 : List (List D)) :
    run1 bd0.cfg [RK.own (6 : Nat), RK.one (LK.int IntKind.i64)] n Try.f29 [Q.one (D.sl (6 : Nat) a0), Q.one (D.sl (6 : Nat) a1)] = bd0.res n a0 a1 := by kernel_rfl
theorem bd0.ev {n : Nat} {a0 : List (List D)} {a1 : List (List D)} {r : List Q} (h : bd0.res n a0 a1 = some r) : Snd Try.prog C0 29 [.one (.sl 6 a0), .one (.sl 6 a1)] r :=
  snd_ev (C := bd0.cfg) cfg0 mix rfl rfl rfl rfl rfl (.cons spec_diWays.ok (.cons spec_clFits.ok .nil)) .nil rfl Try.func29 (by kernel_rfl) (by kernel_rfl) rfl ((bd0.run n a0 a1).trans h)

def bd0.stub : Stub
  | [.one (.sl 6 es), .one (.sl 6 es')] => .any (dieC.decs es) fun dice => .any (dieC.decs es') fun below => .gd (Sp.lvl 0 dice below) (.ret [.one (.sl 6 (dieC.encs (Sp.firstT dice 0 below))), .one (.int .i64 (Sp.numT dice 0 below))])
  | _ => .fail
theorem bd0.ok : StubOk Try.prog C0 29 bd0.stub := by
  intro args res h
  unfold bd0.stub at h
  split at h
  · obtain ⟨dice, h1, h0⟩ := any_out h
    obtain ⟨rfl, hl⟩ := Cod.decs_inv h1
    obtain ⟨below, h1', h0'⟩ := any_out h0
    obtain ⟨rfl, hl'⟩ := Cod.decs_inv h1'
    obtain ⟨h2, h3⟩ := gd_out h0'
    obtain ⟨hd, hd4, hc⟩ := lvl_out h2
    cases h3
    refine bd0.ev (n := 0) ?_
    have hne : (((below.length : Nat) : Int) == ((dice.length : Nat) : Int)) = true := by rw [ieq, decide_eq_true_eq]; omega
    have hb0 : below.length ≤ 17179869184 := by omega
    unfold bd0.res
    simp only [Cod.encs_len, hne, cond_true, dieC_scalar, Nat.zero_add, hb0, decide_true, List.nil_append]
    rfl
  · cases h
/-! bd1 -/
noncomputable def bd1.cfg : Cfg := { C0 with keep := fun | 6 => some [0, 1, 6, 7, 26, 27, 28] | _ => none, nb := 0, M := tabM [(23, spec_diWays.stub), (49, spec_clFits.stub), (29, bd0.stub)], MM := tabB [] }
noncomputable def bd1.l6 (n : Nat) (m6 : Nat) (l0 : List (List D)) (l1 : List (List D)) (i2 : Int) (i3 : Int) (i4 : Int) (l5 : List (List D)) (l6 : List (List D)) : Option (List Q) :=
  loopAt bd1.cfg [RK.own (6 : Nat), RK.one (LK.int IntKind.i64)] n Try.f29 [1, 1, 1, 1, 0, 1, 0] [] m6 (St.mk [V.one false (D.sl (6 : Nat) l0), V.one false (D.sl (6 : Nat) l1), V.undef, V.undef, V.undef, V.undef, V.rw (0 : Nat), V.one true (D.int IntKind.i64 i2), V.undef, V.undef, V.undef, V.undef, V.undef, V.undef, V.undef, V.undef, V.undef, V.undef, V.undef, V.undef, V.undef, V.undef, V.undef, V.undef, V.undef, V.undef, V.rw (1 : Nat), V.one true (D.int IntKind.i64 i3), V.one true (D.int IntKind.i64 i4), V.undef, V.undef, V.undef, V.undef, V.undef, V.undef, V.undef, V.undef, V.undef, V.undef, V.undef, V.undef, V.undef, V.undef, V.undef, V.undef, V.undef, V.undef, V.undef, V.undef, V.undef, V.undef, V.undef, V.undef, V.undef, V.undef, V.undef, V.undef, V.undef] [Ob.row false (6 : Nat) l5, Ob.row false (6 : Nat) l6])
theorem bd1.l6_eq (n : Nat) (m6 : Nat) (l0 : List (List D)) (l1 : List (List D)) (i2 : Int) (i3 : Int) (i4 : Int) (l5 : List (List D)) (l6 : List (List D)) :
    bd1.l6 n (m6 + 1) l0 l1 i2 i3 i4 l5 l6 = bif decide (i4 < i3) then bif decide ((0 : Int) ≤ i4) then bif decide (i4 < (↑(List.length l6) : Int)) then Option.bind (Option.bind (some (cellD l6 (Int.toNat i4) (0 : Nat))) (D.int? IntKind.i64)) fun (i7 : Int) => Option.bind (Option.bind (some (cellD l6 (Int.toNat i4) (1 : Nat))) (D.int? IntKind.i64)) fun (i8 : Int) => Option.bind (Option.bind (some (cellD l6 (Int.toNat i4) (2 : Nat))) (D.int? IntKind.i64)) fun (i9 : Int) => Option.bind (Option.bind (some (cellD l6 (Int.toNat i4) (3 : Nat))) (D.int? IntKind.i64)) fun (i10 : Int) => Option.bind (Option.bind (some (cellD l6 (Int.toNat i4) (4 : Nat))) (D.int? IntKind.i64)) fun (i11 : Int) => Option.bind (Option.bind (some (cellD l6 (Int.toNat i4) (5 : Nat))) (D.int? IntKind.i64)) fun (i12 : Int) => bif List.all l1 fun (r : List D) => List.all r scalar then bif decide ((0 : Nat) + List.length l1 ≤ (17179869184 : Nat)) then bif decide (List.length ([] ++ l1) + (1 : Nat) ≤ (17179869184 : Nat)) then Option.bind (Cod.decs dieC ([] ++ l1 ++ [[D.int IntKind.i64 i7, D.int IntKind.i64 i8, D.int IntKind.i64 i9, D.int IntKind.i64 i10, D.int IntKind.i64 i11, D.int IntKind.i64 i12]])) fun (l13 : List Die) => bif !clF l13 (↑(List.length l0) : Int) then bd1.l6 n m6 l0 l1 i2 i3 (IntKind.wrap IntKind.i64 (i4 + (1 : Int))) l5 l6 else Option.bind (Cod.decs dieC l0) fun (l14 : List Die) => Option.bind (Cod.decs dieC ([] ++ l1 ++ [[D.int IntKind.i64 i7, D.int IntKind.i64 i8, D.int IntKind.i64 i9, D.int IntKind.i64 i10, D.int IntKind.i64 i11, D.int IntKind.i64 i12]])) fun (l15 : List Die) => bif lvl (0 : Nat) l14 l15 then bif i2 == (0 : Int) then bd1.l6 n m6 l0 l1 (IntKind.wrap IntKind.i64 (i2 + numT l14 (0 : Nat) l15)) i3 (IntKind.wrap IntKind.i64 (i4 + (1 : Int))) (Cod.encs dieC (firstT l14 (0 : Nat) l15)) l6 else bd1.l6 n m6 l0 l1 (IntKind.wrap IntKind.i64 (i2 + numT l14 (0 : Nat) l15)) i3 (IntKind.wrap IntKind.i64 (i4 + (1 : Int))) l5 l6 else none else none else none else none else none else none else some [Q.one (D.sl (6 : Nat) l5), Q.one (D.int IntKind.i64 i2)] := by kernel_rfl
noncomputable def bd1.res (n : Nat) (a0 : List (List D)) (a1 : List (List D)) : Option (List Q) :=
  bif (↑(List.length a1) : Int) == (↑(List.length a0) : Int) then bif List.all a1 fun (r : List D) => List.all r scalar then bif decide ((0 : Nat) + List.length a1 ≤ (17179869184 : Nat)) then some [Q.one (D.sl (6 : Nat) ([] ++ a1)), Q.one (D.int IntKind.i64 (1 : Int))] else none else none else bif decide ((↑(List.length a1) : Int) < (↑(List.length a0) : Int)) then Option.bind (Option.bind (some (cellD a0 (Int.toNat (↑(List.length a1) : Int)) (0 : Nat))) (D.int? IntKind.i64)) fun (i1 : Int) => Option.bind (Option.bind (some (cellD a0 (Int.toNat (↑(List.length a1) : Int)) (1 : Nat))) (D.int? IntKind.i64)) fun (i2 : Int) => Option.bind (Option.bind (some (cellD a0 (Int.toNat (↑(List.length a1) : Int)) (2 : Nat))) (D.int? IntKind.i64)) fun (i3 : Int) => Option.bind (Option.bind (some (cellD a0 (Int.toNat (↑(List.length a1) : Int)) (3 : Nat))) (D.int? IntKind.i64)) fun (i4 : Int) => Option.bind (Option.bind (some (cellD a0 (Int.toNat (↑(List.length a1) : Int)) (4 : Nat))) (D.int? IntKind.i64)) fun (i5 : Int) => Option.bind (Option.bind (some (cellD a0 (Int.toNat (↑(List.length a1) : Int)) (5 : Nat))) (D.int? IntKind.i64)) fun (i6 : Int) => bd1.l6 n n a0 a1 (0 : Int) (↑(List.length (Cod.encs dieC (Sp.ways (Die.mk i1 i2 i3 i4 i5 i6)))) : Int) (0 : Int) [] (Cod.encs dieC (Sp.ways (Die.mk i1 i2 i3 i4 i5 i6))) else none
theorem bd1.run (n : Nat) (a0 : List (List D)) (a1 : List (List D)) :
    run1 bd1.cfg [RK.own (6 : Nat), RK.one (LK.int IntKind.i64)] n Try.f29 [Q.one (D.sl (6 : Nat) a0), Q.one (D.sl (6 : Nat) a1)] = bd1.res n a0 a1 := by kernel_rfl
theorem bd1.ev {n : Nat} {a0 : List (List D)} {a1 : List (List D)} {r : List Q} (h : bd1.res n a0 a1 = some r) : Snd Try.prog C0 29 [.one (.sl 6 a0), .one (.sl 6 a1)] r :=
  snd_ev (C := bd1.cfg) cfg0 mix rfl rfl rfl rfl rfl (.cons spec_diWays.ok (.cons spec_clFits.ok (.cons bd0.ok .nil))) .nil rfl Try.func29 (by kernel_rfl) (by kernel_rfl) rfl ((bd1.run n a0 a1).trans h)

theorem bd1.l6_run {n : Nat} {dice below W : List Die} (hd : dice.length = below.length + 1) (hd4 : dice.length ≤ 4) (hc : clF below dice.length = true) (hW : W.length ≤ 24) : ∀ (d i m : Nat) (acc : List (List Die)), i + d = W.length → d < m → acc.length ≤ i * 331776 →
    bd1.l6 n m (dieC.encs dice) (dieC.encs below) (acc.length : Nat) W.length i (dieC.encs (firstOf acc)) (dieC.encs W) = some [Q.one (.sl 6 (dieC.encs (firstOf (acc ++ towersOn dice 0 below (W.drop i))))), Q.one (.int .i64 ((acc ++ towersOn dice 0 below (W.drop i)).length : Nat))] := by
  have hbl : below.length + 1 ≤ 17179869184 := by omega
  have hb0 : below.length ≤ 17179869184 := by omega
  intro d
  induction d with
  | zero =>
    intro i m acc hi hm ha
    obtain ⟨m, rfl⟩ : ∃ m', m = m' + 1 := ⟨m - 1, by omega⟩
    obtain rfl : i = W.length := by omega
    have h1 : ¬ (W.length : Int) < W.length := by omega
    rw [bd1.l6_eq, List.drop_length]
    simp only [h1, decide_false, cond_false]
    rw [show towersOn dice 0 below [] = [] from rfl, List.append_nil]
  | succ d ih =>
    intro i m acc hi hm ha
    obtain ⟨m, rfl⟩ : ∃ m', m = m' + 1 := ⟨m - 1, by omega⟩
    have hlt : i < W.length := by omega
    have hdl : dice.length ≤ LIM := by unfold LIM; omega
    have hbd : (below ++ [W[i]]).length ≤ LIM := by rw [List.length_append, List.length_singleton]; unfold LIM; omega
    rw [bd1.l6_eq, List.drop_eq_getElem_cons hlt, towersOn_cons]
    simp only [Cod.encs_len, Int.ofNat_lt, hlt, decide_true, cond_true, Int.natCast_nonneg, Int.toNat_natCast, dieC_t' hlt, dieC_n' hlt, dieC_e' hlt, dieC_s' hlt, dieC_w' hlt, dieC_b' hlt, Option.bind_some, dieC_scalar, Nat.zero_add, List.nil_append, hb0, hbl, dieC_snoc, Cod.decs_encs hbd, Cod.decs_encs hdl, clF_snoc, hc, Bool.true_and, wrap_succ (show i ≤ LIM by unfold LIM; omega)]
    cases hf : fit below W[i] dice.length with
    | false =>
      simp only [Bool.not_false, cond_true, cond_false, List.nil_append]
      exact ih (i + 1) m acc (by omega) (by omega) (Nat.le_trans ha (Nat.mul_le_mul_right _ (Nat.le_succ i)))
    | true =>
      have hl : lvl 0 dice (below ++ [W[i]]) = true := by
        unfold lvl
        rw [clF_snoc, hc, hf, Bool.and_true, Bool.and_true, decide_eq_true_eq, List.length_append, List.length_singleton]
        omega
      have hT := Nat.le_trans (towersFrom_len dice 0 (below ++ [W[i]])) (show 24 ^ 0 ≤ 331776 by decide)
      have hsum : IntKind.wrap .i64 ((acc.length : Int) + numT dice 0 (below ++ [W[i]])) = ((acc ++ towersFrom dice 0 (below ++ [W[i]])).length : Nat) := by
        unfold numT
        rw [wrap_in (by omega) (by omega), List.length_append]; omega
      have hfo : (bif ((acc.length : Int) == 0) then dieC.encs (firstT dice 0 (below ++ [W[i]])) else dieC.encs (firstOf acc)) = dieC.encs (firstOf (acc ++ towersFrom dice 0 (below ++ [W[i]]))) := by
        cases acc with
        | nil => rfl
        | cons x acc =>
          have : ((((x :: acc).length : Nat) : Int) == 0) = false := by rw [ieq, decide_eq_false_iff_not, List.length_cons]; omega
          rw [this]; rfl
      simp only [Bool.not_true, cond_false, cond_true, hl, hsum]
      have := ih (i + 1) m (acc ++ towersFrom dice 0 (below ++ [W[i]])) (by omega) (by omega) (by rw [List.length_append]; omega)
      rw [← List.append_assoc, ← this, ← hfo]
      generalize ((acc.length : Int) == 0) = b
      cases b <;> simp only [cond_true, cond_false]
def bd1.stub : Stub
  | [.one (.sl 6 es), .one (.sl 6 es')] => .any (dieC.decs es) fun dice => .any (dieC.decs es') fun below => .gd (Sp.lvl 1 dice below) (.ret [.one (.sl 6 (dieC.encs (Sp.firstT dice 1 below))), .one (.int .i64 (Sp.numT dice 1 below))])
  | _ => .fail
theorem bd1.ok : StubOk Try.prog C0 29 bd1.stub := by
  intro args res h
  unfold bd1.stub at h
  split at h
  · obtain ⟨dice, h1, h0⟩ := any_out h
    obtain ⟨rfl, hl⟩ := Cod.decs_inv h1
    obtain ⟨below, h1', h0'⟩ := any_out h0
    obtain ⟨rfl, hl'⟩ := Cod.decs_inv h1'
    obtain ⟨h2, h3⟩ := gd_out h0'
    obtain ⟨hd, hd4, hc⟩ := lvl_out h2
    cases h3
    refine bd1.ev (n := 100) ?_
    have hlt : below.length < dice.length := by omega
    have hlti : ((below.length : Nat) : Int) < dice.length := by omega
    have hne : (((below.length : Nat) : Int) == ((dice.length : Nat) : Int)) = false := by rw [ieq, decide_eq_false_iff_not]; omega
    have hW := ways_len dice[below.length]
    have := bd1.l6_run (n := 100) hd hd4 hc hW _ 0 100 [] (Nat.zero_add _) (by omega) (by simp)
    unfold bd1.res
    simp only [Cod.encs_len, hne, cond_false, hlti, decide_true, cond_true, Int.toNat_natCast, dieC_t' hlt, dieC_n' hlt, dieC_e' hlt, dieC_s' hlt, dieC_w' hlt, dieC_b' hlt, Option.bind_some, Die.eta]
    have e : towersFrom dice 1 below = [] ++ towersOn dice 0 below ((Sp.ways dice[below.length]).drop 0) := by
      rw [List.nil_append, List.drop_zero, ← getD_of_lt (d := default) hlt]; exact towersFrom_succ dice 0 below
    unfold firstT numT
    rw [e]
    exact this
  · cases h
/-! bd2 -/
noncomputable def bd2.cfg : Cfg := { C0 with keep := fun | 6 => some [0, 1, 6, 7, 26, 27, 28] | _ => none, nb := 0, M := tabM [(23, spec_diWays.stub), (49, spec_clFits.stub), (29, bd1.stub)], MM := tabB [] }
noncomputable def bd2.l6 (n : Nat) (m6 : Nat) (l0 : List (List D)) (l1 : List (List D)) (i2 : Int) (i3 : Int) (i4 : Int) (l5 : List (List D)) (l6 : List (List D)) : Option (List Q) :=
  loopAt bd2.cfg [RK.own (6 : Nat), RK.one (LK.int IntKind.i64)] n Try.f29 [1, 1, 1, 1, 0, 1, 0] [] m6 (St.mk [V.one false (D.sl (6 : Nat) l0), V.one false (D.sl (6 : Nat) l1), V.undef, V.undef, V.undef, V.undef, V.rw (0 : Nat), V.one true (D.int IntKind.i64 i2), V.undef, V.undef, V.undef, V.undef, V.undef, V.undef, V.undef, V.undef, V.undef, V.undef, V.undef, V.undef, V.undef, V.undef, V.undef, V.undef, V.undef, V.undef, V.rw (1 : Nat), V.one true (D.int IntKind.i64 i3), V.one true (D.int IntKind.i64 i4), V.undef, V.undef, V.undef, V.undef, V.undef, V.undef, V.undef, V.undef, V.undef, V.undef, V.undef, V.undef, V.undef, V.undef, V.undef, V.undef, V.undef, V.undef, V.undef, V.undef, V.undef, V.undef, V.undef, V.undef, V.undef, V.undef, V.undef, V.undef, V.undef] [Ob.row false (6 : Nat) l5, Ob.row false (6 : Nat) l6])
theorem bd2.l6_eq (n : Nat) (m6 : Nat) (l0 : List (List D)) (l1 : List (List D)) (i2 : Int) (i3 : Int) (i4 : Int) (l5 : List (List D)) (l6 : List (List D)) :
    bd2.l6 n (m6 + 1) l0 l1 i2 i3 i4 l5 l6 = bif decide (i4 < i3) then bif decide ((0 : Int) ≤ i4) then bif decide (i4 < (↑(List.length l6) : Int)) then Option.bind (Option.bind (some (cellD l6 (Int.toNat i4) (0 : Nat))) (D.int? IntKind.i64)) fun (i7 : Int) => Option.bind (Option.bind (some (cellD l6 (Int.toNat i4) (1 : Nat))) (D.int? IntKind.i64)) fun (i8 : Int) => Option.bind (Option.bind (some (cellD l6 (Int.toNat i4) (2 : Nat))) (D.int? IntKind.i64)) fun (i9 : Int) => Option.bind (Option.bind (some (cellD l6 (Int.toNat i4) (3 : Nat))) (D.int? IntKind.i64)) fun (i10 : Int) => Option.bind (Option.bind (some (cellD l6 (Int.toNat i4) (4 : Nat))) (D.int? IntKind.i64)) fun (i11 : Int) => Option.bind (Option.bind (some (cellD l6 (Int.toNat i4) (5 : Nat))) (D.int? IntKind.i64)) fun (i12 : Int) => bif List.all l1 fun (r : List D) => List.all r scalar then bif decide ((0 : Nat) + List.length l1 ≤ (17179869184 : Nat)) then bif decide (List.length ([] ++ l1) + (1 : Nat) ≤ (17179869184 : Nat)) then Option.bind (Cod.decs dieC ([] ++ l1 ++ [[D.int IntKind.i64 i7, D.int IntKind.i64 i8, D.int IntKind.i64 i9, D.int IntKind.i64 i10, D.int IntKind.i64 i11, D.int IntKind.i64 i12]])) fun (l13 : List Die) => bif !clF l13 (↑(List.length l0) : Int) then bd2.l6 n m6 l0 l1 i2 i3 (IntKind.wrap IntKind.i64 (i4 + (1 : Int))) l5 l6 else Option.bind (Cod.decs dieC l0) fun (l14 : List Die) => Option.bind (Cod.decs dieC ([] ++ l1 ++ [[D.int IntKind.i64 i7, D.int IntKind.i64 i8, D.int IntKind.i64 i9, D.int IntKind.i64 i10, D.int IntKind.i64 i11, D.int IntKind.i64 i12]])) fun (l15 : List Die) => bif lvl (1 : Nat) l14 l15 then bif i2 == (0 : Int) then bd2.l6 n m6 l0 l1 (IntKind.wrap IntKind.i64 (i2 + numT l14 (1 : Nat) l15)) i3 (IntKind.wrap IntKind.i64 (i4 + (1 : Int))) (Cod.encs dieC (firstT l14 (1 : Nat) l15)) l6 else bd2.l6 n m6 l0 l1 (IntKind.wrap IntKind.i64 (i2 + numT l14 (1 : Nat) l15)) i3 (IntKind.wrap IntKind.i64 (i4 + (1 : Int))) l5 l6 else none else none else none else none else none else none else some [Q.one (D.sl (6 : Nat) l5), Q.one (D.int IntKind.i64 i2)] := by kernel_rfl
noncomputable def bd2.res (n : Nat) (a0 : List (List D)) (a1 : List (List D)) : Option (List Q) :=
  bif (↑(List.length a1) : Int) == (↑(List.length a0) : Int) then bif List.all a1 fun (r : List D) => List.all r scalar then bif decide ((0 : Nat) + List.length a1 ≤ (17179869184 : Nat)) then some [Q.one (D.sl (6 : Nat) ([] ++ a1)), Q.one (D.int IntKind.i64 (1 : Int))] else none else none else bif decide ((↑(List.length a1) : Int) < (↑(List.length a0) : Int)) then Option.bind (Option.bind (some (cellD a0 (Int.toNat (↑(List.length a1) : Int)) (0 : Nat))) (D.int? IntKind.i64)) fun (i1 : Int) => Option.bind (Option.bind (some (cellD a0 (Int.toNat (↑(List.length a1) : Int)) (1 : Nat))) (D.int? IntKind.i64)) fun (i2 : Int) => Option.bind (Option.bind (some (cellD a0 (Int.toNat (↑(List.length a1) : Int)) (2 : Nat))) (D.int? IntKind.i64)) fun (i3 : Int) => Option.bind (Option.bind (some (cellD a0 (Int.toNat (↑(List.length a1) : Int)) (3 : Nat))) (D.int? IntKind.i64)) fun (i4 : Int) => Option.bind (Option.bind (some (cellD a0 (Int.toNat (↑(List.length a1) : Int)) (4 : Nat))) (D.int? IntKind.i64)) fun (i5 : Int) => Option.bind (Option.bind (some (cellD a0 (Int.toNat (↑(List.length a1) : Int)) (5 : Nat))) (D.int? IntKind.i64)) fun (i6 : Int) => bd2.l6 n n a0 a1 (0 : Int) (↑(List.length (Cod.encs dieC (Sp.ways (Die.mk i1 i2 i3 i4 i5 i6)))) : Int) (0 : Int) [] (Cod.encs dieC (Sp.ways (Die.mk i1 i2 i3 i4 i5 i6))) else none
theorem bd2.run (n : Nat) (a0 : List (List D)) (a1 : List (List D)) :
    run1 bd2.cfg [RK.own (6 : Nat), RK.one (LK.int IntKind.i64)] n Try.f29 [Q.one (D.sl (6 : Nat) a0), Q.one (D.sl (6 : Nat) a1)] = bd2.res n a0 a1 := by kernel_rfl
theorem bd2.ev {n : Nat} {a0 : List (List D)} {a1 : List (List D)} {r : List Q} (h : bd2.res n a0 a1 = some r) : Snd Try.prog C0 29 [.one (.sl 6 a0), .one (.sl 6 a1)] r :=
  snd_ev (C := bd2.cfg) cfg0 mix rfl rfl rfl rfl rfl (.cons spec_diWays.ok (.cons spec_clFits.ok (.cons bd1.ok .nil))) .nil rfl Try.func29 (by kernel_rfl) (by kernel_rfl) rfl ((bd2.run n a0 a1).trans h)

theorem bd2.l6_run {n : Nat} {dice below W : List Die} (hd : dice.length = below.length + 2) (hd4 : dice.length ≤ 4) (hc : clF below dice.length = true) (hW : W.length ≤ 24) : ∀ (d i m : Nat) (acc : List (List Die)), i + d = W.length → d < m → acc.length ≤ i * 331776 →
    bd2.l6 n m (dieC.encs dice) (dieC.encs below) (acc.length : Nat) W.length i (dieC.encs (firstOf acc)) (dieC.encs W) = some [Q.one (.sl 6 (dieC.encs (firstOf (acc ++ towersOn dice 1 below (W.drop i))))), Q.one (.int .i64 ((acc ++ towersOn dice 1 below (W.drop i)).length : Nat))] := by
  have hbl : below.length + 1 ≤ 17179869184 := by omega
  have hb0 : below.length ≤ 17179869184 := by omega
  intro d
  induction d with
  | zero =>
    intro i m acc hi hm ha
    obtain ⟨m, rfl⟩ : ∃ m', m = m' + 1 := ⟨m - 1, by omega⟩
    obtain rfl : i = W.length := by omega
    have h1 : ¬ (W.length : Int) < W.length := by omega
    rw [bd2.l6_eq, List.drop_length]
    simp only [h1, decide_false, cond_false]
    rw [show towersOn dice 1 below [] = [] from rfl, List.append_nil]
  | succ d ih =>
    intro i m acc hi hm ha
    obtain ⟨m, rfl⟩ : ∃ m', m = m' + 1 := ⟨m - 1, by omega⟩
    have hlt : i < W.length := by omega
    have hdl : dice.length ≤ LIM := by unfold LIM; omega
    have hbd : (below ++ [W[i]]).length ≤ LIM := by rw [List.length_append, List.length_singleton]; unfold LIM; omega
    rw [bd2.l6_eq, List.drop_eq_getElem_cons hlt, towersOn_cons]
    simp only [Cod.encs_len, Int.ofNat_lt, hlt, decide_true, cond_true, Int.natCast_nonneg, Int.toNat_natCast, dieC_t' hlt, dieC_n' hlt, dieC_e' hlt, dieC_s' hlt, dieC_w' hlt, dieC_b' hlt, Option.bind_some, dieC_scalar, Nat.zero_add, List.nil_append, hb0, hbl, dieC_snoc, Cod.decs_encs hbd, Cod.decs_encs hdl, clF_snoc, hc, Bool.true_and, wrap_succ (show i ≤ LIM by unfold LIM; omega)]
    cases hf : fit below W[i] dice.length with
    | false =>
      simp only [Bool.not_false, cond_true, cond_false, List.nil_append]
      exact ih (i + 1) m acc (by omega) (by omega) (Nat.le_trans ha (Nat.mul_le_mul_right _ (Nat.le_succ i)))
    | true =>
      have hl : lvl 1 dice (below ++ [W[i]]) = true := by
        unfold lvl
        rw [clF_snoc, hc, hf, Bool.and_true, Bool.and_true, decide_eq_true_eq, List.length_append, List.length_singleton]
        omega
      have hT := Nat.le_trans (towersFrom_len dice 1 (below ++ [W[i]])) (show 24 ^ 1 ≤ 331776 by decide)
      have hsum : IntKind.wrap .i64 ((acc.length : Int) + numT dice 1 (below ++ [W[i]])) = ((acc ++ towersFrom dice 1 (below ++ [W[i]])).length : Nat) := by
        unfold numT
        rw [wrap_in (by omega) (by omega), List.length_append]; omega
      have hfo : (bif ((acc.length : Int) == 0) then dieC.encs (firstT dice 1 (below ++ [W[i]])) else dieC.encs (firstOf acc)) = dieC.encs (firstOf (acc ++ towersFrom dice 1 (below ++ [W[i]]))) := by
        cases acc with
        | nil => rfl
        | cons x acc =>
          have : ((((x :: acc).length : Nat) : Int) == 0) = false := by rw [ieq, decide_eq_false_iff_not, List.length_cons]; omega
          rw [this]; rfl
      simp only [Bool.not_true, cond_false, cond_true, hl, hsum]
      have := ih (i + 1) m (acc ++ towersFrom dice 1 (below ++ [W[i]])) (by omega) (by omega) (by rw [List.length_append]; omega)
      rw [← List.append_assoc, ← this, ← hfo]
      generalize ((acc.length : Int) == 0) = b
      cases b <;> simp only [cond_true, cond_false]
def bd2.stub : Stub
  | [.one (.sl 6 es), .one (.sl 6 es')] => .any (dieC.decs es) fun dice => .any (dieC.decs es') fun below => .gd (Sp.lvl 2 dice below) (.ret [.one (.sl 6 (dieC.encs (Sp.firstT dice 2 below))), .one (.int .i64 (Sp.numT dice 2 below))])
  | _ => .fail
theorem bd2.ok : StubOk Try.prog C0 29 bd2.stub := by
  intro args res h
  unfold bd2.stub at h
  split at h
  · obtain ⟨dice, h1, h0⟩ := any_out h
    obtain ⟨rfl, hl⟩ := Cod.decs_inv h1
    obtain ⟨below, h1', h0'⟩ := any_out h0
    obtain ⟨rfl, hl'⟩ := Cod.decs_inv h1'
    obtain ⟨h2, h3⟩ := gd_out h0'
    obtain ⟨hd, hd4, hc⟩ := lvl_out h2
    cases h3
    refine bd2.ev (n := 100) ?_
    have hlt : below.length < dice.length := by omega
    have hlti : ((below.length : Nat) : Int) < dice.length := by omega
    have hne : (((below.length : Nat) : Int) == ((dice.length : Nat) : Int)) = false := by rw [ieq, decide_eq_false_iff_not]; omega
    have hW := ways_len dice[below.length]
    have := bd2.l6_run (n := 100) hd hd4 hc hW _ 0 100 [] (Nat.zero_add _) (by omega) (by simp)
    unfold bd2.res
    simp only [Cod.encs_len, hne, cond_false, hlti, decide_true, cond_true, Int.toNat_natCast, dieC_t' hlt, dieC_n' hlt, dieC_e' hlt, dieC_s' hlt, dieC_w' hlt, dieC_b' hlt, Option.bind_some, Die.eta]
    have e : towersFrom dice 2 below = [] ++ towersOn dice 1 below ((Sp.ways dice[below.length]).drop 0) := by
      rw [List.nil_append, List.drop_zero, ← getD_of_lt (d := default) hlt]; exact towersFrom_succ dice 1 below
    unfold firstT numT
    rw [e]
    exact this
  · cases h
/-! bd3 -/
noncomputable def bd3.cfg : Cfg := { C0 with keep := fun | 6 => some [0, 1, 6, 7, 26, 27, 28] | _ => none, nb := 0, M := tabM [(23, spec_diWays.stub), (49, spec_clFits.stub), (29, bd2.stub)], MM := tabB [] }
noncomputable def bd3.l6 (n : Nat) (m6 : Nat) (l0 : List (List D)) (l1 : List (List D)) (i2 : Int) (i3 : Int) (i4 : Int) (l5 : List (List D)) (l6 : List (List D)) : Option (List Q) :=
  loopAt bd3.cfg [RK.own (6 : Nat), RK.one (LK.int IntKind.i64)] n Try.f29 [1, 1, 1, 1, 0, 1, 0] [] m6 (St.mk [V.one false (D.sl (6 : Nat) l0), V.one false (D.sl (6 : Nat) l1), V.undef, V.undef, V.undef, V.undef, V.rw (0 : Nat), V.one true (D.int IntKind.i64 i2), V.undef, V.undef, V.undef, V.undef, V.undef, V.undef, V.undef, V.undef, V.undef, V.undef, V.undef, V.undef, V.undef, V.undef, V.undef, V.undef, V.undef, V.undef, V.rw (1 : Nat), V.one true (D.int IntKind.i64 i3), V.one true (D.int IntKind.i64 i4), V.undef, V.undef, V.undef, V.undef, V.undef, V.undef, V.undef, V.undef, V.undef, V.undef, V.undef, V.undef, V.undef, V.undef, V.undef, V.undef, V.undef, V.undef, V.undef, V.undef, V.undef, V.undef, V.undef, V.undef, V.undef, V.undef, V.undef, V.undef, V.undef] [Ob.row false (6 : Nat) l5, Ob.row false (6 : Nat) l6])
theorem bd3.l6_eq (n : Nat) (m6 : Nat) (l0 : List (List D)) (l1 : List (List D)) (i2 : Int) (i3 : Int) (i4 : Int) (l5 : List (List D)) (l6 : List (List D)) :
    bd3.l6 n (m6 + 1) l0 l1 i2 i3 i4 l5 l6 = bif decide (i4 < i3) then bif decide ((0 : Int) ≤ i4) then bif decide (i4 < (↑(List.length l6) : Int)) then Option.bind (Option.bind (some (cellD l6 (Int.toNat i4) (0 : Nat))) (D.int? IntKind.i64)) fun (i7 : Int) => Option.bind (Option.bind (some (cellD l6 (Int.toNat i4) (1 : Nat))) (D.int? IntKind.i64)) fun (i8 : Int) => Option.bind (Option.bind (some (cellD l6 (Int.toNat i4) (2 : Nat))) (D.int? IntKind.i64)) fun (i9 : Int) => Option.bind (Option.bind (some (cellD l6 (Int.toNat i4) (3 : Nat))) (D.int? IntKind.i64)) fun (i10 : Int) => Option.bind (Option.bind (some (cellD l6 (Int.toNat i4) (4 : Nat))) (D.int? IntKind.i64)) fun (i11 : Int) => Option.bind (Option.bind (some (cellD l6 (Int.toNat i4) (5 : Nat))) (D.int? IntKind.i64)) fun (i12 : Int) => bif List.all l1 fun (r : List D) => List.all r scalar then bif decide ((0 : Nat) + List.length l1 ≤ (17179869184 : Nat)) then bif decide (List.length ([] ++ l1) + (1 : Nat) ≤ (17179869184 : Nat)) then Option.bind (Cod.decs dieC ([] ++ l1 ++ [[D.int IntKind.i64 i7, D.int IntKind.i64 i8, D.int IntKind.i64 i9, D.int IntKind.i64 i10, D.int IntKind.i64 i11, D.int IntKind.i64 i12]])) fun (l13 : List Die) => bif !clF l13 (↑(List.length l0) : Int) then bd3.l6 n m6 l0 l1 i2 i3 (IntKind.wrap IntKind.i64 (i4 + (1 : Int))) l5 l6 else Option.bind (Cod.decs dieC l0) fun (l14 : List Die) => Option.bind (Cod.decs dieC ([] ++ l1 ++ [[D.int IntKind.i64 i7, D.int IntKind.i64 i8, D.int IntKind.i64 i9, D.int IntKind.i64 i10, D.int IntKind.i64 i11, D.int IntKind.i64 i12]])) fun (l15 : List Die) => bif lvl (2 : Nat) l14 l15 then bif i2 == (0 : Int) then bd3.l6 n m6 l0 l1 (IntKind.wrap IntKind.i64 (i2 + numT l14 (2 : Nat) l15)) i3 (IntKind.wrap IntKind.i64 (i4 + (1 : Int))) (Cod.encs dieC (firstT l14 (2 : Nat) l15)) l6 else bd3.l6 n m6 l0 l1 (IntKind.wrap IntKind.i64 (i2 + numT l14 (2 : Nat) l15)) i3 (IntKind.wrap IntKind.i64 (i4 + (1 : Int))) l5 l6 else none else none else none else none else none else none else some [Q.one (D.sl (6 : Nat) l5), Q.one (D.int IntKind.i64 i2)] := by kernel_rfl
noncomputable def bd3.res (n : Nat) (a0 : List (List D)) (a1 : List (List D)) : Option (List Q) :=
  bif (↑(List.length a1) : Int) == (↑(List.length a0) : Int) then bif List.all a1 fun (r : List D) => List.all r scalar then bif decide ((0 : Nat) + List.length a1 ≤ (17179869184 : Nat)) then some [Q.one (D.sl (6 : Nat) ([] ++ a1)), Q.one (D.int IntKind.i64 (1 : Int))] else none else none else bif decide ((↑(List.length a1) : Int) < (↑(List.length a0) : Int)) then Option.bind (Option.bind (some (cellD a0 (Int.toNat (↑(List.length a1) : Int)) (0 : Nat))) (D.int? IntKind.i64)) fun (i1 : Int) => Option.bind (Option.bind (some (cellD a0 (Int.toNat (↑(List.length a1) : Int)) (1 : Nat))) (D.int? IntKind.i64)) fun (i2 : Int) => Option.bind (Option.bind (some (cellD a0 (Int.toNat (↑(List.length a1) : Int)) (2 : Nat))) (D.int? IntKind.i64)) fun (i3 : Int) => Option.bind (Option.bind (some (cellD a0 (Int.toNat (↑(List.length a1) : Int)) (3 : Nat))) (D.int? IntKind.i64)) fun (i4 : Int) => Option.bind (Option.bind (some (cellD a0 (Int.toNat (↑(List.length a1) : Int)) (4 : Nat))) (D.int? IntKind.i64)) fun (i5 : Int) => Option.bind (Option.bind (some (cellD a0 (Int.toNat (↑(List.length a1) : Int)) (5 : Nat))) (D.int? IntKind.i64)) fun (i6 : Int) => bd3.l6 n n a0 a1 (0 : Int) (↑(List.length (Cod.encs dieC (Sp.ways (Die.mk i1 i2 i3 i4 i5 i6)))) : Int) (0 : Int) [] (Cod.encs dieC (Sp.ways (Die.mk i1 i2 i3 i4 i5 i6))) else none
theorem bd3.run (n : Nat) (a0 : List (List D)) (a1 : List (List D)) :
    run1 bd3.cfg [RK.own (6 : Nat), RK.one (LK.int IntKind.i64)] n Try.f29 [Q.one (D.sl (6 : Nat) a0), Q.one (D.sl (6 : Nat) a1)] = bd3.res n a0 a1 := by kernel_rfl
theorem bd3.ev {n : Nat} {a0 : List (List D)} {a1 : List (List D)} {r : List Q} (h : bd3.res n a0 a1 = some r) : Snd Try.prog C0 29 [.one (.sl 6 a0), .one (.sl 6 a1)] r :=
  snd_ev (C := bd3.cfg) cfg0 mix rfl rfl rfl rfl rfl (.cons spec_diWays.ok (.cons spec_clFits.ok (.cons bd2.ok .nil))) .nil rfl Try.func29 (by kernel_rfl) (by kernel_rfl) rfl ((bd3.run n a0 a1).trans h)

theorem bd3.l6_run {n : Nat} {dice below W : List Die} (hd : dice.length = below.length + 3) (hd4 : dice.length ≤ 4) (hc : clF below dice.length = true) (hW : W.length ≤ 24) : ∀ (d i m : Nat) (acc : List (List Die)), i + d = W.length → d < m → acc.length ≤ i * 331776 →
    bd3.l6 n m (dieC.encs dice) (dieC.encs below) (acc.length : Nat) W.length i (dieC.encs (firstOf acc)) (dieC.encs W) = some [Q.one (.sl 6 (dieC.encs (firstOf (acc ++ towersOn dice 2 below (W.drop i))))), Q.one (.int .i64 ((acc ++ towersOn dice 2 below (W.drop i)).length : Nat))] := by
  have hbl : below.length + 1 ≤ 17179869184 := by omega
  have hb0 : below.length ≤ 17179869184 := by omega
  intro d
  induction d with
  | zero =>
    intro i m acc hi hm ha
    obtain ⟨m, rfl⟩ : ∃ m', m = m' + 1 := ⟨m - 1, by omega⟩
    obtain rfl : i = W.length := by omega
    have h1 : ¬ (W.length : Int) < W.length := by omega
    rw [bd3.l6_eq, List.drop_length]
    simp only [h1, decide_false, cond_false]
    rw [show towersOn dice 2 below [] = [] from rfl, List.append_nil]
  | succ d ih =>
    intro i m acc hi hm ha
    obtain ⟨m, rfl⟩ : ∃ m', m = m' + 1 := ⟨m - 1, by omega⟩
    have hlt : i < W.length := by omega
    have hdl : dice.length ≤ LIM := by unfold LIM; omega
    have hbd : (below ++ [W[i]]).length ≤ LIM := by rw [List.length_append, List.length_singleton]; unfold LIM; omega
    rw [bd3.l6_eq, List.drop_eq_getElem_cons hlt, towersOn_cons]
    simp only [Cod.encs_len, Int.ofNat_lt, hlt, decide_true, cond_true, Int.natCast_nonneg, Int.toNat_natCast, dieC_t' hlt, dieC_n' hlt, dieC_e' hlt, dieC_s' hlt, dieC_w' hlt, dieC_b' hlt, Option.bind_some, dieC_scalar, Nat.zero_add, List.nil_append, hb0, hbl, dieC_snoc, Cod.decs_encs hbd, Cod.decs_encs hdl, clF_snoc, hc, Bool.true_and, wrap_succ (show i ≤ LIM by unfold LIM; omega)]
    cases hf : fit below W[i] dice.length with
    | false =>
      simp only [Bool.not_false, cond_true, cond_false, List.nil_append]
      exact ih (i + 1) m acc (by omega) (by omega) (Nat.le_trans ha (Nat.mul_le_mul_right _ (Nat.le_succ i)))
    | true =>
      have hl : lvl 2 dice (below ++ [W[i]]) = true := by
        unfold lvl
        rw [clF_snoc, hc, hf, Bool.and_true, Bool.and_true, decide_eq_true_eq, List.length_append, List.length_singleton]
        omega
      have hT := Nat.le_trans (towersFrom_len dice 2 (below ++ [W[i]])) (show 24 ^ 2 ≤ 331776 by decide)
      have hsum : IntKind.wrap .i64 ((acc.length : Int) + numT dice 2 (below ++ [W[i]])) = ((acc ++ towersFrom dice 2 (below ++ [W[i]])).length : Nat) := by
        unfold numT
        rw [wrap_in (by omega) (by omega), List.length_append]; omega
      have hfo : (bif ((acc.length : Int) == 0) then dieC.encs (firstT dice 2 (below ++ [W[i]])) else dieC.encs (firstOf acc)) = dieC.encs (firstOf (acc ++ towersFrom dice 2 (below ++ [W[i]]))) := by
        cases acc with
        | nil => rfl
        | cons x acc =>
          have : ((((x :: acc).length : Nat) : Int) == 0) = false := by rw [ieq, decide_eq_false_iff_not, List.length_cons]; omega
          rw [this]; rfl
      simp only [Bool.not_true, cond_false, cond_true, hl, hsum]
      have := ih (i + 1) m (acc ++ towersFrom dice 2 (below ++ [W[i]])) (by omega) (by omega) (by rw [List.length_append]; omega)
      rw [← List.append_assoc, ← this, ← hfo]
      generalize ((acc.length : Int) == 0) = b
      cases b <;> simp only [cond_true, cond_false]
def bd3.stub : Stub
  | [.one (.sl 6 es), .one (.sl 6 es')] => .any (dieC.decs es) fun dice => .any (dieC.decs es') fun below => .gd (Sp.lvl 3 dice below) (.ret [.one (.sl 6 (dieC.encs (Sp.firstT dice 3 below))), .one (.int .i64 (Sp.numT dice 3 below))])
  | _ => .fail
theorem bd3.ok : StubOk Try.prog C0 29 bd3.stub := by
  intro args res h
  unfold bd3.stub at h
  split at h
  · obtain ⟨dice, h1, h0⟩ := any_out h
    obtain ⟨rfl, hl⟩ := Cod.decs_inv h1
    obtain ⟨below, h1', h0'⟩ := any_out h0
    obtain ⟨rfl, hl'⟩ := Cod.decs_inv h1'
    obtain ⟨h2, h3⟩ := gd_out h0'
    obtain ⟨hd, hd4, hc⟩ := lvl_out h2
    cases h3
    refine bd3.ev (n := 100) ?_
    have hlt : below.length < dice.length := by omega
    have hlti : ((below.length : Nat) : Int) < dice.length := by omega
    have hne : (((below.length : Nat) : Int) == ((dice.length : Nat) : Int)) = false := by rw [ieq, decide_eq_false_iff_not]; omega
    have hW := ways_len dice[below.length]
    have := bd3.l6_run (n := 100) hd hd4 hc hW _ 0 100 [] (Nat.zero_add _) (by omega) (by simp)
    unfold bd3.res
    simp only [Cod.encs_len, hne, cond_false, hlti, decide_true, cond_true, Int.toNat_natCast, dieC_t' hlt, dieC_n' hlt, dieC_e' hlt, dieC_s' hlt, dieC_w' hlt, dieC_b' hlt, Option.bind_some, Die.eta]
    have e : towersFrom dice 3 below = [] ++ towersOn dice 2 below ((Sp.ways dice[below.length]).drop 0) := by
      rw [List.nil_append, List.drop_zero, ← getD_of_lt (d := default) hlt]; exact towersFrom_succ dice 2 below
    unfold firstT numT
    rw [e]
    exact this
  · cases h
/-! bd4 -/
noncomputable def bd4.cfg : Cfg := { C0 with keep := fun | 6 => some [0, 1, 6, 7, 26, 27, 28] | _ => none, nb := 0, M := tabM [(23, spec_diWays.stub), (49, spec_clFits.stub), (29, bd3.stub)], MM := tabB [] }
noncomputable def bd4.l6 (n : Nat) (m6 : Nat) (l0 : List (List D)) (l1 : List (List D)) (i2 : Int) (i3 : Int) (i4 : Int) (l5 : List (List D)) (l6 : List (List D)) : Option (List Q) :=
  loopAt bd4.cfg [RK.own (6 : Nat), RK.one (LK.int IntKind.i64)] n Try.f29 [1, 1, 1, 1, 0, 1, 0] [] m6 (St.mk [V.one false (D.sl (6 : Nat) l0), V.one false (D.sl (6 : Nat) l1), V.undef, V.undef, V.undef, V.undef, V.rw (0 : Nat), V.one true (D.int IntKind.i64 i2), V.undef, V.undef, V.undef, V.undef, V.undef, V.undef, V.undef, V.undef, V.undef, V.undef, V.undef, V.undef, V.undef, V.undef, V.undef, V.undef, V.undef, V.undef, V.rw (1 : Nat), V.one true (D.int IntKind.i64 i3), V.one true (D.int IntKind.i64 i4), V.undef, V.undef, V.undef, V.undef, V.undef, V.undef, V.undef, V.undef, V.undef, V.undef, V.undef, V.undef, V.undef, V.undef, V.undef, V.undef, V.undef, V.undef, V.undef, V.undef, V.undef, V.undef, V.undef, V.undef, V.undef, V.undef, V.undef, V.undef, V.undef] [Ob.row false (6 : Nat) l5, Ob.row false (6 : Nat) l6])
theorem bd4.l6_eq (n : Nat) (m6 : Nat) (l0 : List (List D)) (l1 : List (List D)) (i2 : Int) (i3 : Int) (i4 : Int) (l5 : List (List D)) (l6 : List (List D)) :
    bd4.l6 n (m6 + 1) l0 l1 i2 i3 i4 l5 l6 = bif decide (i4 < i3) then bif decide ((0 : Int) ≤ i4) then bif decide (i4 < (↑(List.length l6) : Int)) then Option.bind (Option.bind (some (cellD l6 (Int.toNat i4) (0 : Nat))) (D.int? IntKind.i64)) fun (i7 : Int) => Option.bind (Option.bind (some (cellD l6 (Int.toNat i4) (1 : Nat))) (D.int? IntKind.i64)) fun (i8 : Int) => Option.bind (Option.bind (some (cellD l6 (Int.toNat i4) (2 : Nat))) (D.int? IntKind.i64)) fun (i9 : Int) => Option.bind (Option.bind (some (cellD l6 (Int.toNat i4) (3 : Nat))) (D.int? IntKind.i64)) fun (i10 : Int) => Option.bind (Option.bind (some (cellD l6 (Int.toNat i4) (4 : Nat))) (D.int? IntKind.i64)) fun (i11 : Int) => Option.bind (Option.bind (some (cellD l6 (Int.toNat i4) (5 : Nat))) (D.int? IntKind.i64)) fun (i12 : Int) => bif List.all l1 fun (r : List D) => List.all r scalar then bif decide ((0 : Nat) + List.length l1 ≤ (17179869184 : Nat)) then bif decide (List.length ([] ++ l1) + (1 : Nat) ≤ (17179869184 : Nat)) then Option.bind (Cod.decs dieC ([] ++ l1 ++ [[D.int IntKind.i64 i7, D.int IntKind.i64 i8, D.int IntKind.i64 i9, D.int IntKind.i64 i10, D.int IntKind.i64 i11, D.int IntKind.i64 i12]])) fun (l13 : List Die) => bif !clF l13 (↑(List.length l0) : Int) then bd4.l6 n m6 l0 l1 i2 i3 (IntKind.wrap IntKind.i64 (i4 + (1 : Int))) l5 l6 else Option.bind (Cod.decs dieC l0) fun (l14 : List Die) => Option.bind (Cod.decs dieC ([] ++ l1 ++ [[D.int IntKind.i64 i7, D.int IntKind.i64 i8, D.int IntKind.i64 i9, D.int IntKind.i64 i10, D.int IntKind.i64 i11, D.int IntKind.i64 i12]])) fun (l15 : List Die) => bif lvl (3 : Nat) l14 l15 then bif i2 == (0 : Int) then bd4.l6 n m6 l0 l1 (IntKind.wrap IntKind.i64 (i2 + numT l14 (3 : Nat) l15)) i3 (IntKind.wrap IntKind.i64 (i4 + (1 : Int))) (Cod.encs dieC (firstT l14 (3 : Nat) l15)) l6 else bd4.l6 n m6 l0 l1 (IntKind.wrap IntKind.i64 (i2 + numT l14 (3 : Nat) l15)) i3 (IntKind.wrap IntKind.i64 (i4 + (1 : Int))) l5 l6 else none else none else none else none else none else none else some [Q.one (D.sl (6 : Nat) l5), Q.one (D.int IntKind.i64 i2)] := by kernel_rfl
noncomputable def bd4.res (n : Nat) (a0 : List (List D)) (a1 : List (List D)) : Option (List Q) :=
  bif (↑(List.length a1) : Int) == (↑(List.length a0) : Int) then bif List.all a1 fun (r : List D) => List.all r scalar then bif decide ((0 : Nat) + List.length a1 ≤ (17179869184 : Nat)) then some [Q.one (D.sl (6 : Nat) ([] ++ a1)), Q.one (D.int IntKind.i64 (1 : Int))] else none else none else bif decide ((↑(List.length a1) : Int) < (↑(List.length a0) : Int)) then Option.bind (Option.bind (some (cellD a0 (Int.toNat (↑(List.length a1) : Int)) (0 : Nat))) (D.int? IntKind.i64)) fun (i1 : Int) => Option.bind (Option.bind (some (cellD a0 (Int.toNat (↑(List.length a1) : Int)) (1 : Nat))) (D.int? IntKind.i64)) fun (i2 : Int) => Option.bind (Option.bind (some (cellD a0 (Int.toNat (↑(List.length a1) : Int)) (2 : Nat))) (D.int? IntKind.i64)) fun (i3 : Int) => Option.bind (Option.bind (some (cellD a0 (Int.toNat (↑(List.length a1) : Int)) (3 : Nat))) (D.int? IntKind.i64)) fun (i4 : Int) => Option.bind (Option.bind (some (cellD a0 (Int.toNat (↑(List.length a1) : Int)) (4 : Nat))) (D.int? IntKind.i64)) fun (i5 : Int) => Option.bind (Option.bind (some (cellD a0 (Int.toNat (↑(List.length a1) : Int)) (5 : Nat))) (D.int? IntKind.i64)) fun (i6 : Int) => bd4.l6 n n a0 a1 (0 : Int) (↑(List.length (Cod.encs dieC (Sp.ways (Die.mk i1 i2 i3 i4 i5 i6)))) : Int) (0 : Int) [] (Cod.encs dieC (Sp.ways (Die.mk i1 i2 i3 i4 i5 i6))) else none
theorem bd4.run (n : Nat) (a0 : List (List D)) (a1 : List (List D)) :
    run1 bd4.cfg [RK.own (6 : Nat), RK.one (LK.int IntKind.i64)] n Try.f29 [Q.one (D.sl (6 : Nat) a0), Q.one (D.sl (6 : Nat) a1)] = bd4.res n a0 a1 := by kernel_rfl
theorem bd4.ev {n : Nat} {a0 : List (List D)} {a1 : List (List D)} {r : List Q} (h : bd4.res n a0 a1 = some r) : Snd Try.prog C0 29 [.one (.sl 6 a0), .one (.sl 6 a1)] r :=
  snd_ev (C := bd4.cfg) cfg0 mix rfl rfl rfl rfl rfl (.cons spec_diWays.ok (.cons spec_clFits.ok (.cons bd3.ok .nil))) .nil rfl Try.func29 (by kernel_rfl) (by kernel_rfl) rfl ((bd4.run n a0 a1).trans h)

theorem bd4.l6_run {n : Nat} {dice below W : List Die} (hd : dice.length = below.length + 4) (hd4 : dice.length ≤ 4) (hc : clF below dice.length = true) (hW : W.length ≤ 24) : ∀ (d i m : Nat) (acc : List (List Die)), i + d = W.length → d < m → acc.length ≤ i * 331776 →
    bd4.l6 n m (dieC.encs dice) (dieC.encs below) (acc.length : Nat) W.length i (dieC.encs (firstOf acc)) (dieC.encs W) = some [Q.one (.sl 6 (dieC.encs (firstOf (acc ++ towersOn dice 3 below (W.drop i))))), Q.one (.int .i64 ((acc ++ towersOn dice 3 below (W.drop i)).length : Nat))] := by
  have hbl : below.length + 1 ≤ 17179869184 := by omega
  have hb0 : below.length ≤ 17179869184 := by omega
  intro d
  induction d with
  | zero =>
    intro i m acc hi hm ha
    obtain ⟨m, rfl⟩ : ∃ m', m = m' + 1 := ⟨m - 1, by omega⟩
    obtain rfl : i = W.length := by omega
    have h1 : ¬ (W.length : Int) < W.length := by omega
    rw [bd4.l6_eq, List.drop_length]
    simp only [h1, decide_false, cond_false]
    rw [show towersOn dice 3 below [] = [] from rfl, List.append_nil]
  | succ d ih =>
    intro i m acc hi hm ha
    obtain ⟨m, rfl⟩ : ∃ m', m = m' + 1 := ⟨m - 1, by omega⟩
    have hlt : i < W.length := by omega
    have hdl : dice.length ≤ LIM := by unfold LIM; omega
    have hbd : (below ++ [W[i]]).length ≤ LIM := by rw [List.length_append, List.length_singleton]; unfold LIM; omega
    rw [bd4.l6_eq, List.drop_eq_getElem_cons hlt, towersOn_cons]
    simp only [Cod.encs_len, Int.ofNat_lt, hlt, decide_true, cond_true, Int.natCast_nonneg, Int.toNat_natCast, dieC_t' hlt, dieC_n' hlt, dieC_e' hlt, dieC_s' hlt, dieC_w' hlt, dieC_b' hlt, Option.bind_some, dieC_scalar, Nat.zero_add, List.nil_append, hb0, hbl, dieC_snoc, Cod.decs_encs hbd, Cod.decs_encs hdl, clF_snoc, hc, Bool.true_and, wrap_succ (show i ≤ LIM by unfold LIM; omega)]
    cases hf : fit below W[i] dice.length with
    | false =>
      simp only [Bool.not_false, cond_true, cond_false, List.nil_append]
      exact ih (i + 1) m acc (by omega) (by omega) (Nat.le_trans ha (Nat.mul_le_mul_right _ (Nat.le_succ i)))
    | true =>
      have hl : lvl 3 dice (below ++ [W[i]]) = true := by
        unfold lvl
        rw [clF_snoc, hc, hf, Bool.and_true, Bool.and_true, decide_eq_true_eq, List.length_append, List.length_singleton]
        omega
      have hT := Nat.le_trans (towersFrom_len dice 3 (below ++ [W[i]])) (show 24 ^ 3 ≤ 331776 by decide)
      have hsum : IntKind.wrap .i64 ((acc.length : Int) + numT dice 3 (below ++ [W[i]])) = ((acc ++ towersFrom dice 3 (below ++ [W[i]])).length : Nat) := by
        unfold numT
        rw [wrap_in (by omega) (by omega), List.length_append]; omega
      have hfo : (bif ((acc.length : Int) == 0) then dieC.encs (firstT dice 3 (below ++ [W[i]])) else dieC.encs (firstOf acc)) = dieC.encs (firstOf (acc ++ towersFrom dice 3 (below ++ [W[i]]))) := by
        cases acc with
        | nil => rfl
        | cons x acc =>
          have : ((((x :: acc).length : Nat) : Int) == 0) = false := by rw [ieq, decide_eq_false_iff_not, List.length_cons]; omega
          rw [this]; rfl
      simp only [Bool.not_true, cond_false, cond_true, hl, hsum]
      have := ih (i + 1) m (acc ++ towersFrom dice 3 (below ++ [W[i]])) (by omega) (by omega) (by rw [List.length_append]; omega)
      rw [← List.append_assoc, ← this, ← hfo]
      generalize ((acc.length : Int) == 0) = b
      cases b <;> simp only [cond_true, cond_false]
def bd4.stub : Stub
  | [.one (.sl 6 es), .one (.sl 6 es')] => .any (dieC.decs es) fun dice => .any (dieC.decs es') fun below => .gd (Sp.lvl 4 dice below) (.ret [.one (.sl 6 (dieC.encs (Sp.firstT dice 4 below))), .one (.int .i64 (Sp.numT dice 4 below))])
  | _ => .fail
theorem bd4.ok : StubOk Try.prog C0 29 bd4.stub := by
  intro args res h
  unfold bd4.stub at h
  split at h
  · obtain ⟨dice, h1, h0⟩ := any_out h
    obtain ⟨rfl, hl⟩ := Cod.decs_inv h1
    obtain ⟨below, h1', h0'⟩ := any_out h0
    obtain ⟨rfl, hl'⟩ := Cod.decs_inv h1'
    obtain ⟨h2, h3⟩ := gd_out h0'
    obtain ⟨hd, hd4, hc⟩ := lvl_out h2
    cases h3
    refine bd4.ev (n := 100) ?_
    have hlt : below.length < dice.length := by omega
    have hlti : ((below.length : Nat) : Int) < dice.length := by omega
    have hne : (((below.length : Nat) : Int) == ((dice.length : Nat) : Int)) = false := by rw [ieq, decide_eq_false_iff_not]; omega
    have hW := ways_len dice[below.length]
    have := bd4.l6_run (n := 100) hd hd4 hc hW _ 0 100 [] (Nat.zero_add _) (by omega) (by simp)
    unfold bd4.res
    simp only [Cod.encs_len, hne, cond_false, hlti, decide_true, cond_true, Int.toNat_natCast, dieC_t' hlt, dieC_n' hlt, dieC_e' hlt, dieC_s' hlt, dieC_w' hlt, dieC_b' hlt, Option.bind_some, Die.eta]
    have e : towersFrom dice 4 below = [] ++ towersOn dice 3 below ((Sp.ways dice[below.length]).drop 0) := by
      rw [List.nil_append, List.drop_zero, ← getD_of_lt (d := default) hlt]; exact towersFrom_succ dice 3 below
    unfold firstT numT
    rw [e]
    exact this
  · cases h
def bdT.stub : Stub
  | [.one (.sl 6 es), .one (.sl _ [])] => .any (dieC.decs es) fun dice => .gd (decide (1 ≤ dice.length ∧ dice.length ≤ 4)) (.ret [.one (.sl 6 (dieC.encs (Sp.firstT dice dice.length []))), .one (.int .i64 (Sp.numT dice dice.length []))])
  | _ => .fail
theorem nil2 {P : Program} {C : Cfg} {f : FuncId} {d : D} {sz sz' : Nat} {res : List Q} (h : Snd P C f [.one d, .one (.sl sz [])] res) : Snd P C f [.one d, .one (.sl sz' [])] res :=
  h.weak rfl fun w ok i v hi hr => by
    match i, hi with
    | 0, _ => exact hr
    | 1, _ => exact crel_nil hr
theorem bdT.ok : StubOk Try.prog C0 29 bdT.stub := by
  intro args res h
  unfold bdT.stub at h
  split at h
  · obtain ⟨dice, h1, h0⟩ := any_out h
    obtain ⟨rfl, hL⟩ := Cod.decs_inv h1
    obtain ⟨h2, h3⟩ := gd_out h0
    have h2 := of_decide_eq_true h2
    cases h3
    have hl : ∀ q, dice.length = q → lvl q dice [] = true := by
      intro q hq
      unfold lvl
      rw [clF_nil, Bool.and_true, decide_eq_true_eq]
      exact ⟨by simpa using hq, h2.2⟩
    have hd := Cod.decs_encs (c := dieC) (l := dice) hL
    have hn : dieC.decs [] = some [] := rfl
    rcases (show dice.length = 1 ∨ dice.length = 2 ∨ dice.length = 3 ∨ dice.length = 4 by omega) with e | e | e | e
    · rw [e]; refine nil2 (sz := 6) (bd1.ok _ _ ?_); simp only [bd1.stub, HM.out, hd, hn, Option.bind_some]; rw [hl 1 e]; rfl
    · rw [e]; refine nil2 (sz := 6) (bd2.ok _ _ ?_); simp only [bd2.stub, HM.out, hd, hn, Option.bind_some]; rw [hl 2 e]; rfl
    · rw [e]; refine nil2 (sz := 6) (bd3.ok _ _ ?_); simp only [bd3.stub, HM.out, hd, hn, Option.bind_some]; rw [hl 3 e]; rfl
    · rw [e]; refine nil2 (sz := 6) (bd4.ok _ _ ?_); simp only [bd4.stub, HM.out, hd, hn, Option.bind_some]; rw [hl 4 e]; rfl
  · cases h
end Go.Proofs.EV.PL
set_option linter.unusedVariables false
set_option linter.unusedSimpArgs false
/-! Towers, the program's. -/
namespace Go.Proofs.EV.PL
open Go Go.Proofs Go.Proofs.EV Sp
theorem lvlI_out {q : Nat} {dice below : List Die} (h : lvlI q dice below = true) : dice.length = below.length + q ∧ dice.length ≤ 4 := of_decide_eq_true h
/-! more -/
noncomputable def more.cfg : Cfg := { C0 with keep := fun _ => none, nb := 2, M := tabM [], MM := tabB [] }
noncomputable def more.res (n : Nat) (es : List (List D)) (c : Int) : Option (List V × List Ob) :=
  some ([V.one true (D.bool true)], [Ob.row false (6 : Nat) es, Ob.box [V.one true (D.int IntKind.i64 (IntKind.wrap IntKind.i64 (c + (1 : Int))))]])
theorem more.run (n : Nat) (es : List (List D)) (c : Int) :
    (fun p : List V × List Ob => runB more.cfg n Try.f33 p.1 p.2) ([V.rw (0 : Nat), V.rp (1 : Nat) (0 : Nat)], [Ob.row false (6 : Nat) es, Ob.box [V.one true (D.int IntKind.i64 c)]]) = more.res n es c := by kernel_rfl
theorem more.ev {n : Nat} {es : List (List D)} {c : Int} {r : List V} {o : List Ob} (h : more.res n es c = some (r, o)) : SndB Try.prog C0 33 [.rw 0, .rp 1 0] [.row false 6 es, .box [.one true (.int .i64 c)]] r o :=
  sndB_ev (C := more.cfg) cfg0 mix rfl rfl rfl rfl rfl .nil .nil Try.func33 (by kernel_rfl) (by kernel_rfl) rfl ((more.run n es c).trans h)

def more.stub : StubB
  | [.rw 0, .rp 1 0], [.row false 6 es, .box [.one true (.int .i64 c)]] => .ret ([.one true (.bool true)], [.row false 6 es, .box [.one true (.int .i64 (IntKind.wrap .i64 (c + 1)))]])
  | _, _ => .fail
theorem more.ok : StubBOk Try.prog C0 33 more.stub := by
  intro args objs res objs' h
  unfold more.stub at h
  split at h
  · cases h; exact more.ev (n := 0) rfl
  · cases h
/-! tw0 -/
noncomputable def tw0.cfg : Cfg := { C0 with keep := fun | 4 => some [0, 1, 2, 22, 23, 24] | _ => none, nb := 2, M := tabM [(41, impl_Die_ways.stub), (53, impl_fits.stub), (54, slices_Clone_Simpl_Die_impl_Die.stub)], MM := tabB [(33, more.stub)] }
noncomputable def tw0.l4 (n : Nat) (m4 : Nat) (l0 : List (List D)) (i1 : Int) (i2 : Int) (l3 : List (List D)) (i4 : Int) (l5 : List (List D)) : Option (List V × List Ob) :=
  loopAtB tw0.cfg n Try.f32 [1, 1, 0, 1, 0] [] m4 (St.mk [V.one false (D.sl (6 : Nat) l0), V.rw (0 : Nat), V.fnv (33 : Nat) [] [V.rp (1 : Nat) (0 : Nat)], V.undef, V.undef, V.undef, V.undef, V.undef, V.undef, V.undef, V.undef, V.undef, V.undef, V.undef, V.undef, V.undef, V.undef, V.undef, V.undef, V.undef, V.undef, V.undef, V.rw (2 : Nat), V.one true (D.int IntKind.i64 i1), V.one true (D.int IntKind.i64 i2), V.undef, V.undef, V.undef, V.undef, V.undef, V.undef, V.undef, V.undef, V.undef, V.undef, V.undef, V.undef, V.undef, V.undef, V.undef, V.undef, V.undef, V.undef, V.undef, V.undef] [Ob.row false (6 : Nat) l3, Ob.box [V.one true (D.int IntKind.i64 i4)], Ob.row false (6 : Nat) l5])
theorem tw0.l4_eq (n : Nat) (m4 : Nat) (l0 : List (List D)) (i1 : Int) (i2 : Int) (l3 : List (List D)) (i4 : Int) (l5 : List (List D)) :
    tw0.l4 n (m4 + 1) l0 i1 i2 l3 i4 l5 = bif decide (i2 < i1) then bif decide ((0 : Int) ≤ i2) then bif decide (i2 < (↑(List.length l5) : Int)) then Option.bind (Option.bind (some (cellD l5 (Int.toNat i2) (0 : Nat))) (D.int? IntKind.i64)) fun (i7 : Int) => Option.bind (Option.bind (some (cellD l5 (Int.toNat i2) (1 : Nat))) (D.int? IntKind.i64)) fun (i8 : Int) => Option.bind (Option.bind (some (cellD l5 (Int.toNat i2) (2 : Nat))) (D.int? IntKind.i64)) fun (i9 : Int) => Option.bind (Option.bind (some (cellD l5 (Int.toNat i2) (3 : Nat))) (D.int? IntKind.i64)) fun (i10 : Int) => Option.bind (Option.bind (some (cellD l5 (Int.toNat i2) (4 : Nat))) (D.int? IntKind.i64)) fun (i11 : Int) => Option.bind (Option.bind (some (cellD l5 (Int.toNat i2) (5 : Nat))) (D.int? IntKind.i64)) fun (i12 : Int) => Option.bind (Cod.decs dieC l3) fun (l13 : List Die) => bif fit l13 (Die.mk i7 i8 i9 i10 i11 i12) (↑(List.length l0) : Int) then Option.bind (Cod.decs dieC l3) fun (l14 : List Die) => bif decide (List.length (Cod.encs dieC l14) + (1 : Nat) ≤ (17179869184 : Nat)) then none else none else tw0.l4 n m4 l0 i1 (IntKind.wrap IntKind.i64 (i2 + (1 : Int))) l3 i4 l5 else none else none else some ([V.one true (D.bool true)], [Ob.row false (6 : Nat) l3, Ob.box [V.one true (D.int IntKind.i64 i4)]]) := by kernel_rfl
noncomputable def tw0.res (n : Nat) (ds : List (List D)) (es : List (List D)) (c : Int) : Option (List V × List Ob) :=
  bif (↑(List.length es) : Int) == (↑(List.length ds) : Int) then some ([V.one true (D.bool true)], [Ob.row false (6 : Nat) es, Ob.box [V.one true (D.int IntKind.i64 (IntKind.wrap IntKind.i64 (c + (1 : Int))))]]) else bif decide ((↑(List.length es) : Int) < (↑(List.length ds) : Int)) then Option.bind (Option.bind (some (cellD ds (Int.toNat (↑(List.length es) : Int)) (0 : Nat))) (D.int? IntKind.i64)) fun (i1 : Int) => Option.bind (Option.bind (some (cellD ds (Int.toNat (↑(List.length es) : Int)) (1 : Nat))) (D.int? IntKind.i64)) fun (i2 : Int) => Option.bind (Option.bind (some (cellD ds (Int.toNat (↑(List.length es) : Int)) (2 : Nat))) (D.int? IntKind.i64)) fun (i3 : Int) => Option.bind (Option.bind (some (cellD ds (Int.toNat (↑(List.length es) : Int)) (3 : Nat))) (D.int? IntKind.i64)) fun (i4 : Int) => Option.bind (Option.bind (some (cellD ds (Int.toNat (↑(List.length es) : Int)) (4 : Nat))) (D.int? IntKind.i64)) fun (i5 : Int) => Option.bind (Option.bind (some (cellD ds (Int.toNat (↑(List.length es) : Int)) (5 : Nat))) (D.int? IntKind.i64)) fun (i6 : Int) => tw0.l4 n n ds (↑(List.length (Cod.encs dieC (Sp.ways (Die.mk i1 i2 i3 i4 i5 i6)))) : Int) (0 : Int) es c (Cod.encs dieC (Sp.ways (Die.mk i1 i2 i3 i4 i5 i6))) else none
theorem tw0.run (n : Nat) (ds : List (List D)) (es : List (List D)) (c : Int) :
    (fun p : List V × List Ob => runB tw0.cfg n Try.f32 p.1 p.2) ([V.one false (D.sl (6 : Nat) ds), V.rw (0 : Nat), V.fnv (33 : FuncId) [] [V.rp (1 : Nat) (0 : Nat)]], [Ob.row false (6 : Nat) es, Ob.box [V.one true (D.int IntKind.i64 c)]]) = tw0.res n ds es c := by kernel_rfl
theorem tw0.ev {n : Nat} {ds : List (List D)} {es : List (List D)} {c : Int} {r : List V} {o : List Ob} (h : tw0.res n ds es c = some (r, o)) : SndB Try.prog C0 32 [.one false (.sl 6 ds), .rw 0, .fnv 33 [] [.rp 1 0]] [.row false 6 es, .box [.one true (.int .i64 c)]] r o :=
  sndB_ev (C := tw0.cfg) cfg0 mix rfl rfl rfl rfl rfl (.cons impl_Die_ways.ok (.cons impl_fits.ok (.cons slices_Clone_Simpl_Die_impl_Die.ok .nil))) (.cons more.ok .nil) Try.func32 (by kernel_rfl) (by kernel_rfl) rfl ((tw0.run n ds es c).trans h)

def tw0.stub : StubB
  | [.one false (.sl 6 ds), .rw 0, .fnv 33 [] [.rp 1 0]], [.row false 6 es, .box [.one true (.int .i64 c)]] => .any (dieC.decs ds) fun dice => .any (dieC.decs es) fun below => .gd (Sp.lvlI 0 dice below) (.gd (Sp.isI64 c) (.ret ([.one true (.bool true)], [.row false 6 (dieC.encs below), .box [.one true (.int .i64 (IntKind.wrap .i64 (c + Sp.numT dice 0 below)))], .dead])))
  | _, _ => .fail
theorem tw0.ok : StubBOk Try.prog C0 32 tw0.stub := by
  intro args objs res objs' h
  unfold tw0.stub at h
  split at h
  · obtain ⟨dice, h1, h0⟩ := any_out h
    obtain ⟨rfl, hl⟩ := Cod.decs_inv h1
    obtain ⟨below, h1', h0'⟩ := any_out h0
    obtain ⟨rfl, hl'⟩ := Cod.decs_inv h1'
    obtain ⟨h2, h3⟩ := gd_out h0'
    obtain ⟨h4, h5⟩ := gd_out h3
    obtain ⟨hd, hd4⟩ := lvlI_out h2
    cases h5
    refine SndB.dead (objs' := [.row false 6 (dieC.encs below), .box [_]]) (tw0.ev (n := 0) ?_)
    have hne : (((below.length : Nat) : Int) == ((dice.length : Nat) : Int)) = true := by rw [ieq, decide_eq_true_eq]; omega
    unfold tw0.res
    simp only [Cod.encs_len, hne, cond_true]
    rfl
  · cases h
/-! tw1 -/
noncomputable def tw1.cfg : Cfg := { C0 with keep := fun | 4 => some [0, 1, 2, 22, 23, 24] | _ => none, nb := 2, M := tabM [(41, impl_Die_ways.stub), (53, impl_fits.stub), (54, slices_Clone_Simpl_Die_impl_Die.stub)], MM := tabB [(33, more.stub), (32, tw0.stub)] }
noncomputable def tw1.l4 (n : Nat) (m4 : Nat) (l0 : List (List D)) (i1 : Int) (i2 : Int) (l3 : List (List D)) (i4 : Int) (l5 : List (List D)) : Option (List V × List Ob) :=
  loopAtB tw1.cfg n Try.f32 [1, 1, 0, 1, 0] [] m4 (St.mk [V.one false (D.sl (6 : Nat) l0), V.rw (0 : Nat), V.fnv (33 : Nat) [] [V.rp (1 : Nat) (0 : Nat)], V.undef, V.undef, V.undef, V.undef, V.undef, V.undef, V.undef, V.undef, V.undef, V.undef, V.undef, V.undef, V.undef, V.undef, V.undef, V.undef, V.undef, V.undef, V.undef, V.rw (2 : Nat), V.one true (D.int IntKind.i64 i1), V.one true (D.int IntKind.i64 i2), V.undef, V.undef, V.undef, V.undef, V.undef, V.undef, V.undef, V.undef, V.undef, V.undef, V.undef, V.undef, V.undef, V.undef, V.undef, V.undef, V.undef, V.undef, V.undef, V.undef] [Ob.row false (6 : Nat) l3, Ob.box [V.one true (D.int IntKind.i64 i4)], Ob.row false (6 : Nat) l5])
theorem tw1.l4_eq (n : Nat) (m4 : Nat) (l0 : List (List D)) (i1 : Int) (i2 : Int) (l3 : List (List D)) (i4 : Int) (l5 : List (List D)) :
    tw1.l4 n (m4 + 1) l0 i1 i2 l3 i4 l5 = bif decide (i2 < i1) then bif decide ((0 : Int) ≤ i2) then bif decide (i2 < (↑(List.length l5) : Int)) then Option.bind (Option.bind (some (cellD l5 (Int.toNat i2) (0 : Nat))) (D.int? IntKind.i64)) fun (i7 : Int) => Option.bind (Option.bind (some (cellD l5 (Int.toNat i2) (1 : Nat))) (D.int? IntKind.i64)) fun (i8 : Int) => Option.bind (Option.bind (some (cellD l5 (Int.toNat i2) (2 : Nat))) (D.int? IntKind.i64)) fun (i9 : Int) => Option.bind (Option.bind (some (cellD l5 (Int.toNat i2) (3 : Nat))) (D.int? IntKind.i64)) fun (i10 : Int) => Option.bind (Option.bind (some (cellD l5 (Int.toNat i2) (4 : Nat))) (D.int? IntKind.i64)) fun (i11 : Int) => Option.bind (Option.bind (some (cellD l5 (Int.toNat i2) (5 : Nat))) (D.int? IntKind.i64)) fun (i12 : Int) => Option.bind (Cod.decs dieC l3) fun (l13 : List Die) => bif fit l13 (Die.mk i7 i8 i9 i10 i11 i12) (↑(List.length l0) : Int) then Option.bind (Cod.decs dieC l3) fun (l14 : List Die) => bif decide (List.length (Cod.encs dieC l14) + (1 : Nat) ≤ (17179869184 : Nat)) then Option.bind (Cod.decs dieC l0) fun (l15 : List Die) => Option.bind (Cod.decs dieC (Cod.encs dieC l14 ++ [[D.int IntKind.i64 i7, D.int IntKind.i64 i8, D.int IntKind.i64 i9, D.int IntKind.i64 i10, D.int IntKind.i64 i11, D.int IntKind.i64 i12]])) fun (l16 : List Die) => bif lvlI (0 : Nat) l15 l16 then bif isI64 i4 then tw1.l4 n m4 l0 i1 (IntKind.wrap IntKind.i64 (i2 + (1 : Int))) l3 (IntKind.wrap IntKind.i64 (i4 + numT l15 (0 : Nat) l16)) l5 else none else none else none else tw1.l4 n m4 l0 i1 (IntKind.wrap IntKind.i64 (i2 + (1 : Int))) l3 i4 l5 else none else none else some ([V.one true (D.bool true)], [Ob.row false (6 : Nat) l3, Ob.box [V.one true (D.int IntKind.i64 i4)]]) := by kernel_rfl
noncomputable def tw1.res (n : Nat) (ds : List (List D)) (es : List (List D)) (c : Int) : Option (List V × List Ob) :=
  bif (↑(List.length es) : Int) == (↑(List.length ds) : Int) then some ([V.one true (D.bool true)], [Ob.row false (6 : Nat) es, Ob.box [V.one true (D.int IntKind.i64 (IntKind.wrap IntKind.i64 (c + (1 : Int))))]]) else bif decide ((↑(List.length es) : Int) < (↑(List.length ds) : Int)) then Option.bind (Option.bind (some (cellD ds (Int.toNat (↑(List.length es) : Int)) (0 : Nat))) (D.int? IntKind.i64)) fun (i1 : Int) => Option.bind (Option.bind (some (cellD ds (Int.toNat (↑(List.length es) : Int)) (1 : Nat))) (D.int? IntKind.i64)) fun (i2 : Int) => Option.bind (Option.bind (some (cellD ds (Int.toNat (↑(List.length es) : Int)) (2 : Nat))) (D.int? IntKind.i64)) fun (i3 : Int) => Option.bind (Option.bind (some (cellD ds (Int.toNat (↑(List.length es) : Int)) (3 : Nat))) (D.int? IntKind.i64)) fun (i4 : Int) => Option.bind (Option.bind (some (cellD ds (Int.toNat (↑(List.length es) : Int)) (4 : Nat))) (D.int? IntKind.i64)) fun (i5 : Int) => Option.bind (Option.bind (some (cellD ds (Int.toNat (↑(List.length es) : Int)) (5 : Nat))) (D.int? IntKind.i64)) fun (i6 : Int) => tw1.l4 n n ds (↑(List.length (Cod.encs dieC (Sp.ways (Die.mk i1 i2 i3 i4 i5 i6)))) : Int) (0 : Int) es c (Cod.encs dieC (Sp.ways (Die.mk i1 i2 i3 i4 i5 i6))) else none
theorem tw1.run (n : Nat) (ds : List (List D)) (es : List (List D)) (c : Int) :
    (fun p : List V × List Ob => runB tw1.cfg n Try.f32 p.1 p.2) ([V.one false (D.sl (6 : Nat) ds), V.rw (0 : Nat), V.fnv (33 : FuncId) [] [V.rp (1 : Nat) (0 : Nat)]], [Ob.row false (6 : Nat) es, Ob.box [V.one true (D.int IntKind.i64 c)]]) = tw1.res n ds es c := by kernel_rfl
theorem tw1.ev {n : Nat} {ds : List (List D)} {es : List (List D)} {c : Int} {r : List V} {o : List Ob} (h : tw1.res n ds es c = some (r, o)) : SndB Try.prog C0 32 [.one false (.sl 6 ds), .rw 0, .fnv 33 [] [.rp 1 0]] [.row false 6 es, .box [.one true (.int .i64 c)]] r o :=
  sndB_ev (C := tw1.cfg) cfg0 mix rfl rfl rfl rfl rfl (.cons impl_Die_ways.ok (.cons impl_fits.ok (.cons slices_Clone_Simpl_Die_impl_Die.ok .nil))) (.cons more.ok (.cons tw0.ok .nil)) Try.func32 (by kernel_rfl) (by kernel_rfl) rfl ((tw1.run n ds es c).trans h)

theorem tw1.l4_run {n : Nat} {dice below W : List Die} (hd : dice.length = below.length + 1) (hd4 : dice.length ≤ 4) (hW : W.length ≤ 24) : ∀ (d i m : Nat) (cc : Int), i + d = W.length → d < m → isI64 cc = true →
    tw1.l4 n m (dieC.encs dice) W.length i (dieC.encs below) cc (dieC.encs W) = some ([V.one true (.bool true)], [Ob.row false 6 (dieC.encs below), Ob.box [V.one true (.int .i64 (IntKind.wrap .i64 (cc + ((towersOn dice 0 below (W.drop i)).length : Nat))))]]) := by
  have hbl : below.length + 1 ≤ 17179869184 := by omega
  have hb0 : below.length ≤ LIM := by unfold LIM; omega
  have hdl : dice.length ≤ LIM := by unfold LIM; omega
  intro d
  induction d with
  | zero =>
    intro i m cc hi hm hcc
    obtain ⟨m, rfl⟩ : ∃ m', m = m' + 1 := ⟨m - 1, by omega⟩
    obtain rfl : i = W.length := by omega
    have h1 : ¬ (W.length : Int) < W.length := by omega
    rw [tw1.l4_eq, List.drop_length]
    simp only [h1, decide_false, cond_false]
    rw [show towersOn dice 0 below [] = [] from rfl, show cc + (([] : List (List Die)).length : Nat) = cc by simp, isI64_eq hcc]
  | succ d ih =>
    intro i m cc hi hm hcc
    obtain ⟨m, rfl⟩ : ∃ m', m = m' + 1 := ⟨m - 1, by omega⟩
    have hlt : i < W.length := by omega
    have hbd : (below ++ [W[i]]).length ≤ LIM := by rw [List.length_append, List.length_singleton]; unfold LIM; omega
    rw [tw1.l4_eq, List.drop_eq_getElem_cons hlt, towersOn_cons]
    simp only [Cod.encs_len, Int.ofNat_lt, hlt, decide_true, cond_true, Int.natCast_nonneg, Int.toNat_natCast, dieC_t' hlt, dieC_n' hlt, dieC_e' hlt, dieC_s' hlt, dieC_w' hlt, dieC_b' hlt, Option.bind_some, Cod.decs_encs hb0, Cod.decs_encs hdl, Die.eta, hbl, dieC_snoc, Cod.decs_encs hbd, wrap_succ (show i ≤ LIM by unfold LIM; omega), hcc]
    cases hf : fit below W[i] dice.length with
    | false =>
      simp only [cond_false, List.nil_append]
      exact ih (i + 1) m cc (by omega) (by omega) hcc
    | true =>
      have hl : lvlI 0 dice (below ++ [W[i]]) = true := by
        unfold lvlI
        rw [decide_eq_true_eq, List.length_append, List.length_singleton]
        omega
      simp only [cond_true, hl]
      rw [ih (i + 1) m _ (by omega) (by omega) (isI64_wrap _), wrap_plus, List.length_append]
      unfold numT
      rw [Int.natCast_add, Int.add_assoc]
def tw1.stub : StubB
  | [.one false (.sl 6 ds), .rw 0, .fnv 33 [] [.rp 1 0]], [.row false 6 es, .box [.one true (.int .i64 c)]] => .any (dieC.decs ds) fun dice => .any (dieC.decs es) fun below => .gd (Sp.lvlI 1 dice below) (.gd (Sp.isI64 c) (.ret ([.one true (.bool true)], [.row false 6 (dieC.encs below), .box [.one true (.int .i64 (IntKind.wrap .i64 (c + Sp.numT dice 1 below)))], .dead])))
  | _, _ => .fail
theorem tw1.ok : StubBOk Try.prog C0 32 tw1.stub := by
  intro args objs res objs' h
  unfold tw1.stub at h
  split at h
  · rename_i ds es c
    obtain ⟨dice, h1, h0⟩ := any_out h
    obtain ⟨rfl, hl⟩ := Cod.decs_inv h1
    obtain ⟨below, h1', h0'⟩ := any_out h0
    obtain ⟨rfl, hl'⟩ := Cod.decs_inv h1'
    obtain ⟨h2, h3⟩ := gd_out h0'
    obtain ⟨h4, h5⟩ := gd_out h3
    obtain ⟨hd, hd4⟩ := lvlI_out h2
    cases h5
    refine SndB.dead (objs' := [.row false 6 (dieC.encs below), .box [_]]) (tw1.ev (n := 100) ?_)
    have hlt : below.length < dice.length := by omega
    have hlti : ((below.length : Nat) : Int) < dice.length := by omega
    have hne : (((below.length : Nat) : Int) == ((dice.length : Nat) : Int)) = false := by rw [ieq, decide_eq_false_iff_not]; omega
    have hW := ways_len dice[below.length]
    have := tw1.l4_run (n := 100) hd hd4 hW _ 0 100 c (Nat.zero_add _) (by omega) h4
    unfold tw1.res
    simp only [Cod.encs_len, hne, cond_false, hlti, decide_true, cond_true, Int.toNat_natCast, dieC_t' hlt, dieC_n' hlt, dieC_e' hlt, dieC_s' hlt, dieC_w' hlt, dieC_b' hlt, Option.bind_some, Die.eta]
    have e : towersFrom dice 1 below = towersOn dice 0 below ((Sp.ways dice[below.length]).drop 0) := by
      rw [List.drop_zero, ← getD_of_lt (d := default) hlt]; exact towersFrom_succ dice 0 below
    unfold numT
    rw [e]
    exact this
  · cases h
/-! tw2 -/
noncomputable def tw2.cfg : Cfg := { C0 with keep := fun | 4 => some [0, 1, 2, 22, 23, 24] | _ => none, nb := 2, M := tabM [(41, impl_Die_ways.stub), (53, impl_fits.stub), (54, slices_Clone_Simpl_Die_impl_Die.stub)], MM := tabB [(33, more.stub), (32, tw1.stub)] }
noncomputable def tw2.l4 (n : Nat) (m4 : Nat) (l0 : List (List D)) (i1 : Int) (i2 : Int) (l3 : List (List D)) (i4 : Int) (l5 : List (List D)) : Option (List V × List Ob) :=
  loopAtB tw2.cfg n Try.f32 [1, 1, 0, 1, 0] [] m4 (St.mk [V.one false (D.sl (6 : Nat) l0), V.rw (0 : Nat), V.fnv (33 : Nat) [] [V.rp (1 : Nat) (0 : Nat)], V.undef, V.undef, V.undef, V.undef, V.undef, V.undef, V.undef, V.undef, V.undef, V.undef, V.undef, V.undef, V.undef, V.undef, V.undef, V.undef, V.undef, V.undef, V.undef, V.rw (2 : Nat), V.one true (D.int IntKind.i64 i1), V.one true (D.int IntKind.i64 i2), V.undef, V.undef, V.undef, V.undef, V.undef, V.undef, V.undef, V.undef, V.undef, V.undef, V.undef, V.undef, V.undef, V.undef, V.undef, V.undef, V.undef, V.undef, V.undef, V.undef] [Ob.row false (6 : Nat) l3, Ob.box [V.one true (D.int IntKind.i64 i4)], Ob.row false (6 : Nat) l5])
theorem tw2.l4_eq (n : Nat) (m4 : Nat) (l0 : List (List D)) (i1 : Int) (i2 : Int) (l3 : List (List D)) (i4 : Int) (l5 : List (List D)) :
    tw2.l4 n (m4 + 1) l0 i1 i2 l3 i4 l5 = bif decide (i2 < i1) then bif decide ((0 : Int) ≤ i2) then bif decide (i2 < (↑(List.length l5) : Int)) then Option.bind (Option.bind (some (cellD l5 (Int.toNat i2) (0 : Nat))) (D.int? IntKind.i64)) fun (i7 : Int) => Option.bind (Option.bind (some (cellD l5 (Int.toNat i2) (1 : Nat))) (D.int? IntKind.i64)) fun (i8 : Int) => Option.bind (Option.bind (some (cellD l5 (Int.toNat i2) (2 : Nat))) (D.int? IntKind.i64)) fun (i9 : Int) => Option.bind (Option.bind (some (cellD l5 (Int.toNat i2) (3 : Nat))) (D.int? IntKind.i64)) fun (i10 : Int) => Option.bind (Option.bind (some (cellD l5 (Int.toNat i2) (4 : Nat))) (D.int? IntKind.i64)) fun (i11 : Int) => Option.bind (Option.bind (some (cellD l5 (Int.toNat i2) (5 : Nat))) (D.int? IntKind.i64)) fun (i12 : Int) => Option.bind (Cod.decs dieC l3) fun (l13 : List Die) => bif fit l13 (Die.mk i7 i8 i9 i10 i11 i12) (↑(List.length l0) : Int) then Option.bind (Cod.decs dieC l3) fun (l14 : List Die) => bif decide (List.length (Cod.encs dieC l14) + (1 : Nat) ≤ (17179869184 : Nat)) then Option.bind (Cod.decs dieC l0) fun (l15 : List Die) => Option.bind (Cod.decs dieC (Cod.encs dieC l14 ++ [[D.int IntKind.i64 i7, D.int IntKind.i64 i8, D.int IntKind.i64 i9, D.int IntKind.i64 i10, D.int IntKind.i64 i11, D.int IntKind.i64 i12]])) fun (l16 : List Die) => bif lvlI (1 : Nat) l15 l16 then bif isI64 i4 then tw2.l4 n m4 l0 i1 (IntKind.wrap IntKind.i64 (i2 + (1 : Int))) l3 (IntKind.wrap IntKind.i64 (i4 + numT l15 (1 : Nat) l16)) l5 else none else none else none else tw2.l4 n m4 l0 i1 (IntKind.wrap IntKind.i64 (i2 + (1 : Int))) l3 i4 l5 else none else none else some ([V.one true (D.bool true)], [Ob.row false (6 : Nat) l3, Ob.box [V.one true (D.int IntKind.i64 i4)]]) := by kernel_rfl
noncomputable def tw2.res (n : Nat) (ds : List (List D)) (es : List (List D)) (c : Int) : Option (List V × List Ob) :=
  bif (↑(List.length es) : Int) == (↑(List.length ds) : Int) then some ([V.one true (D.bool true)], [Ob.row false (6 : Nat) es, Ob.box [V.one true (D.int IntKind.i64 (IntKind.wrap IntKind.i64 (c + (1 : Int))))]]) else bif decide ((↑(List.length es) : Int) < (↑(List.length ds) : Int)) then Option.bind (Option.bind (some (cellD ds (Int.toNat (↑(List.length es) : Int)) (0 : Nat))) (D.int? IntKind.i64)) fun (i1 : Int) => Option.bind (Option.bind (some (cellD ds (Int.toNat (↑(List.length es) : Int)) (1 : Nat))) (D.int? IntKind.i64)) fun (i2 : Int) => Option.bind (Option.bind (some (cellD ds (Int.toNat (↑(List.length es) : Int)) (2 : Nat))) (D.int? IntKind.i64)) fun (i3 : Int) => Option.bind (Option.bind (some (cellD ds (Int.toNat (↑(List.length es) : Int)) (3 : Nat))) (D.int? IntKind.i64)) fun (i4 : Int) => Option.bind (Option.bind (some (cellD ds (Int.toNat (↑(List.length es) : Int)) (4 : Nat))) (D.int? IntKind.i64)) fun (i5 : Int) => Option.bind (Option.bind (some (cellD ds (Int.toNat (↑(List.length es) : Int)) (5 : Nat))) (D.int? IntKind.i64)) fun (i6 : Int) => tw2.l4 n n ds (↑(List.length (Cod.encs dieC (Sp.ways (Die.mk i1 i2 i3 i4 i5 i6)))) : Int) (0 : Int) es c (Cod.encs dieC (Sp.ways (Die.mk i1 i2 i3 i4 i5 i6))) else none
theorem tw2.run (n : Nat) (ds : List (List D)) (es : List (List D)) (c : Int) :
    (fun p : List V × List Ob => runB tw2.cfg n Try.f32 p.1 p.2) ([V.one false (D.sl (6 : Nat) ds), V.rw (0 : Nat), V.fnv (33 : FuncId) [] [V.rp (1 : Nat) (0 : Nat)]], [Ob.row false (6 : Nat) es, Ob.box [V.one true (D.int IntKind.i64 c)]]) = tw2.res n ds es c := by kernel_rfl
theorem tw2.ev {n : Nat} {ds : List (List D)} {es : List (List D)} {c : Int} {r : List V} {o : List Ob} (h : tw2.res n ds es c = some (r, o)) : SndB Try.prog C0 32 [.one false (.sl 6 ds), .rw 0, .fnv 33 [] [.rp 1 0]] [.row false 6 es, .box [.one true (.int .i64 c)]] r o :=
  sndB_ev (C := tw2.cfg) cfg0 mix rfl rfl rfl rfl rfl (.cons impl_Die_ways.ok (.cons impl_fits.ok (.cons slices_Clone_Simpl_Die_impl_Die.ok .nil))) (.cons more.ok (.cons tw1.ok .nil)) Try.func32 (by kernel_rfl) (by kernel_rfl) rfl ((tw2.run n ds es c).trans h)

theorem tw2.l4_run {n : Nat} {dice below W : List Die} (hd : dice.length = below.length + 2) (hd4 : dice.length ≤ 4) (hW : W.length ≤ 24) : ∀ (d i m : Nat) (cc : Int), i + d = W.length → d < m → isI64 cc = true →
    tw2.l4 n m (dieC.encs dice) W.length i (dieC.encs below) cc (dieC.encs W) = some ([V.one true (.bool true)], [Ob.row false 6 (dieC.encs below), Ob.box [V.one true (.int .i64 (IntKind.wrap .i64 (cc + ((towersOn dice 1 below (W.drop i)).length : Nat))))]]) := by
  have hbl : below.length + 1 ≤ 17179869184 := by omega
  have hb0 : below.length ≤ LIM := by unfold LIM; omega
  have hdl : dice.length ≤ LIM := by unfold LIM; omega
  intro d
  induction d with
  | zero =>
    intro i m cc hi hm hcc
    obtain ⟨m, rfl⟩ : ∃ m', m = m' + 1 := ⟨m - 1, by omega⟩
    obtain rfl : i = W.length := by omega
    have h1 : ¬ (W.length : Int) < W.length := by omega
    rw [tw2.l4_eq, List.drop_length]
    simp only [h1, decide_false, cond_false]
    rw [show towersOn dice 1 below [] = [] from rfl, show cc + (([] : List (List Die)).length : Nat) = cc by simp, isI64_eq hcc]
  | succ d ih =>
    intro i m cc hi hm hcc
    obtain ⟨m, rfl⟩ : ∃ m', m = m' + 1 := ⟨m - 1, by omega⟩
    have hlt : i < W.length := by omega
    have hbd : (below ++ [W[i]]).length ≤ LIM := by rw [List.length_append, List.length_singleton]; unfold LIM; omega
    rw [tw2.l4_eq, List.drop_eq_getElem_cons hlt, towersOn_cons]
    simp only [Cod.encs_len, Int.ofNat_lt, hlt, decide_true, cond_true, Int.natCast_nonneg, Int.toNat_natCast, dieC_t' hlt, dieC_n' hlt, dieC_e' hlt, dieC_s' hlt, dieC_w' hlt, dieC_b' hlt, Option.bind_some, Cod.decs_encs hb0, Cod.decs_encs hdl, Die.eta, hbl, dieC_snoc, Cod.decs_encs hbd, wrap_succ (show i ≤ LIM by unfold LIM; omega), hcc]
    cases hf : fit below W[i] dice.length with
    | false =>
      simp only [cond_false, List.nil_append]
      exact ih (i + 1) m cc (by omega) (by omega) hcc
    | true =>
      have hl : lvlI 1 dice (below ++ [W[i]]) = true := by
        unfold lvlI
        rw [decide_eq_true_eq, List.length_append, List.length_singleton]
        omega
      simp only [cond_true, hl]
      rw [ih (i + 1) m _ (by omega) (by omega) (isI64_wrap _), wrap_plus, List.length_append]
      unfold numT
      rw [Int.natCast_add, Int.add_assoc]
def tw2.stub : StubB
  | [.one false (.sl 6 ds), .rw 0, .fnv 33 [] [.rp 1 0]], [.row false 6 es, .box [.one true (.int .i64 c)]] => .any (dieC.decs ds) fun dice => .any (dieC.decs es) fun below => .gd (Sp.lvlI 2 dice below) (.gd (Sp.isI64 c) (.ret ([.one true (.bool true)], [.row false 6 (dieC.encs below), .box [.one true (.int .i64 (IntKind.wrap .i64 (c + Sp.numT dice 2 below)))], .dead])))
  | _, _ => .fail
theorem tw2.ok : StubBOk Try.prog C0 32 tw2.stub := by
  intro args objs res objs' h
  unfold tw2.stub at h
  split at h
  · rename_i ds es c
    obtain ⟨dice, h1, h0⟩ := any_out h
    obtain ⟨rfl, hl⟩ := Cod.decs_inv h1
    obtain ⟨below, h1', h0'⟩ := any_out h0
    obtain ⟨rfl, hl'⟩ := Cod.decs_inv h1'
    obtain ⟨h2, h3⟩ := gd_out h0'
    obtain ⟨h4, h5⟩ := gd_out h3
    obtain ⟨hd, hd4⟩ := lvlI_out h2
    cases h5
    refine SndB.dead (objs' := [.row false 6 (dieC.encs below), .box [_]]) (tw2.ev (n := 100) ?_)
    have hlt : below.length < dice.length := by omega
    have hlti : ((below.length : Nat) : Int) < dice.length := by omega
    have hne : (((below.length : Nat) : Int) == ((dice.length : Nat) : Int)) = false := by rw [ieq, decide_eq_false_iff_not]; omega
    have hW := ways_len dice[below.length]
    have := tw2.l4_run (n := 100) hd hd4 hW _ 0 100 c (Nat.zero_add _) (by omega) h4
    unfold tw2.res
    simp only [Cod.encs_len, hne, cond_false, hlti, decide_true, cond_true, Int.toNat_natCast, dieC_t' hlt, dieC_n' hlt, dieC_e' hlt, dieC_s' hlt, dieC_w' hlt, dieC_b' hlt, Option.bind_some, Die.eta]
    have e : towersFrom dice 2 below = towersOn dice 1 below ((Sp.ways dice[below.length]).drop 0) := by
      rw [List.drop_zero, ← getD_of_lt (d := default) hlt]; exact towersFrom_succ dice 1 below
    unfold numT
    rw [e]
    exact this
  · cases h
/-! tw3 -/
noncomputable def tw3.cfg : Cfg := { C0 with keep := fun | 4 => some [0, 1, 2, 22, 23, 24] | _ => none, nb := 2, M := tabM [(41, impl_Die_ways.stub), (53, impl_fits.stub), (54, slices_Clone_Simpl_Die_impl_Die.stub)], MM := tabB [(33, more.stub), (32, tw2.stub)] }
noncomputable def tw3.l4 (n : Nat) (m4 : Nat) (l0 : List (List D)) (i1 : Int) (i2 : Int) (l3 : List (List D)) (i4 : Int) (l5 : List (List D)) : Option (List V × List Ob) :=
  loopAtB tw3.cfg n Try.f32 [1, 1, 0, 1, 0] [] m4 (St.mk [V.one false (D.sl (6 : Nat) l0), V.rw (0 : Nat), V.fnv (33 : Nat) [] [V.rp (1 : Nat) (0 : Nat)], V.undef, V.undef, V.undef, V.undef, V.undef, V.undef, V.undef, V.undef, V.undef, V.undef, V.undef, V.undef, V.undef, V.undef, V.undef, V.undef, V.undef, V.undef, V.undef, V.rw (2 : Nat), V.one true (D.int IntKind.i64 i1), V.one true (D.int IntKind.i64 i2), V.undef, V.undef, V.undef, V.undef, V.undef, V.undef, V.undef, V.undef, V.undef, V.undef, V.undef, V.undef, V.undef, V.undef, V.undef, V.undef, V.undef, V.undef, V.undef, V.undef] [Ob.row false (6 : Nat) l3, Ob.box [V.one true (D.int IntKind.i64 i4)], Ob.row false (6 : Nat) l5])
theorem tw3.l4_eq (n : Nat) (m4 : Nat) (l0 : List (List D)) (i1 : Int) (i2 : Int) (l3 : List (List D)) (i4 : Int) (l5 : List (List D)) :
    tw3.l4 n (m4 + 1) l0 i1 i2 l3 i4 l5 = bif decide (i2 < i1) then bif decide ((0 : Int) ≤ i2) then bif decide (i2 < (↑(List.length l5) : Int)) then Option.bind (Option.bind (some (cellD l5 (Int.toNat i2) (0 : Nat))) (D.int? IntKind.i64)) fun (i7 : Int) => Option.bind (Option.bind (some (cellD l5 (Int.toNat i2) (1 : Nat))) (D.int? IntKind.i64)) fun (i8 : Int) => Option.bind (Option.bind (some (cellD l5 (Int.toNat i2) (2 : Nat))) (D.int? IntKind.i64)) fun (i9 : Int) => Option.bind (Option.bind (some (cellD l5 (Int.toNat i2) (3 : Nat))) (D.int? IntKind.i64)) fun (i10 : Int) => Option.bind (Option.bind (some (cellD l5 (Int.toNat i2) (4 : Nat))) (D.int? IntKind.i64)) fun (i11 : Int) => Option.bind (Option.bind (some (cellD l5 (Int.toNat i2) (5 : Nat))) (D.int? IntKind.i64)) fun (i12 : Int) => Option.bind (Cod.decs dieC l3) fun (l13 : List Die) => bif fit l13 (Die.mk i7 i8 i9 i10 i11 i12) (↑(List.length l0) : Int) then Option.bind (Cod.decs dieC l3) fun (l14 : List Die) => bif decide (List.length (Cod.encs dieC l14) + (1 : Nat) ≤ (17179869184 : Nat)) then Option.bind (Cod.decs dieC l0) fun (l15 : List Die) => Option.bind (Cod.decs dieC (Cod.encs dieC l14 ++ [[D.int IntKind.i64 i7, D.int IntKind.i64 i8, D.int IntKind.i64 i9, D.int IntKind.i64 i10, D.int IntKind.i64 i11, D.int IntKind.i64 i12]])) fun (l16 : List Die) => bif lvlI (2 : Nat) l15 l16 then bif isI64 i4 then tw3.l4 n m4 l0 i1 (IntKind.wrap IntKind.i64 (i2 + (1 : Int))) l3 (IntKind.wrap IntKind.i64 (i4 + numT l15 (2 : Nat) l16)) l5 else none else none else none else tw3.l4 n m4 l0 i1 (IntKind.wrap IntKind.i64 (i2 + (1 : Int))) l3 i4 l5 else none else none else some ([V.one true (D.bool true)], [Ob.row false (6 : Nat) l3, Ob.box [V.one true (D.int IntKind.i64 i4)]]) := by kernel_rfl
noncomputable def tw3.res (n : Nat) (ds : List (List D)) (es : List (List D)) (c : Int) : Option (List V × List Ob) :=
  bif (↑(List.length es) : Int) == (↑(List.length ds) : Int) then some ([V.one true (D.bool true)], [Ob.row false (6 : Nat) es, Ob.box [V.one true (D.int IntKind.i64 (IntKind.wrap IntKind.i64 (c + (1 : Int))))]]) else bif decide ((↑(List.length es) : Int) < (↑(List.length ds) : Int)) then Option.bind (Option.bind (some (cellD ds (Int.toNat (↑(List.length es) : Int)) (0 : Nat))) (D.int? IntKind.i64)) fun (i1 : Int) => Option.bind (Option.bind (some (cellD ds (Int.toNat (↑(List.length es) : Int)) (1 : Nat))) (D.int? IntKind.i64)) fun (i2 : Int) => Option.bind (Option.bind (some (cellD ds (Int.toNat (↑(List.length es) : Int)) (2 : Nat))) (D.int? IntKind.i64)) fun (i3 : Int) => Option.bind (Option.bind (some (cellD ds (Int.toNat (↑(List.length es) : Int)) (3 : Nat))) (D.int? IntKind.i64)) fun (i4 : Int) => Option.bind (Option.bind (some (cellD ds (Int.toNat (↑(List.length es) : Int)) (4 : Nat))) (D.int? IntKind.i64)) fun (i5 : Int) => Option.bind (Option.bind (some (cellD ds (Int.toNat (↑(List.length es) : Int)) (5 : Nat))) (D.int? IntKind.i64)) fun (i6 : Int) => tw3.l4 n n ds (↑(List.length (Cod.encs dieC (Sp.ways (Die.mk i1 i2 i3 i4 i5 i6)))) : Int) (0 : Int) es c (Cod.encs dieC (Sp.ways (Die.mk i1 i2 i3 i4 i5 i6))) else none
theorem tw3.run (n : Nat) (ds : List (List D)) (es : List (List D)) (c : Int) :
    (fun p : List V × List Ob => runB tw3.cfg n Try.f32 p.1 p.2) ([V.one false (D.sl (6 : Nat) ds), V.rw (0 : Nat), V.fnv (33 : FuncId) [] [V.rp (1 : Nat) (0 : Nat)]], [Ob.row false (6 : Nat) es, Ob.box [V.one true (D.int IntKind.i64 c)]]) = tw3.res n ds es c := by kernel_rfl
theorem tw3.ev {n : Nat} {ds : List (List D)} {es : List (List D)} {c : Int} {r : List V} {o : List Ob} (h : tw3.res n ds es c = some (r, o)) : SndB Try.prog C0 32 [.one false (.sl 6 ds), .rw 0, .fnv 33 [] [.rp 1 0]] [.row false 6 es, .box [.one true (.int .i64 c)]] r o :=
  sndB_ev (C := tw3.cfg) cfg0 mix rfl rfl rfl rfl rfl (.cons impl_Die_ways.ok (.cons impl_fits.ok (.cons slices_Clone_Simpl_Die_impl_Die.ok .nil))) (.cons more.ok (.cons tw2.ok .nil)) Try.func32 (by kernel_rfl) (by kernel_rfl) rfl ((tw3.run n ds es c).trans h)

theorem tw3.l4_run {n : Nat} {dice below W : List Die} (hd : dice.length = below.length + 3) (hd4 : dice.length ≤ 4) (hW : W.length ≤ 24) : ∀ (d i m : Nat) (cc : Int), i + d = W.length → d < m → isI64 cc = true →
    tw3.l4 n m (dieC.encs dice) W.length i (dieC.encs below) cc (dieC.encs W) = some ([V.one true (.bool true)], [Ob.row false 6 (dieC.encs below), Ob.box [V.one true (.int .i64 (IntKind.wrap .i64 (cc + ((towersOn dice 2 below (W.drop i)).length : Nat))))]]) := by
  have hbl : below.length + 1 ≤ 17179869184 := by omega
  have hb0 : below.length ≤ LIM := by unfold LIM; omega
  have hdl : dice.length ≤ LIM := by unfold LIM; omega
  intro d
  induction d with
  | zero =>
    intro i m cc hi hm hcc
    obtain ⟨m, rfl⟩ : ∃ m', m = m' + 1 := ⟨m - 1, by omega⟩
    obtain rfl : i = W.length := by omega
    have h1 : ¬ (W.length : Int) < W.length := by omega
    rw [tw3.l4_eq, List.drop_length]
    simp only [h1, decide_false, cond_false]
    rw [show towersOn dice 2 below [] = [] from rfl, show cc + (([] : List (List Die)).length : Nat) = cc by simp, isI64_eq hcc]
  | succ d ih =>
    intro i m cc hi hm hcc
    obtain ⟨m, rfl⟩ : ∃ m', m = m' + 1 := ⟨m - 1, by omega⟩
    have hlt : i < W.length := by omega
    have hbd : (below ++ [W[i]]).length ≤ LIM := by rw [List.length_append, List.length_singleton]; unfold LIM; omega
    rw [tw3.l4_eq, List.drop_eq_getElem_cons hlt, towersOn_cons]
    simp only [Cod.encs_len, Int.ofNat_lt, hlt, decide_true, cond_true, Int.natCast_nonneg, Int.toNat_natCast, dieC_t' hlt, dieC_n' hlt, dieC_e' hlt, dieC_s' hlt, dieC_w' hlt, dieC_b' hlt, Option.bind_some, Cod.decs_encs hb0, Cod.decs_encs hdl, Die.eta, hbl, dieC_snoc, Cod.decs_encs hbd, wrap_succ (show i ≤ LIM by unfold LIM; omega), hcc]
    cases hf : fit below W[i] dice.length with
    | false =>
      simp only [cond_false, List.nil_append]
      exact ih (i + 1) m cc (by omega) (by omega) hcc
    | true =>
      have hl : lvlI 2 dice (below ++ [W[i]]) = true := by
        unfold lvlI
        rw [decide_eq_true_eq, List.length_append, List.length_singleton]
        omega
      simp only [cond_true, hl]
      rw [ih (i + 1) m _ (by omega) (by omega) (isI64_wrap _), wrap_plus, List.length_append]
      unfold numT
      rw [Int.natCast_add, Int.add_assoc]
def tw3.stub : StubB
  | [.one false (.sl 6 ds), .rw 0, .fnv 33 [] [.rp 1 0]], [.row false 6 es, .box [.one true (.int .i64 c)]] => .any (dieC.decs ds) fun dice => .any (dieC.decs es) fun below => .gd (Sp.lvlI 3 dice below) (.gd (Sp.isI64 c) (.ret ([.one true (.bool true)], [.row false 6 (dieC.encs below), .box [.one true (.int .i64 (IntKind.wrap .i64 (c + Sp.numT dice 3 below)))], .dead])))
  | _, _ => .fail
theorem tw3.ok : StubBOk Try.prog C0 32 tw3.stub := by
  intro args objs res objs' h
  unfold tw3.stub at h
  split at h
  · rename_i ds es c
    obtain ⟨dice, h1, h0⟩ := any_out h
    obtain ⟨rfl, hl⟩ := Cod.decs_inv h1
    obtain ⟨below, h1', h0'⟩ := any_out h0
    obtain ⟨rfl, hl'⟩ := Cod.decs_inv h1'
    obtain ⟨h2, h3⟩ := gd_out h0'
    obtain ⟨h4, h5⟩ := gd_out h3
    obtain ⟨hd, hd4⟩ := lvlI_out h2
    cases h5
    refine SndB.dead (objs' := [.row false 6 (dieC.encs below), .box [_]]) (tw3.ev (n := 100) ?_)
    have hlt : below.length < dice.length := by omega
    have hlti : ((below.length : Nat) : Int) < dice.length := by omega
    have hne : (((below.length : Nat) : Int) == ((dice.length : Nat) : Int)) = false := by rw [ieq, decide_eq_false_iff_not]; omega
    have hW := ways_len dice[below.length]
    have := tw3.l4_run (n := 100) hd hd4 hW _ 0 100 c (Nat.zero_add _) (by omega) h4
    unfold tw3.res
    simp only [Cod.encs_len, hne, cond_false, hlti, decide_true, cond_true, Int.toNat_natCast, dieC_t' hlt, dieC_n' hlt, dieC_e' hlt, dieC_s' hlt, dieC_w' hlt, dieC_b' hlt, Option.bind_some, Die.eta]
    have e : towersFrom dice 3 below = towersOn dice 2 below ((Sp.ways dice[below.length]).drop 0) := by
      rw [List.drop_zero, ← getD_of_lt (d := default) hlt]; exact towersFrom_succ dice 2 below
    unfold numT
    rw [e]
    exact this
  · cases h
end Go.Proofs.EV.PL
set_option linter.unusedVariables false
set_option linter.unusedSimpArgs false
/-! The first tower. -/
namespace Go.Proofs.EV.PL
open Go Go.Proofs Go.Proofs.EV Sp
/-! putT -/
noncomputable def putT.cfg : Cfg := { C0 with keep := fun _ => none, nb := 3, M := tabM [], MM := tabB [] }
noncomputable def putT.res (n : Nat) (es : List (List D)) (fs : List (List D)) : Option (List V × List Ob) :=
  some ([V.one true (D.bool false)], [Ob.row false (6 : Nat) es, Ob.box [V.rw (0 : Nat)], Ob.row false (6 : Nat) fs])
theorem putT.run (n : Nat) (es : List (List D)) (fs : List (List D)) :
    (fun p : List V × List Ob => runB putT.cfg n Try.f34 p.1 p.2) ([V.rw (0 : Nat), V.rp (1 : Nat) (0 : Nat)], [Ob.row false (6 : Nat) es, Ob.box [V.rw (2 : Nat)], Ob.row false (6 : Nat) fs]) = putT.res n es fs := by kernel_rfl
theorem putT.ev {n : Nat} {es : List (List D)} {fs : List (List D)} {r : List V} {o : List Ob} (h : putT.res n es fs = some (r, o)) : SndB Try.prog C0 34 [.rw 0, .rp 1 0] [.row false 6 es, .box [.rw 2], .row false 6 fs] r o :=
  sndB_ev (C := putT.cfg) cfg0 mix rfl rfl rfl rfl rfl .nil .nil Try.func34 (by kernel_rfl) (by kernel_rfl) rfl ((putT.run n es fs).trans h)

def putT.stub : StubB
  | [.rw 0, .rp 1 0], [.row false 6 es, .box [.rw 2], .row false 6 fs] => .ret ([.one true (.bool false)], [.row false 6 es, .box [.rw 0], .row false 6 fs])
  | _, _ => .fail
theorem putT.ok : StubBOk Try.prog C0 34 putT.stub := by
  intro args objs res objs' h
  unfold putT.stub at h
  split at h
  · cases h; exact putT.ev (n := 0) rfl
  · cases h
/-! fw0 -/
noncomputable def fw0.cfg : Cfg := { C0 with keep := fun | 4 => some [0, 1, 2, 22, 23, 24] | _ => none, nb := 3, M := tabM [(41, impl_Die_ways.stub), (53, impl_fits.stub), (54, slices_Clone_Simpl_Die_impl_Die.stub)], MM := tabB [(34, putT.stub)] }
noncomputable def fw0.l4 (n : Nat) (m4 : Nat) (l0 : List (List D)) (i1 : Int) (i2 : Int) (l3 : List (List D)) (l4 : List (List D)) (l5 : List (List D)) : Option (List V × List Ob) :=
  loopAtB fw0.cfg n Try.f32 [1, 1, 0, 1, 0] [] m4 (St.mk [V.one false (D.sl (6 : Nat) l0), V.rw (0 : Nat), V.fnv (34 : Nat) [] [V.rp (1 : Nat) (0 : Nat)], V.undef, V.undef, V.undef, V.undef, V.undef, V.undef, V.undef, V.undef, V.undef, V.undef, V.undef, V.undef, V.undef, V.undef, V.undef, V.undef, V.undef, V.undef, V.undef, V.rw (3 : Nat), V.one true (D.int IntKind.i64 i1), V.one true (D.int IntKind.i64 i2), V.undef, V.undef, V.undef, V.undef, V.undef, V.undef, V.undef, V.undef, V.undef, V.undef, V.undef, V.undef, V.undef, V.undef, V.undef, V.undef, V.undef, V.undef, V.undef, V.undef] [Ob.row false (6 : Nat) l3, Ob.box [V.rw (2 : Nat)], Ob.row false (6 : Nat) l4, Ob.row false (6 : Nat) l5])
theorem fw0.l4_eq (n : Nat) (m4 : Nat) (l0 : List (List D)) (i1 : Int) (i2 : Int) (l3 : List (List D)) (l4 : List (List D)) (l5 : List (List D)) :
    fw0.l4 n (m4 + 1) l0 i1 i2 l3 l4 l5 = bif decide (i2 < i1) then bif decide ((0 : Int) ≤ i2) then bif decide (i2 < (↑(List.length l5) : Int)) then Option.bind (Option.bind (some (cellD l5 (Int.toNat i2) (0 : Nat))) (D.int? IntKind.i64)) fun (i7 : Int) => Option.bind (Option.bind (some (cellD l5 (Int.toNat i2) (1 : Nat))) (D.int? IntKind.i64)) fun (i8 : Int) => Option.bind (Option.bind (some (cellD l5 (Int.toNat i2) (2 : Nat))) (D.int? IntKind.i64)) fun (i9 : Int) => Option.bind (Option.bind (some (cellD l5 (Int.toNat i2) (3 : Nat))) (D.int? IntKind.i64)) fun (i10 : Int) => Option.bind (Option.bind (some (cellD l5 (Int.toNat i2) (4 : Nat))) (D.int? IntKind.i64)) fun (i11 : Int) => Option.bind (Option.bind (some (cellD l5 (Int.toNat i2) (5 : Nat))) (D.int? IntKind.i64)) fun (i12 : Int) => Option.bind (Cod.decs dieC l3) fun (l13 : List Die) => bif fit l13 (Die.mk i7 i8 i9 i10 i11 i12) (↑(List.length l0) : Int) then Option.bind (Cod.decs dieC l3) fun (l14 : List Die) => bif decide (List.length (Cod.encs dieC l14) + (1 : Nat) ≤ (17179869184 : Nat)) then none else none else fw0.l4 n m4 l0 i1 (IntKind.wrap IntKind.i64 (i2 + (1 : Int))) l3 l4 l5 else none else none else some ([V.one true (D.bool true)], [Ob.row false (6 : Nat) l3, Ob.box [V.rw (2 : Nat)], Ob.row false (6 : Nat) l4]) := by kernel_rfl
noncomputable def fw0.res (n : Nat) (ds : List (List D)) (es : List (List D)) (fs : List (List D)) : Option (List V × List Ob) :=
  bif (↑(List.length es) : Int) == (↑(List.length ds) : Int) then some ([V.one true (D.bool false)], [Ob.row false (6 : Nat) es, Ob.box [V.rw (0 : Nat)], Ob.row false (6 : Nat) fs]) else bif decide ((↑(List.length es) : Int) < (↑(List.length ds) : Int)) then Option.bind (Option.bind (some (cellD ds (Int.toNat (↑(List.length es) : Int)) (0 : Nat))) (D.int? IntKind.i64)) fun (i1 : Int) => Option.bind (Option.bind (some (cellD ds (Int.toNat (↑(List.length es) : Int)) (1 : Nat))) (D.int? IntKind.i64)) fun (i2 : Int) => Option.bind (Option.bind (some (cellD ds (Int.toNat (↑(List.length es) : Int)) (2 : Nat))) (D.int? IntKind.i64)) fun (i3 : Int) => Option.bind (Option.bind (some (cellD ds (Int.toNat (↑(List.length es) : Int)) (3 : Nat))) (D.int? IntKind.i64)) fun (i4 : Int) => Option.bind (Option.bind (some (cellD ds (Int.toNat (↑(List.length es) : Int)) (4 : Nat))) (D.int? IntKind.i64)) fun (i5 : Int) => Option.bind (Option.bind (some (cellD ds (Int.toNat (↑(List.length es) : Int)) (5 : Nat))) (D.int? IntKind.i64)) fun (i6 : Int) => fw0.l4 n n ds (↑(List.length (Cod.encs dieC (Sp.ways (Die.mk i1 i2 i3 i4 i5 i6)))) : Int) (0 : Int) es fs (Cod.encs dieC (Sp.ways (Die.mk i1 i2 i3 i4 i5 i6))) else none
theorem fw0.run (n : Nat) (ds : List (List D)) (es : List (List D)) (fs : List (List D)) :
    (fun p : List V × List Ob => runB fw0.cfg n Try.f32 p.1 p.2) ([V.one false (D.sl (6 : Nat) ds), V.rw (0 : Nat), V.fnv (34 : FuncId) [] [V.rp (1 : Nat) (0 : Nat)]], [Ob.row false (6 : Nat) es, Ob.box [V.rw (2 : Nat)], Ob.row false (6 : Nat) fs]) = fw0.res n ds es fs := by kernel_rfl
theorem fw0.ev {n : Nat} {ds : List (List D)} {es : List (List D)} {fs : List (List D)} {r : List V} {o : List Ob} (h : fw0.res n ds es fs = some (r, o)) : SndB Try.prog C0 32 [.one false (.sl 6 ds), .rw 0, .fnv 34 [] [.rp 1 0]] [.row false 6 es, .box [.rw 2], .row false 6 fs] r o :=
  sndB_ev (C := fw0.cfg) cfg0 mix rfl rfl rfl rfl rfl (.cons impl_Die_ways.ok (.cons impl_fits.ok (.cons slices_Clone_Simpl_Die_impl_Die.ok .nil))) (.cons putT.ok .nil) Try.func32 (by kernel_rfl) (by kernel_rfl) rfl ((fw0.run n ds es fs).trans h)

def fw0.stub : StubB
  | [.one false (.sl 6 ds), .rw 0, .fnv 34 [] [.rp 1 0]], [.row false 6 es, .box [.rw 2], .row false 6 fs] => .any (dieC.decs ds) fun dice => .any (dieC.decs es) fun below => .gd (Sp.lvlI 0 dice below) (.ret ([.one true (.bool false)], [.row false 6 (dieC.encs below), .box [.rw 0], .row false 6 fs, .dead]))
  | _, _ => .fail
theorem fw0.ok : StubBOk Try.prog C0 32 fw0.stub := by
  intro args objs res objs' h
  unfold fw0.stub at h
  split at h
  · rename_i ds es fs
    obtain ⟨dice, h1, h0⟩ := any_out h
    obtain ⟨rfl, hl⟩ := Cod.decs_inv h1
    obtain ⟨below, h1', h0'⟩ := any_out h0
    obtain ⟨rfl, hl'⟩ := Cod.decs_inv h1'
    obtain ⟨h2, h3⟩ := gd_out h0'
    obtain ⟨hd, hd4⟩ := lvlI_out h2
    cases h3
    refine SndB.dead (objs' := [.row false 6 (dieC.encs below), .box [.rw 0], .row false 6 fs]) (fw0.ev (n := 0) ?_)
    have hne : (((below.length : Nat) : Int) == ((dice.length : Nat) : Int)) = true := by rw [ieq, decide_eq_true_eq]; omega
    unfold fw0.res
    simp only [Cod.encs_len, hne, cond_true]
  · cases h
/-! fw1 -/
noncomputable def fw1.cfg : Cfg := { C0 with keep := fun | 4 => some [0, 1, 2, 22, 23, 24] | _ => none, nb := 3, M := tabM [(41, impl_Die_ways.stub), (53, impl_fits.stub), (54, slices_Clone_Simpl_Die_impl_Die.stub)], MM := tabB [(34, putT.stub), (32, fw0.stub)] }
noncomputable def fw1.l4 (n : Nat) (m4 : Nat) (l0 : List (List D)) (i1 : Int) (i2 : Int) (l3 : List (List D)) (l4 : List (List D)) (l5 : List (List D)) : Option (List V × List Ob) :=
  loopAtB fw1.cfg n Try.f32 [1, 1, 0, 1, 0] [] m4 (St.mk [V.one false (D.sl (6 : Nat) l0), V.rw (0 : Nat), V.fnv (34 : Nat) [] [V.rp (1 : Nat) (0 : Nat)], V.undef, V.undef, V.undef, V.undef, V.undef, V.undef, V.undef, V.undef, V.undef, V.undef, V.undef, V.undef, V.undef, V.undef, V.undef, V.undef, V.undef, V.undef, V.undef, V.rw (3 : Nat), V.one true (D.int IntKind.i64 i1), V.one true (D.int IntKind.i64 i2), V.undef, V.undef, V.undef, V.undef, V.undef, V.undef, V.undef, V.undef, V.undef, V.undef, V.undef, V.undef, V.undef, V.undef, V.undef, V.undef, V.undef, V.undef, V.undef, V.undef] [Ob.row false (6 : Nat) l3, Ob.box [V.rw (2 : Nat)], Ob.row false (6 : Nat) l4, Ob.row false (6 : Nat) l5])
theorem fw1.l4_eq (n : Nat) (m4 : Nat) (l0 : List (List D)) (i1 : Int) (i2 : Int) (l3 : List (List D)) (l4 : List (List D)) (l5 : List (List D)) :
    fw1.l4 n (m4 + 1) l0 i1 i2 l3 l4 l5 = bif decide (i2 < i1) then bif decide ((0 : Int) ≤ i2) then bif decide (i2 < (↑(List.length l5) : Int)) then Option.bind (Option.bind (some (cellD l5 (Int.toNat i2) (0 : Nat))) (D.int? IntKind.i64)) fun (i7 : Int) => Option.bind (Option.bind (some (cellD l5 (Int.toNat i2) (1 : Nat))) (D.int? IntKind.i64)) fun (i8 : Int) => Option.bind (Option.bind (some (cellD l5 (Int.toNat i2) (2 : Nat))) (D.int? IntKind.i64)) fun (i9 : Int) => Option.bind (Option.bind (some (cellD l5 (Int.toNat i2) (3 : Nat))) (D.int? IntKind.i64)) fun (i10 : Int) => Option.bind (Option.bind (some (cellD l5 (Int.toNat i2) (4 : Nat))) (D.int? IntKind.i64)) fun (i11 : Int) => Option.bind (Option.bind (some (cellD l5 (Int.toNat i2) (5 : Nat))) (D.int? IntKind.i64)) fun (i12 : Int) => Option.bind (Cod.decs dieC l3) fun (l13 : List Die) => bif fit l13 (Die.mk i7 i8 i9 i10 i11 i12) (↑(List.length l0) : Int) then Option.bind (Cod.decs dieC l3) fun (l14 : List Die) => bif decide (List.length (Cod.encs dieC l14) + (1 : Nat) ≤ (17179869184 : Nat)) then Option.bind (Cod.decs dieC l0) fun (l15 : List Die) => Option.bind (Cod.decs dieC (Cod.encs dieC l14 ++ [[D.int IntKind.i64 i7, D.int IntKind.i64 i8, D.int IntKind.i64 i9, D.int IntKind.i64 i10, D.int IntKind.i64 i11, D.int IntKind.i64 i12]])) fun (l16 : List Die) => bif lvlI (0 : Nat) l15 l16 then some ([V.one true (D.bool false)], [Ob.row false (6 : Nat) l3, Ob.box [V.rw (3 : Nat)], Ob.row false (6 : Nat) l4, Ob.row false (6 : Nat) (Cod.encs dieC l16)]) else none else none else fw1.l4 n m4 l0 i1 (IntKind.wrap IntKind.i64 (i2 + (1 : Int))) l3 l4 l5 else none else none else some ([V.one true (D.bool true)], [Ob.row false (6 : Nat) l3, Ob.box [V.rw (2 : Nat)], Ob.row false (6 : Nat) l4]) := by kernel_rfl
noncomputable def fw1.res (n : Nat) (ds : List (List D)) (es : List (List D)) (fs : List (List D)) : Option (List V × List Ob) :=
  bif (↑(List.length es) : Int) == (↑(List.length ds) : Int) then some ([V.one true (D.bool false)], [Ob.row false (6 : Nat) es, Ob.box [V.rw (0 : Nat)], Ob.row false (6 : Nat) fs]) else bif decide ((↑(List.length es) : Int) < (↑(List.length ds) : Int)) then Option.bind (Option.bind (some (cellD ds (Int.toNat (↑(List.length es) : Int)) (0 : Nat))) (D.int? IntKind.i64)) fun (i1 : Int) => Option.bind (Option.bind (some (cellD ds (Int.toNat (↑(List.length es) : Int)) (1 : Nat))) (D.int? IntKind.i64)) fun (i2 : Int) => Option.bind (Option.bind (some (cellD ds (Int.toNat (↑(List.length es) : Int)) (2 : Nat))) (D.int? IntKind.i64)) fun (i3 : Int) => Option.bind (Option.bind (some (cellD ds (Int.toNat (↑(List.length es) : Int)) (3 : Nat))) (D.int? IntKind.i64)) fun (i4 : Int) => Option.bind (Option.bind (some (cellD ds (Int.toNat (↑(List.length es) : Int)) (4 : Nat))) (D.int? IntKind.i64)) fun (i5 : Int) => Option.bind (Option.bind (some (cellD ds (Int.toNat (↑(List.length es) : Int)) (5 : Nat))) (D.int? IntKind.i64)) fun (i6 : Int) => fw1.l4 n n ds (↑(List.length (Cod.encs dieC (Sp.ways (Die.mk i1 i2 i3 i4 i5 i6)))) : Int) (0 : Int) es fs (Cod.encs dieC (Sp.ways (Die.mk i1 i2 i3 i4 i5 i6))) else none
theorem fw1.run (n : Nat) (ds : List (List D)) (es : List (List D)) (fs : List (List D)) :
    (fun p : List V × List Ob => runB fw1.cfg n Try.f32 p.1 p.2) ([V.one false (D.sl (6 : Nat) ds), V.rw (0 : Nat), V.fnv (34 : FuncId) [] [V.rp (1 : Nat) (0 : Nat)]], [Ob.row false (6 : Nat) es, Ob.box [V.rw (2 : Nat)], Ob.row false (6 : Nat) fs]) = fw1.res n ds es fs := by kernel_rfl
theorem fw1.ev {n : Nat} {ds : List (List D)} {es : List (List D)} {fs : List (List D)} {r : List V} {o : List Ob} (h : fw1.res n ds es fs = some (r, o)) : SndB Try.prog C0 32 [.one false (.sl 6 ds), .rw 0, .fnv 34 [] [.rp 1 0]] [.row false 6 es, .box [.rw 2], .row false 6 fs] r o :=
  sndB_ev (C := fw1.cfg) cfg0 mix rfl rfl rfl rfl rfl (.cons impl_Die_ways.ok (.cons impl_fits.ok (.cons slices_Clone_Simpl_Die_impl_Die.ok .nil))) (.cons putT.ok (.cons fw0.ok .nil)) Try.func32 (by kernel_rfl) (by kernel_rfl) rfl ((fw1.run n ds es fs).trans h)

theorem fw1.l4_run {n : Nat} {dice below W : List Die} {fs : List (List D)} (hd : dice.length = below.length + 1) (hd4 : dice.length ≤ 4) (hW : W.length ≤ 24) : ∀ (d i m : Nat), i + d = W.length → d < m →
    fw1.l4 n m (dieC.encs dice) W.length i (dieC.encs below) fs (dieC.encs W) = bif hasL (towersOn dice 0 below (W.drop i)) then some ([V.one true (.bool false)], [Ob.row false 6 (dieC.encs below), Ob.box [.rw 3], Ob.row false 6 fs, Ob.row false 6 (dieC.encs (firstOf (towersOn dice 0 below (W.drop i))))]) else some ([V.one true (.bool true)], [Ob.row false 6 (dieC.encs below), Ob.box [.rw 2], Ob.row false 6 fs]) := by
  have hbl : below.length + 1 ≤ 17179869184 := by omega
  have hb0 : below.length ≤ LIM := by unfold LIM; omega
  have hdl : dice.length ≤ LIM := by unfold LIM; omega
  intro d
  induction d with
  | zero =>
    intro i m hi hm
    obtain ⟨m, rfl⟩ : ∃ m', m = m' + 1 := ⟨m - 1, by omega⟩
    obtain rfl : i = W.length := by omega
    have h1 : ¬ (W.length : Int) < W.length := by omega
    rw [fw1.l4_eq, List.drop_length]
    simp only [h1, decide_false, cond_false]
    rfl
  | succ d ih =>
    intro i m hi hm
    obtain ⟨m, rfl⟩ : ∃ m', m = m' + 1 := ⟨m - 1, by omega⟩
    have hlt : i < W.length := by omega
    have hbd : (below ++ [W[i]]).length ≤ LIM := by rw [List.length_append, List.length_singleton]; unfold LIM; omega
    rw [fw1.l4_eq, List.drop_eq_getElem_cons hlt, towersOn_cons]
    simp only [Cod.encs_len, Int.ofNat_lt, hlt, decide_true, cond_true, Int.natCast_nonneg, Int.toNat_natCast, dieC_t' hlt, dieC_n' hlt, dieC_e' hlt, dieC_s' hlt, dieC_w' hlt, dieC_b' hlt, Option.bind_some, Cod.decs_encs hb0, Cod.decs_encs hdl, Die.eta, hbl, dieC_snoc, Cod.decs_encs hbd, wrap_succ (show i ≤ LIM by unfold LIM; omega)]
    cases hf : fit below W[i] dice.length with
    | false =>
      simp only [cond_false, List.nil_append]
      exact ih (i + 1) m (by omega) (by omega)
    | true =>
      have hl : lvlI 0 dice (below ++ [W[i]]) = true := by
        unfold lvlI
        rw [decide_eq_true_eq, List.length_append, List.length_singleton]
        omega
      simp only [cond_true, hl]
      first | (exact hasL_step (F := fun r => some ([V.one true (.bool false)], [Ob.row false 6 (dieC.encs below), Ob.box [.rw 3], Ob.row false 6 fs, Ob.row false 6 (dieC.encs r)])) (ih (i + 1) m (by omega) (by omega))) | rfl
def fw1.stub : StubB
  | [.one false (.sl 6 ds), .rw 0, .fnv 34 [] [.rp 1 0]], [.row false 6 es, .box [.rw 2], .row false 6 fs] => .any (dieC.decs ds) fun dice => .any (dieC.decs es) fun below => .gd (Sp.lvlI 1 dice below) (.ite (Sp.hasT dice 1 below) (.ret ([.one true (.bool false)], [.row false 6 (dieC.encs below), .box [.rw 3], .row false 6 fs, .row false 6 (dieC.encs (Sp.firstT dice 1 below))])) (.ret ([.one true (.bool true)], [.row false 6 (dieC.encs below), .box [.rw 2], .row false 6 fs, .dead])))
  | _, _ => .fail
theorem fw1.ok : StubBOk Try.prog C0 32 fw1.stub := by
  intro args objs res objs' h
  unfold fw1.stub at h
  split at h
  · rename_i ds es fs
    obtain ⟨dice, h1, h0⟩ := any_out h
    obtain ⟨rfl, hl⟩ := Cod.decs_inv h1
    obtain ⟨below, h1', h0'⟩ := any_out h0
    obtain ⟨rfl, hl'⟩ := Cod.decs_inv h1'
    obtain ⟨h2, h3⟩ := gd_out h0'
    obtain ⟨hd, hd4⟩ := lvlI_out h2
    have hlt : below.length < dice.length := by omega
    have hlti : ((below.length : Nat) : Int) < dice.length := by omega
    have hne : (((below.length : Nat) : Int) == ((dice.length : Nat) : Int)) = false := by rw [ieq, decide_eq_false_iff_not]; omega
    have hW := ways_len dice[below.length]
    have key := fw1.l4_run (n := 100) (fs := fs) hd hd4 hW _ 0 100 (Nat.zero_add _) (by omega)
    have e : towersFrom dice 1 below = towersOn dice 0 below ((Sp.ways dice[below.length]).drop 0) := by
      rw [List.drop_zero, ← getD_of_lt (d := default) hlt]; exact towersFrom_succ dice 0 below
    have e1 : hasT dice 1 below = hasL (towersOn dice 0 below ((Sp.ways dice[below.length]).drop 0)) := by unfold hasT; rw [e]
    have e2 : firstT dice 1 below = firstOf (towersOn dice 0 below ((Sp.ways dice[below.length]).drop 0)) := by unfold firstT; rw [e]
    have er : fw1.res 100 (dieC.encs dice) (dieC.encs below) fs = fw1.l4 100 100 (dieC.encs dice) ((Sp.ways dice[below.length]).length : Nat) (0 : Nat) (dieC.encs below) fs (dieC.encs (Sp.ways dice[below.length])) := by
      unfold fw1.res
      simp only [Cod.encs_len, hne, cond_false, hlti, decide_true, cond_true, Int.toNat_natCast, dieC_t' hlt, dieC_n' hlt, dieC_e' hlt, dieC_s' hlt, dieC_w' hlt, dieC_b' hlt, Option.bind_some, Die.eta]
      rfl
    rw [← er] at key
    rcases ite_out h3 with ⟨hb, h4⟩ | ⟨hb, h4⟩
    · cases h4
      rw [e1] at hb
      rw [hb, cond_true] at key
      rw [e2]
      exact fw1.ev (n := 100) key
    · cases h4
      rw [e1] at hb
      rw [hb, cond_false] at key
      exact SndB.dead (objs' := [.row false 6 (dieC.encs below), .box [.rw 2], .row false 6 fs]) (fw1.ev (n := 100) key)
  · cases h
/-! fw2 -/
noncomputable def fw2.cfg : Cfg := { C0 with keep := fun | 4 => some [0, 1, 2, 22, 23, 24] | _ => none, nb := 3, M := tabM [(41, impl_Die_ways.stub), (53, impl_fits.stub), (54, slices_Clone_Simpl_Die_impl_Die.stub)], MM := tabB [(34, putT.stub), (32, fw1.stub)] }
noncomputable def fw2.l4 (n : Nat) (m4 : Nat) (l0 : List (List D)) (i1 : Int) (i2 : Int) (l3 : List (List D)) (l4 : List (List D)) (l5 : List (List D)) : Option (List V × List Ob) :=
  loopAtB fw2.cfg n Try.f32 [1, 1, 0, 1, 0] [] m4 (St.mk [V.one false (D.sl (6 : Nat) l0), V.rw (0 : Nat), V.fnv (34 : Nat) [] [V.rp (1 : Nat) (0 : Nat)], V.undef, V.undef, V.undef, V.undef, V.undef, V.undef, V.undef, V.undef, V.undef, V.undef, V.undef, V.undef, V.undef, V.undef, V.undef, V.undef, V.undef, V.undef, V.undef, V.rw (3 : Nat), V.one true (D.int IntKind.i64 i1), V.one true (D.int IntKind.i64 i2), V.undef, V.undef, V.undef, V.undef, V.undef, V.undef, V.undef, V.undef, V.undef, V.undef, V.undef, V.undef, V.undef, V.undef, V.undef, V.undef, V.undef, V.undef, V.undef, V.undef] [Ob.row false (6 : Nat) l3, Ob.box [V.rw (2 : Nat)], Ob.row false (6 : Nat) l4, Ob.row false (6 : Nat) l5])
theorem fw2.l4_eq (n : Nat) (m4 : Nat) (l0 : List (List D)) (i1 : Int) (i2 : Int) (l3 : List (List D)) (l4 : List (List D)) (l5 : List (List D)) :
    fw2.l4 n (m4 + 1) l0 i1 i2 l3 l4 l5 = bif decide (i2 < i1) then bif decide ((0 : Int) ≤ i2) then bif decide (i2 < (↑(List.length l5) : Int)) then Option.bind (Option.bind (some (cellD l5 (Int.toNat i2) (0 : Nat))) (D.int? IntKind.i64)) fun (i7 : Int) => Option.bind (Option.bind (some (cellD l5 (Int.toNat i2) (1 : Nat))) (D.int? IntKind.i64)) fun (i8 : Int) => Option.bind (Option.bind (some (cellD l5 (Int.toNat i2) (2 : Nat))) (D.int? IntKind.i64)) fun (i9 : Int) => Option.bind (Option.bind (some (cellD l5 (Int.toNat i2) (3 : Nat))) (D.int? IntKind.i64)) fun (i10 : Int) => Option.bind (Option.bind (some (cellD l5 (Int.toNat i2) (4 : Nat))) (D.int? IntKind.i64)) fun (i11 : Int) => Option.bind (Option.bind (some (cellD l5 (Int.toNat i2) (5 : Nat))) (D.int? IntKind.i64)) fun (i12 : Int) => Option.bind (Cod.decs dieC l3) fun (l13 : List Die) => bif fit l13 (Die.mk i7 i8 i9 i10 i11 i12) (↑(List.length l0) : Int) then Option.bind (Cod.decs dieC l3) fun (l14 : List Die) => bif decide (List.length (Cod.encs dieC l14) + (1 : Nat) ≤ (17179869184 : Nat)) then Option.bind (Cod.decs dieC l0) fun (l15 : List Die) => Option.bind (Cod.decs dieC (Cod.encs dieC l14 ++ [[D.int IntKind.i64 i7, D.int IntKind.i64 i8, D.int IntKind.i64 i9, D.int IntKind.i64 i10, D.int IntKind.i64 i11, D.int IntKind.i64 i12]])) fun (l16 : List Die) => bif lvlI (1 : Nat) l15 l16 then bif hasT l15 (1 : Nat) l16 then some ([V.one true (D.bool false)], [Ob.row false (6 : Nat) l3, Ob.box [V.rw (3 : Nat)], Ob.row false (6 : Nat) l4, Ob.row false (6 : Nat) (Cod.encs dieC (firstT l15 (1 : Nat) l16))]) else fw2.l4 n m4 l0 i1 (IntKind.wrap IntKind.i64 (i2 + (1 : Int))) l3 l4 l5 else none else none else fw2.l4 n m4 l0 i1 (IntKind.wrap IntKind.i64 (i2 + (1 : Int))) l3 l4 l5 else none else none else some ([V.one true (D.bool true)], [Ob.row false (6 : Nat) l3, Ob.box [V.rw (2 : Nat)], Ob.row false (6 : Nat) l4]) := by kernel_rfl
noncomputable def fw2.res (n : Nat) (ds : List (List D)) (es : List (List D)) (fs : List (List D)) : Option (List V × List Ob) :=
  bif (↑(List.length es) : Int) == (↑(List.length ds) : Int) then some ([V.one true (D.bool false)], [Ob.row false (6 : Nat) es, Ob.box [V.rw (0 : Nat)], Ob.row false (6 : Nat) fs]) else bif decide ((↑(List.length es) : Int) < (↑(List.length ds) : Int)) then Option.bind (Option.bind (some (cellD ds (Int.toNat (↑(List.length es) : Int)) (0 : Nat))) (D.int? IntKind.i64)) fun (i1 : Int) => Option.bind (Option.bind (some (cellD ds (Int.toNat (↑(List.length es) : Int)) (1 : Nat))) (D.int? IntKind.i64)) fun (i2 : Int) => Option.bind (Option.bind (some (cellD ds (Int.toNat (↑(List.length es) : Int)) (2 : Nat))) (D.int? IntKind.i64)) fun (i3 : Int) => Option.bind (Option.bind (some (cellD ds (Int.toNat (↑(List.length es) : Int)) (3 : Nat))) (D.int? IntKind.i64)) fun (i4 : Int) => Option.bind (Option.bind (some (cellD ds (Int.toNat (↑(List.length es) : Int)) (4 : Nat))) (D.int? IntKind.i64)) fun (i5 : Int) => Option.bind (Option.bind (some (cellD ds (Int.toNat (↑(List.length es) : Int)) (5 : Nat))) (D.int? IntKind.i64)) fun (i6 : Int) => fw2.l4 n n ds (↑(List.length (Cod.encs dieC (Sp.ways (Die.mk i1 i2 i3 i4 i5 i6)))) : Int) (0 : Int) es fs (Cod.encs dieC (Sp.ways (Die.mk i1 i2 i3 i4 i5 i6))) else none
theorem fw2.run (n : Nat) (ds : List (List D)) (es : List (List D)) (fs : List (List D)) :
    (fun p : List V × List Ob => runB fw2.cfg n Try.f32 p.1 p.2) ([V.one false (D.sl (6 : Nat) ds), V.rw (0 : Nat), V.fnv (34 : FuncId) [] [V.rp (1 : Nat) (0 : Nat)]], [Ob.row false (6 : Nat) es, Ob.box [V.rw (2 : Nat)], Ob.row false (6 : Nat) fs]) = fw2.res n ds es fs := by kernel_rfl
theorem fw2.ev {n : Nat} {ds : List (List D)} {es : List (List D)} {fs : List (List D)} {r : List V} {o : List Ob} (h : fw2.res n ds es fs = some (r, o)) : SndB Try.prog C0 32 [.one false (.sl 6 ds), .rw 0, .fnv 34 [] [.rp 1 0]] [.row false 6 es, .box [.rw 2], .row false 6 fs] r o :=
  sndB_ev (C := fw2.cfg) cfg0 mix rfl rfl rfl rfl rfl (.cons impl_Die_ways.ok (.cons impl_fits.ok (.cons slices_Clone_Simpl_Die_impl_Die.ok .nil))) (.cons putT.ok (.cons fw1.ok .nil)) Try.func32 (by kernel_rfl) (by kernel_rfl) rfl ((fw2.run n ds es fs).trans h)

theorem fw2.l4_run {n : Nat} {dice below W : List Die} {fs : List (List D)} (hd : dice.length = below.length + 2) (hd4 : dice.length ≤ 4) (hW : W.length ≤ 24) : ∀ (d i m : Nat), i + d = W.length → d < m →
    fw2.l4 n m (dieC.encs dice) W.length i (dieC.encs below) fs (dieC.encs W) = bif hasL (towersOn dice 1 below (W.drop i)) then some ([V.one true (.bool false)], [Ob.row false 6 (dieC.encs below), Ob.box [.rw 3], Ob.row false 6 fs, Ob.row false 6 (dieC.encs (firstOf (towersOn dice 1 below (W.drop i))))]) else some ([V.one true (.bool true)], [Ob.row false 6 (dieC.encs below), Ob.box [.rw 2], Ob.row false 6 fs]) := by
  have hbl : below.length + 1 ≤ 17179869184 := by omega
  have hb0 : below.length ≤ LIM := by unfold LIM; omega
  have hdl : dice.length ≤ LIM := by unfold LIM; omega
  intro d
  induction d with
  | zero =>
    intro i m hi hm
    obtain ⟨m, rfl⟩ : ∃ m', m = m' + 1 := ⟨m - 1, by omega⟩
    obtain rfl : i = W.length := by omega
    have h1 : ¬ (W.length : Int) < W.length := by omega
    rw [fw2.l4_eq, List.drop_length]
    simp only [h1, decide_false, cond_false]
    rfl
  | succ d ih =>
    intro i m hi hm
    obtain ⟨m, rfl⟩ : ∃ m', m = m' + 1 := ⟨m - 1, by omega⟩
    have hlt : i < W.length := by omega
    have hbd : (below ++ [W[i]]).length ≤ LIM := by rw [List.length_append, List.length_singleton]; unfold LIM; omega
    rw [fw2.l4_eq, List.drop_eq_getElem_cons hlt, towersOn_cons]
    simp only [Cod.encs_len, Int.ofNat_lt, hlt, decide_true, cond_true, Int.natCast_nonneg, Int.toNat_natCast, dieC_t' hlt, dieC_n' hlt, dieC_e' hlt, dieC_s' hlt, dieC_w' hlt, dieC_b' hlt, Option.bind_some, Cod.decs_encs hb0, Cod.decs_encs hdl, Die.eta, hbl, dieC_snoc, Cod.decs_encs hbd, wrap_succ (show i ≤ LIM by unfold LIM; omega)]
    cases hf : fit below W[i] dice.length with
    | false =>
      simp only [cond_false, List.nil_append]
      exact ih (i + 1) m (by omega) (by omega)
    | true =>
      have hl : lvlI 1 dice (below ++ [W[i]]) = true := by
        unfold lvlI
        rw [decide_eq_true_eq, List.length_append, List.length_singleton]
        omega
      simp only [cond_true, hl]
      first | (exact hasL_step (F := fun r => some ([V.one true (.bool false)], [Ob.row false 6 (dieC.encs below), Ob.box [.rw 3], Ob.row false 6 fs, Ob.row false 6 (dieC.encs r)])) (ih (i + 1) m (by omega) (by omega))) | rfl
def fw2.stub : StubB
  | [.one false (.sl 6 ds), .rw 0, .fnv 34 [] [.rp 1 0]], [.row false 6 es, .box [.rw 2], .row false 6 fs] => .any (dieC.decs ds) fun dice => .any (dieC.decs es) fun below => .gd (Sp.lvlI 2 dice below) (.ite (Sp.hasT dice 2 below) (.ret ([.one true (.bool false)], [.row false 6 (dieC.encs below), .box [.rw 3], .row false 6 fs, .row false 6 (dieC.encs (Sp.firstT dice 2 below))])) (.ret ([.one true (.bool true)], [.row false 6 (dieC.encs below), .box [.rw 2], .row false 6 fs, .dead])))
  | _, _ => .fail
theorem fw2.ok : StubBOk Try.prog C0 32 fw2.stub := by
  intro args objs res objs' h
  unfold fw2.stub at h
  split at h
  · rename_i ds es fs
    obtain ⟨dice, h1, h0⟩ := any_out h
    obtain ⟨rfl, hl⟩ := Cod.decs_inv h1
    obtain ⟨below, h1', h0'⟩ := any_out h0
    obtain ⟨rfl, hl'⟩ := Cod.decs_inv h1'
    obtain ⟨h2, h3⟩ := gd_out h0'
    obtain ⟨hd, hd4⟩ := lvlI_out h2
    have hlt : below.length < dice.length := by omega
    have hlti : ((below.length : Nat) : Int) < dice.length := by omega
    have hne : (((below.length : Nat) : Int) == ((dice.length : Nat) : Int)) = false := by rw [ieq, decide_eq_false_iff_not]; omega
    have hW := ways_len dice[below.length]
    have key := fw2.l4_run (n := 100) (fs := fs) hd hd4 hW _ 0 100 (Nat.zero_add _) (by omega)
    have e : towersFrom dice 2 below = towersOn dice 1 below ((Sp.ways dice[below.length]).drop 0) := by
      rw [List.drop_zero, ← getD_of_lt (d := default) hlt]; exact towersFrom_succ dice 1 below
    have e1 : hasT dice 2 below = hasL (towersOn dice 1 below ((Sp.ways dice[below.length]).drop 0)) := by unfold hasT; rw [e]
    have e2 : firstT dice 2 below = firstOf (towersOn dice 1 below ((Sp.ways dice[below.length]).drop 0)) := by unfold firstT; rw [e]
    have er : fw2.res 100 (dieC.encs dice) (dieC.encs below) fs = fw2.l4 100 100 (dieC.encs dice) ((Sp.ways dice[below.length]).length : Nat) (0 : Nat) (dieC.encs below) fs (dieC.encs (Sp.ways dice[below.length])) := by
      unfold fw2.res
      simp only [Cod.encs_len, hne, cond_false, hlti, decide_true, cond_true, Int.toNat_natCast, dieC_t' hlt, dieC_n' hlt, dieC_e' hlt, dieC_s' hlt, dieC_w' hlt, dieC_b' hlt, Option.bind_some, Die.eta]
      rfl
    rw [← er] at key
    rcases ite_out h3 with ⟨hb, h4⟩ | ⟨hb, h4⟩
    · cases h4
      rw [e1] at hb
      rw [hb, cond_true] at key
      rw [e2]
      exact fw2.ev (n := 100) key
    · cases h4
      rw [e1] at hb
      rw [hb, cond_false] at key
      exact SndB.dead (objs' := [.row false 6 (dieC.encs below), .box [.rw 2], .row false 6 fs]) (fw2.ev (n := 100) key)
  · cases h
/-! fw3 -/
noncomputable def fw3.cfg : Cfg := { C0 with keep := fun | 4 => some [0, 1, 2, 22, 23, 24] | _ => none, nb := 3, M := tabM [(41, impl_Die_ways.stub), (53, impl_fits.stub), (54, slices_Clone_Simpl_Die_impl_Die.stub)], MM := tabB [(34, putT.stub), (32, fw2.stub)] }
noncomputable def fw3.l4 (n : Nat) (m4 : Nat) (l0 : List (List D)) (i1 : Int) (i2 : Int) (l3 : List (List D)) (l4 : List (List D)) (l5 : List (List D)) : Option (List V × List Ob) :=
  loopAtB fw3.cfg n Try.f32 [1, 1, 0, 1, 0] [] m4 (St.mk [V.one false (D.sl (6 : Nat) l0), V.rw (0 : Nat), V.fnv (34 : Nat) [] [V.rp (1 : Nat) (0 : Nat)], V.undef, V.undef, V.undef, V.undef, V.undef, V.undef, V.undef, V.undef, V.undef, V.undef, V.undef, V.undef, V.undef, V.undef, V.undef, V.undef, V.undef, V.undef, V.undef, V.rw (3 : Nat), V.one true (D.int IntKind.i64 i1), V.one true (D.int IntKind.i64 i2), V.undef, V.undef, V.undef, V.undef, V.undef, V.undef, V.undef, V.undef, V.undef, V.undef, V.undef, V.undef, V.undef, V.undef, V.undef, V.undef, V.undef, V.undef, V.undef, V.undef] [Ob.row false (6 : Nat) l3, Ob.box [V.rw (2 : Nat)], Ob.row false (6 : Nat) l4, Ob.row false (6 : Nat) l5])
theorem fw3.l4_eq (n : Nat) (m4 : Nat) (l0 : List (List D)) (i1 : Int) (i2 : Int) (l3 : List (List D)) (l4 : List (List D)) (l5 : List (List D)) :
    fw3.l4 n (m4 + 1) l0 i1 i2 l3 l4 l5 = bif decide (i2 < i1) then bif decide ((0 : Int) ≤ i2) then bif decide (i2 < (↑(List.length l5) : Int)) then Option.bind (Option.bind (some (cellD l5 (Int.toNat i2) (0 : Nat))) (D.int? IntKind.i64)) fun (i7 : Int) => Option.bind (Option.bind (some (cellD l5 (Int.toNat i2) (1 : Nat))) (D.int? IntKind.i64)) fun (i8 : Int) => Option.bind (Option.bind (some (cellD l5 (Int.toNat i2) (2 : Nat))) (D.int? IntKind.i64)) fun (i9 : Int) => Option.bind (Option.bind (some (cellD l5 (Int.toNat i2) (3 : Nat))) (D.int? IntKind.i64)) fun (i10 : Int) => Option.bind (Option.bind (some (cellD l5 (Int.toNat i2) (4 : Nat))) (D.int? IntKind.i64)) fun (i11 : Int) => Option.bind (Option.bind (some (cellD l5 (Int.toNat i2) (5 : Nat))) (D.int? IntKind.i64)) fun (i12 : Int) => Option.bind (Cod.decs dieC l3) fun (l13 : List Die) => bif fit l13 (Die.mk i7 i8 i9 i10 i11 i12) (↑(List.length l0) : Int) then Option.bind (Cod.decs dieC l3) fun (l14 : List Die) => bif decide (List.length (Cod.encs dieC l14) + (1 : Nat) ≤ (17179869184 : Nat)) then Option.bind (Cod.decs dieC l0) fun (l15 : List Die) => Option.bind (Cod.decs dieC (Cod.encs dieC l14 ++ [[D.int IntKind.i64 i7, D.int IntKind.i64 i8, D.int IntKind.i64 i9, D.int IntKind.i64 i10, D.int IntKind.i64 i11, D.int IntKind.i64 i12]])) fun (l16 : List Die) => bif lvlI (2 : Nat) l15 l16 then bif hasT l15 (2 : Nat) l16 then some ([V.one true (D.bool false)], [Ob.row false (6 : Nat) l3, Ob.box [V.rw (3 : Nat)], Ob.row false (6 : Nat) l4, Ob.row false (6 : Nat) (Cod.encs dieC (firstT l15 (2 : Nat) l16))]) else fw3.l4 n m4 l0 i1 (IntKind.wrap IntKind.i64 (i2 + (1 : Int))) l3 l4 l5 else none else none else fw3.l4 n m4 l0 i1 (IntKind.wrap IntKind.i64 (i2 + (1 : Int))) l3 l4 l5 else none else none else some ([V.one true (D.bool true)], [Ob.row false (6 : Nat) l3, Ob.box [V.rw (2 : Nat)], Ob.row false (6 : Nat) l4]) := by kernel_rfl
noncomputable def fw3.res (n : Nat) (ds : List (List D)) (es : List (List D)) (fs : List (List D)) : Option (List V × List Ob) :=
  bif (↑(List.length es) : Int) == (↑(List.length ds) : Int) then some ([V.one true (D.bool false)], [Ob.row false (6 : Nat) es, Ob.box [V.rw (0 : Nat)], Ob.row false (6 : Nat) fs]) else bif decide ((↑(List.length es) : Int) < (↑(List.length ds) : Int)) then Option.bind (Option.bind (some (cellD ds (Int.toNat (↑(List.length es) : Int)) (0 : Nat))) (D.int? IntKind.i64)) fun (i1 : Int) => Option.bind (Option.bind (some (cellD ds (Int.toNat (↑(List.length es) : Int)) (1 : Nat))) (D.int? IntKind.i64)) fun (i2 : Int) => Option.bind (Option.bind (some (cellD ds (Int.toNat (↑(List.length es) : Int)) (2 : Nat))) (D.int? IntKind.i64)) fun (i3 : Int) => Option.bind (Option.bind (some (cellD ds (Int.toNat (↑(List.length es) : Int)) (3 : Nat))) (D.int? IntKind.i64)) fun (i4 : Int) => Option.bind (Option.bind (some (cellD ds (Int.toNat (↑(List.length es) : Int)) (4 : Nat))) (D.int? IntKind.i64)) fun (i5 : Int) => Option.bind (Option.bind (some (cellD ds (Int.toNat (↑(List.length es) : Int)) (5 : Nat))) (D.int? IntKind.i64)) fun (i6 : Int) => fw3.l4 n n ds (↑(List.length (Cod.encs dieC (Sp.ways (Die.mk i1 i2 i3 i4 i5 i6)))) : Int) (0 : Int) es fs (Cod.encs dieC (Sp.ways (Die.mk i1 i2 i3 i4 i5 i6))) else none
theorem fw3.run (n : Nat) (ds : List (List D)) (es : List (List D)) (fs : List (List D)) :
    (fun p : List V × List Ob => runB fw3.cfg n Try.f32 p.1 p.2) ([V.one false (D.sl (6 : Nat) ds), V.rw (0 : Nat), V.fnv (34 : FuncId) [] [V.rp (1 : Nat) (0 : Nat)]], [Ob.row false (6 : Nat) es, Ob.box [V.rw (2 : Nat)], Ob.row false (6 : Nat) fs]) = fw3.res n ds es fs := by kernel_rfl
theorem fw3.ev {n : Nat} {ds : List (List D)} {es : List (List D)} {fs : List (List D)} {r : List V} {o : List Ob} (h : fw3.res n ds es fs = some (r, o)) : SndB Try.prog C0 32 [.one false (.sl 6 ds), .rw 0, .fnv 34 [] [.rp 1 0]] [.row false 6 es, .box [.rw 2], .row false 6 fs] r o :=
  sndB_ev (C := fw3.cfg) cfg0 mix rfl rfl rfl rfl rfl (.cons impl_Die_ways.ok (.cons impl_fits.ok (.cons slices_Clone_Simpl_Die_impl_Die.ok .nil))) (.cons putT.ok (.cons fw2.ok .nil)) Try.func32 (by kernel_rfl) (by kernel_rfl) rfl ((fw3.run n ds es fs).trans h)

theorem fw3.l4_run {n : Nat} {dice below W : List Die} {fs : List (List D)} (hd : dice.length = below.length + 3) (hd4 : dice.length ≤ 4) (hW : W.length ≤ 24) : ∀ (d i m : Nat), i + d = W.length → d < m →
    fw3.l4 n m (dieC.encs dice) W.length i (dieC.encs below) fs (dieC.encs W) = bif hasL (towersOn dice 2 below (W.drop i)) then some ([V.one true (.bool false)], [Ob.row false 6 (dieC.encs below), Ob.box [.rw 3], Ob.row false 6 fs, Ob.row false 6 (dieC.encs (firstOf (towersOn dice 2 below (W.drop i))))]) else some ([V.one true (.bool true)], [Ob.row false 6 (dieC.encs below), Ob.box [.rw 2], Ob.row false 6 fs]) := by
  have hbl : below.length + 1 ≤ 17179869184 := by omega
  have hb0 : below.length ≤ LIM := by unfold LIM; omega
  have hdl : dice.length ≤ LIM := by unfold LIM; omega
  intro d
  induction d with
  | zero =>
    intro i m hi hm
    obtain ⟨m, rfl⟩ : ∃ m', m = m' + 1 := ⟨m - 1, by omega⟩
    obtain rfl : i = W.length := by omega
    have h1 : ¬ (W.length : Int) < W.length := by omega
    rw [fw3.l4_eq, List.drop_length]
    simp only [h1, decide_false, cond_false]
    rfl
  | succ d ih =>
    intro i m hi hm
    obtain ⟨m, rfl⟩ : ∃ m', m = m' + 1 := ⟨m - 1, by omega⟩
    have hlt : i < W.length := by omega
    have hbd : (below ++ [W[i]]).length ≤ LIM := by rw [List.length_append, List.length_singleton]; unfold LIM; omega
    rw [fw3.l4_eq, List.drop_eq_getElem_cons hlt, towersOn_cons]
    simp only [Cod.encs_len, Int.ofNat_lt, hlt, decide_true, cond_true, Int.natCast_nonneg, Int.toNat_natCast, dieC_t' hlt, dieC_n' hlt, dieC_e' hlt, dieC_s' hlt, dieC_w' hlt, dieC_b' hlt, Option.bind_some, Cod.decs_encs hb0, Cod.decs_encs hdl, Die.eta, hbl, dieC_snoc, Cod.decs_encs hbd, wrap_succ (show i ≤ LIM by unfold LIM; omega)]
    cases hf : fit below W[i] dice.length with
    | false =>
      simp only [cond_false, List.nil_append]
      exact ih (i + 1) m (by omega) (by omega)
    | true =>
      have hl : lvlI 2 dice (below ++ [W[i]]) = true := by
        unfold lvlI
        rw [decide_eq_true_eq, List.length_append, List.length_singleton]
        omega
      simp only [cond_true, hl]
      first | (exact hasL_step (F := fun r => some ([V.one true (.bool false)], [Ob.row false 6 (dieC.encs below), Ob.box [.rw 3], Ob.row false 6 fs, Ob.row false 6 (dieC.encs r)])) (ih (i + 1) m (by omega) (by omega))) | rfl
def fw3.stub : StubB
  | [.one false (.sl 6 ds), .rw 0, .fnv 34 [] [.rp 1 0]], [.row false 6 es, .box [.rw 2], .row false 6 fs] => .any (dieC.decs ds) fun dice => .any (dieC.decs es) fun below => .gd (Sp.lvlI 3 dice below) (.ite (Sp.hasT dice 3 below) (.ret ([.one true (.bool false)], [.row false 6 (dieC.encs below), .box [.rw 3], .row false 6 fs, .row false 6 (dieC.encs (Sp.firstT dice 3 below))])) (.ret ([.one true (.bool true)], [.row false 6 (dieC.encs below), .box [.rw 2], .row false 6 fs, .dead])))
  | _, _ => .fail
theorem fw3.ok : StubBOk Try.prog C0 32 fw3.stub := by
  intro args objs res objs' h
  unfold fw3.stub at h
  split at h
  · rename_i ds es fs
    obtain ⟨dice, h1, h0⟩ := any_out h
    obtain ⟨rfl, hl⟩ := Cod.decs_inv h1
    obtain ⟨below, h1', h0'⟩ := any_out h0
    obtain ⟨rfl, hl'⟩ := Cod.decs_inv h1'
    obtain ⟨h2, h3⟩ := gd_out h0'
    obtain ⟨hd, hd4⟩ := lvlI_out h2
    have hlt : below.length < dice.length := by omega
    have hlti : ((below.length : Nat) : Int) < dice.length := by omega
    have hne : (((below.length : Nat) : Int) == ((dice.length : Nat) : Int)) = false := by rw [ieq, decide_eq_false_iff_not]; omega
    have hW := ways_len dice[below.length]
    have key := fw3.l4_run (n := 100) (fs := fs) hd hd4 hW _ 0 100 (Nat.zero_add _) (by omega)
    have e : towersFrom dice 3 below = towersOn dice 2 below ((Sp.ways dice[below.length]).drop 0) := by
      rw [List.drop_zero, ← getD_of_lt (d := default) hlt]; exact towersFrom_succ dice 2 below
    have e1 : hasT dice 3 below = hasL (towersOn dice 2 below ((Sp.ways dice[below.length]).drop 0)) := by unfold hasT; rw [e]
    have e2 : firstT dice 3 below = firstOf (towersOn dice 2 below ((Sp.ways dice[below.length]).drop 0)) := by unfold firstT; rw [e]
    have er : fw3.res 100 (dieC.encs dice) (dieC.encs below) fs = fw3.l4 100 100 (dieC.encs dice) ((Sp.ways dice[below.length]).length : Nat) (0 : Nat) (dieC.encs below) fs (dieC.encs (Sp.ways dice[below.length])) := by
      unfold fw3.res
      simp only [Cod.encs_len, hne, cond_false, hlti, decide_true, cond_true, Int.toNat_natCast, dieC_t' hlt, dieC_n' hlt, dieC_e' hlt, dieC_s' hlt, dieC_w' hlt, dieC_b' hlt, Option.bind_some, Die.eta]
      rfl
    rw [← er] at key
    rcases ite_out h3 with ⟨hb, h4⟩ | ⟨hb, h4⟩
    · cases h4
      rw [e1] at hb
      rw [hb, cond_true] at key
      rw [e2]
      exact fw3.ev (n := 100) key
    · cases h4
      rw [e1] at hb
      rw [hb, cond_false] at key
      exact SndB.dead (objs' := [.row false 6 (dieC.encs below), .box [.rw 2], .row false 6 fs]) (fw3.ev (n := 100) key)
  · cases h
end Go.Proofs.EV.PL
set_option linter.unusedVariables false
set_option linter.unusedSimpArgs false
/-! The first tower, from the ground. -/
namespace Go.Proofs.EV.PL
open Go Go.Proofs Go.Proofs.EV Sp
def fwA.stub : StubB
  | [.one false (.sl 6 ds), .rw 0, .fnv 34 [] [.rp 1 0]], [.row false 6 es, .box [.rw 2], .row false 6 fs] => .any (dieC.decs ds) fun dice => .any (dieC.decs es) fun below => .gd (Sp.lvlB dice below) (.ite (Sp.hasA dice below) (.ret ([.one true (.bool false)], [.row false 6 (dieC.encs below), .box [.rw 3], .row false 6 fs, .row false 6 (dieC.encs (Sp.firstA dice below))])) (.ret ([.one true (.bool true)], [.row false 6 (dieC.encs below), .box [.rw 2], .row false 6 fs, .dead])))
  | _, _ => .fail
theorem fwA.ok : StubBOk Try.prog C0 32 fwA.stub := by
  intro args objs res objs' h
  unfold fwA.stub at h
  split at h
  · rename_i ds es fs
    obtain ⟨dice, h1, h0⟩ := any_out h
    obtain ⟨rfl, hl⟩ := Cod.decs_inv h1
    obtain ⟨below, h1', h0'⟩ := any_out h0
    obtain ⟨rfl, hl'⟩ := Cod.decs_inv h1'
    obtain ⟨h2, h3⟩ := gd_out h0'
    have h2 := of_decide_eq_true h2
    have hd := Cod.decs_encs (c := dieC) hl
    have hb := Cod.decs_encs (c := dieC) hl'
    have hlv : ∀ q, dice.length - below.length = q → lvlI q dice below = true := by
      intro q hq
      unfold lvlI
      rw [decide_eq_true_eq]
      omega
    unfold hasA firstA at h3
    simp only [HM.out] at h3
    rcases (show dice.length - below.length = 1 ∨ dice.length - below.length = 2 ∨ dice.length - below.length = 3 by omega) with e | e | e
    · rw [e] at h3; refine fw1.ok _ _ _ _ ?_; simp only [fw1.stub, HM.out, hd, hb, Option.bind_some]; rw [hlv 1 e, cond_true]; exact h3
    · rw [e] at h3; refine fw2.ok _ _ _ _ ?_; simp only [fw2.stub, HM.out, hd, hb, Option.bind_some]; rw [hlv 2 e, cond_true]; exact h3
    · rw [e] at h3; refine fw3.ok _ _ _ _ ?_; simp only [fw3.stub, HM.out, hd, hb, Option.bind_some]; rw [hlv 3 e, cond_true]; exact h3
  · cases h
/-! fn0 -/
noncomputable def fn0.cfg : Cfg := { C0 with keep := fun | 4 => some [0, 1, 2, 22, 23, 24] | _ => none, nb := 2, M := tabM [(41, impl_Die_ways.stub), (53, impl_fits.stub), (54, slices_Clone_Simpl_Die_impl_Die.stub)], MM := tabB [(34, putT.stub), (32, fw0.stub)] }
noncomputable def fn0.l4 (n : Nat) (m4 : Nat) (l0 : List (List D)) (i1 : Int) (i2 : Int) (l3 : List (List D)) (l4 : List (List D)) : Option (List V × List Ob) :=
  loopAtB fn0.cfg n Try.f32 [1, 1, 0, 1, 0] [] m4 (St.mk [V.one false (D.sl (6 : Nat) l0), V.nils (0 : Nat), V.fnv (34 : Nat) [] [V.rp (0 : Nat) (0 : Nat)], V.undef, V.undef, V.undef, V.undef, V.undef, V.undef, V.undef, V.undef, V.undef, V.undef, V.undef, V.undef, V.undef, V.undef, V.undef, V.undef, V.undef, V.undef, V.undef, V.rw (2 : Nat), V.one true (D.int IntKind.i64 i1), V.one true (D.int IntKind.i64 i2), V.undef, V.undef, V.undef, V.undef, V.undef, V.undef, V.undef, V.undef, V.undef, V.undef, V.undef, V.undef, V.undef, V.undef, V.undef, V.undef, V.undef, V.undef, V.undef, V.undef] [Ob.box [V.rw (1 : Nat)], Ob.row false (6 : Nat) l3, Ob.row false (6 : Nat) l4])
theorem fn0.l4_eq (n : Nat) (m4 : Nat) (l0 : List (List D)) (i1 : Int) (i2 : Int) (l3 : List (List D)) (l4 : List (List D)) :
    fn0.l4 n (m4 + 1) l0 i1 i2 l3 l4 = bif decide (i2 < i1) then bif decide ((0 : Int) ≤ i2) then bif decide (i2 < (↑(List.length l4) : Int)) then Option.bind (Option.bind (some (cellD l4 (Int.toNat i2) (0 : Nat))) (D.int? IntKind.i64)) fun (i7 : Int) => Option.bind (Option.bind (some (cellD l4 (Int.toNat i2) (1 : Nat))) (D.int? IntKind.i64)) fun (i8 : Int) => Option.bind (Option.bind (some (cellD l4 (Int.toNat i2) (2 : Nat))) (D.int? IntKind.i64)) fun (i9 : Int) => Option.bind (Option.bind (some (cellD l4 (Int.toNat i2) (3 : Nat))) (D.int? IntKind.i64)) fun (i10 : Int) => Option.bind (Option.bind (some (cellD l4 (Int.toNat i2) (4 : Nat))) (D.int? IntKind.i64)) fun (i11 : Int) => Option.bind (Option.bind (some (cellD l4 (Int.toNat i2) (5 : Nat))) (D.int? IntKind.i64)) fun (i12 : Int) => bif fit [] (Die.mk i7 i8 i9 i10 i11 i12) (↑(List.length l0) : Int) then Option.bind (Cod.decs dieC l0) fun (l13 : List Die) => bif lvlI (0 : Nat) l13 [Die.mk i7 i8 i9 i10 i11 i12] then some ([V.one true (D.bool false)], [Ob.box [V.rw (2 : Nat)], Ob.row false (6 : Nat) l3, Ob.row false (6 : Nat) (Cod.encs dieC [Die.mk i7 i8 i9 i10 i11 i12])]) else none else fn0.l4 n m4 l0 i1 (IntKind.wrap IntKind.i64 (i2 + (1 : Int))) l3 l4 else none else none else some ([V.one true (D.bool true)], [Ob.box [V.rw (1 : Nat)], Ob.row false (6 : Nat) l3]) := by kernel_rfl
noncomputable def fn0.res (n : Nat) (ds : List (List D)) (fs : List (List D)) : Option (List V × List Ob) :=
  bif (0 : Int) == (↑(List.length ds) : Int) then none else bif decide ((0 : Int) < (↑(List.length ds) : Int)) then Option.bind (Option.bind (some (cellD ds (Int.toNat (0 : Int)) (0 : Nat))) (D.int? IntKind.i64)) fun (i1 : Int) => Option.bind (Option.bind (some (cellD ds (Int.toNat (0 : Int)) (1 : Nat))) (D.int? IntKind.i64)) fun (i2 : Int) => Option.bind (Option.bind (some (cellD ds (Int.toNat (0 : Int)) (2 : Nat))) (D.int? IntKind.i64)) fun (i3 : Int) => Option.bind (Option.bind (some (cellD ds (Int.toNat (0 : Int)) (3 : Nat))) (D.int? IntKind.i64)) fun (i4 : Int) => Option.bind (Option.bind (some (cellD ds (Int.toNat (0 : Int)) (4 : Nat))) (D.int? IntKind.i64)) fun (i5 : Int) => Option.bind (Option.bind (some (cellD ds (Int.toNat (0 : Int)) (5 : Nat))) (D.int? IntKind.i64)) fun (i6 : Int) => fn0.l4 n n ds (↑(List.length (Cod.encs dieC (Sp.ways (Die.mk i1 i2 i3 i4 i5 i6)))) : Int) (0 : Int) fs (Cod.encs dieC (Sp.ways (Die.mk i1 i2 i3 i4 i5 i6))) else none
theorem fn0.run (n : Nat) (ds : List (List D)) (fs : List (List D)) :
    (fun p : List V × List Ob => runB fn0.cfg n Try.f32 p.1 p.2) ([V.one false (D.sl (6 : Nat) ds), V.nils (0 : Nat), V.fnv (34 : FuncId) [] [V.rp (0 : Nat) (0 : Nat)]], [Ob.box [V.rw (1 : Nat)], Ob.row false (6 : Nat) fs]) = fn0.res n ds fs := by kernel_rfl
theorem fn0.ev {n : Nat} {ds : List (List D)} {fs : List (List D)} {r : List V} {o : List Ob} (h : fn0.res n ds fs = some (r, o)) : SndB Try.prog C0 32 [.one false (.sl 6 ds), .nils 0, .fnv 34 [] [.rp 0 0]] [.box [.rw 1], .row false 6 fs] r o :=
  sndB_ev (C := fn0.cfg) cfg0 mix rfl rfl rfl rfl rfl (.cons impl_Die_ways.ok (.cons impl_fits.ok (.cons slices_Clone_Simpl_Die_impl_Die.ok .nil))) (.cons putT.ok (.cons fw0.ok .nil)) Try.func32 (by kernel_rfl) (by kernel_rfl) rfl ((fn0.run n ds fs).trans h)

theorem fn0.l4_run {n q : Nat} {dice W : List Die} {fs : List (List D)} (hd : dice.length = q + 1) (hd4 : dice.length ≤ 4) (hq : q = 0) (hW : W.length ≤ 24) : ∀ (d i m : Nat), i + d = W.length → d < m →
    fn0.l4 n m (dieC.encs dice) W.length i fs (dieC.encs W) = bif hasL (towersOn dice q [] (W.drop i)) then some ([V.one true (.bool false)], [Ob.box [.rw 2], Ob.row false 6 fs, Ob.row false 6 (dieC.encs (firstOf (towersOn dice q [] (W.drop i))))]) else some ([V.one true (.bool true)], [Ob.box [.rw 1], Ob.row false 6 fs]) := by
  have hdl : dice.length ≤ LIM := by unfold LIM; omega
  intro d
  induction d with
  | zero =>
    intro i m hi hm
    obtain ⟨m, rfl⟩ : ∃ m', m = m' + 1 := ⟨m - 1, by omega⟩
    obtain rfl : i = W.length := by omega
    have h1 : ¬ (W.length : Int) < W.length := by omega
    rw [fn0.l4_eq, List.drop_length]
    simp only [h1, decide_false, cond_false]
    rfl
  | succ d ih =>
    intro i m hi hm
    obtain ⟨m, rfl⟩ : ∃ m', m = m' + 1 := ⟨m - 1, by omega⟩
    have hlt : i < W.length := by omega
    rw [fn0.l4_eq, List.drop_eq_getElem_cons hlt, towersOn_cons, List.nil_append]
    simp only [Cod.encs_len, Int.ofNat_lt, hlt, decide_true, cond_true, Int.natCast_nonneg, Int.toNat_natCast, dieC_t' hlt, dieC_n' hlt, dieC_e' hlt, dieC_s' hlt, dieC_w' hlt, dieC_b' hlt, Option.bind_some, Cod.decs_encs hdl, Die.eta, wrap_succ (show i ≤ LIM by unfold LIM; omega)]
    cases hf : fit [] W[i] dice.length with
    | false =>
      simp only [cond_false, List.nil_append]
      exact ih (i + 1) m (by omega) (by omega)
    | true =>
      have hl : lvlI 0 dice [W[i]] = true := by
        unfold lvlI
        rw [decide_eq_true_eq, List.length_singleton]
        omega
      have hq2 : dice.length - [W[i]].length = q := by simp; omega
      have hA : hasA dice [W[i]] = hasL (towersFrom dice q [W[i]]) := by unfold hasA hasT; rw [hq2]
      have fA : firstA dice [W[i]] = firstOf (towersFrom dice q [W[i]]) := by unfold firstA firstT; rw [hq2]
      simp only [cond_true, hl, hA, fA]
      (subst hq ; rfl)
/-! fnA -/
noncomputable def fnA.cfg : Cfg := { C0 with keep := fun | 4 => some [0, 1, 2, 22, 23, 24] | _ => none, nb := 2, M := tabM [(41, impl_Die_ways.stub), (53, impl_fits.stub), (54, slices_Clone_Simpl_Die_impl_Die.stub)], MM := tabB [(34, putT.stub), (32, fwA.stub)] }
noncomputable def fnA.l4 (n : Nat) (m4 : Nat) (l0 : List (List D)) (i1 : Int) (i2 : Int) (l3 : List (List D)) (l4 : List (List D)) : Option (List V × List Ob) :=
  loopAtB fnA.cfg n Try.f32 [1, 1, 0, 1, 0] [] m4 (St.mk [V.one false (D.sl (6 : Nat) l0), V.nils (0 : Nat), V.fnv (34 : Nat) [] [V.rp (0 : Nat) (0 : Nat)], V.undef, V.undef, V.undef, V.undef, V.undef, V.undef, V.undef, V.undef, V.undef, V.undef, V.undef, V.undef, V.undef, V.undef, V.undef, V.undef, V.undef, V.undef, V.undef, V.rw (2 : Nat), V.one true (D.int IntKind.i64 i1), V.one true (D.int IntKind.i64 i2), V.undef, V.undef, V.undef, V.undef, V.undef, V.undef, V.undef, V.undef, V.undef, V.undef, V.undef, V.undef, V.undef, V.undef, V.undef, V.undef, V.undef, V.undef, V.undef, V.undef] [Ob.box [V.rw (1 : Nat)], Ob.row false (6 : Nat) l3, Ob.row false (6 : Nat) l4])
theorem fnA.l4_eq (n : Nat) (m4 : Nat) (l0 : List (List D)) (i1 : Int) (i2 : Int) (l3 : List (List D)) (l4 : List (List D)) :
    fnA.l4 n (m4 + 1) l0 i1 i2 l3 l4 = bif decide (i2 < i1) then bif decide ((0 : Int) ≤ i2) then bif decide (i2 < (↑(List.length l4) : Int)) then Option.bind (Option.bind (some (cellD l4 (Int.toNat i2) (0 : Nat))) (D.int? IntKind.i64)) fun (i7 : Int) => Option.bind (Option.bind (some (cellD l4 (Int.toNat i2) (1 : Nat))) (D.int? IntKind.i64)) fun (i8 : Int) => Option.bind (Option.bind (some (cellD l4 (Int.toNat i2) (2 : Nat))) (D.int? IntKind.i64)) fun (i9 : Int) => Option.bind (Option.bind (some (cellD l4 (Int.toNat i2) (3 : Nat))) (D.int? IntKind.i64)) fun (i10 : Int) => Option.bind (Option.bind (some (cellD l4 (Int.toNat i2) (4 : Nat))) (D.int? IntKind.i64)) fun (i11 : Int) => Option.bind (Option.bind (some (cellD l4 (Int.toNat i2) (5 : Nat))) (D.int? IntKind.i64)) fun (i12 : Int) => bif fit [] (Die.mk i7 i8 i9 i10 i11 i12) (↑(List.length l0) : Int) then Option.bind (Cod.decs dieC l0) fun (l13 : List Die) => bif lvlB l13 [Die.mk i7 i8 i9 i10 i11 i12] then bif hasA l13 [Die.mk i7 i8 i9 i10 i11 i12] then some ([V.one true (D.bool false)], [Ob.box [V.rw (2 : Nat)], Ob.row false (6 : Nat) l3, Ob.row false (6 : Nat) (Cod.encs dieC (firstA l13 [Die.mk i7 i8 i9 i10 i11 i12]))]) else fnA.l4 n m4 l0 i1 (IntKind.wrap IntKind.i64 (i2 + (1 : Int))) l3 l4 else none else fnA.l4 n m4 l0 i1 (IntKind.wrap IntKind.i64 (i2 + (1 : Int))) l3 l4 else none else none else some ([V.one true (D.bool true)], [Ob.box [V.rw (1 : Nat)], Ob.row false (6 : Nat) l3]) := by kernel_rfl
noncomputable def fnA.res (n : Nat) (ds : List (List D)) (fs : List (List D)) : Option (List V × List Ob) :=
  bif (0 : Int) == (↑(List.length ds) : Int) then none else bif decide ((0 : Int) < (↑(List.length ds) : Int)) then Option.bind (Option.bind (some (cellD ds (Int.toNat (0 : Int)) (0 : Nat))) (D.int? IntKind.i64)) fun (i1 : Int) => Option.bind (Option.bind (some (cellD ds (Int.toNat (0 : Int)) (1 : Nat))) (D.int? IntKind.i64)) fun (i2 : Int) => Option.bind (Option.bind (some (cellD ds (Int.toNat (0 : Int)) (2 : Nat))) (D.int? IntKind.i64)) fun (i3 : Int) => Option.bind (Option.bind (some (cellD ds (Int.toNat (0 : Int)) (3 : Nat))) (D.int? IntKind.i64)) fun (i4 : Int) => Option.bind (Option.bind (some (cellD ds (Int.toNat (0 : Int)) (4 : Nat))) (D.int? IntKind.i64)) fun (i5 : Int) => Option.bind (Option.bind (some (cellD ds (Int.toNat (0 : Int)) (5 : Nat))) (D.int? IntKind.i64)) fun (i6 : Int) => fnA.l4 n n ds (↑(List.length (Cod.encs dieC (Sp.ways (Die.mk i1 i2 i3 i4 i5 i6)))) : Int) (0 : Int) fs (Cod.encs dieC (Sp.ways (Die.mk i1 i2 i3 i4 i5 i6))) else none
theorem fnA.run (n : Nat) (ds : List (List D)) (fs : List (List D)) :
    (fun p : List V × List Ob => runB fnA.cfg n Try.f32 p.1 p.2) ([V.one false (D.sl (6 : Nat) ds), V.nils (0 : Nat), V.fnv (34 : FuncId) [] [V.rp (0 : Nat) (0 : Nat)]], [Ob.box [V.rw (1 : Nat)], Ob.row false (6 : Nat) fs]) = fnA.res n ds fs := by kernel_rfl
theorem fnA.ev {n : Nat} {ds : List (List D)} {fs : List (List D)} {r : List V} {o : List Ob} (h : fnA.res n ds fs = some (r, o)) : SndB Try.prog C0 32 [.one false (.sl 6 ds), .nils 0, .fnv 34 [] [.rp 0 0]] [.box [.rw 1], .row false 6 fs] r o :=
  sndB_ev (C := fnA.cfg) cfg0 mix rfl rfl rfl rfl rfl (.cons impl_Die_ways.ok (.cons impl_fits.ok (.cons slices_Clone_Simpl_Die_impl_Die.ok .nil))) (.cons putT.ok (.cons fwA.ok .nil)) Try.func32 (by kernel_rfl) (by kernel_rfl) rfl ((fnA.run n ds fs).trans h)

theorem fnA.l4_run {n q : Nat} {dice W : List Die} {fs : List (List D)} (hd : dice.length = q + 1) (hd4 : dice.length ≤ 4) (hq : 1 ≤ q) (hW : W.length ≤ 24) : ∀ (d i m : Nat), i + d = W.length → d < m →
    fnA.l4 n m (dieC.encs dice) W.length i fs (dieC.encs W) = bif hasL (towersOn dice q [] (W.drop i)) then some ([V.one true (.bool false)], [Ob.box [.rw 2], Ob.row false 6 fs, Ob.row false 6 (dieC.encs (firstOf (towersOn dice q [] (W.drop i))))]) else some ([V.one true (.bool true)], [Ob.box [.rw 1], Ob.row false 6 fs]) := by
  have hdl : dice.length ≤ LIM := by unfold LIM; omega
  intro d
  induction d with
  | zero =>
    intro i m hi hm
    obtain ⟨m, rfl⟩ : ∃ m', m = m' + 1 := ⟨m - 1, by omega⟩
    obtain rfl : i = W.length := by omega
    have h1 : ¬ (W.length : Int) < W.length := by omega
    rw [fnA.l4_eq, List.drop_length]
    simp only [h1, decide_false, cond_false]
    rfl
  | succ d ih =>
    intro i m hi hm
    obtain ⟨m, rfl⟩ : ∃ m', m = m' + 1 := ⟨m - 1, by omega⟩
    have hlt : i < W.length := by omega
    rw [fnA.l4_eq, List.drop_eq_getElem_cons hlt, towersOn_cons, List.nil_append]
    simp only [Cod.encs_len, Int.ofNat_lt, hlt, decide_true, cond_true, Int.natCast_nonneg, Int.toNat_natCast, dieC_t' hlt, dieC_n' hlt, dieC_e' hlt, dieC_s' hlt, dieC_w' hlt, dieC_b' hlt, Option.bind_some, Cod.decs_encs hdl, Die.eta, wrap_succ (show i ≤ LIM by unfold LIM; omega)]
    cases hf : fit [] W[i] dice.length with
    | false =>
      simp only [cond_false, List.nil_append]
      exact ih (i + 1) m (by omega) (by omega)
    | true =>
      have hl : lvlB dice [W[i]] = true := by
        unfold lvlB
        rw [decide_eq_true_eq, List.length_singleton]
        omega
      have hq2 : dice.length - [W[i]].length = q := by simp; omega
      have hA : hasA dice [W[i]] = hasL (towersFrom dice q [W[i]]) := by unfold hasA hasT; rw [hq2]
      have fA : firstA dice [W[i]] = firstOf (towersFrom dice q [W[i]]) := by unfold firstA firstT; rw [hq2]
      simp only [cond_true, hl, hA, fA]
      (exact hasL_step (F := fun r => some ([V.one true (.bool false)], [Ob.box [.rw 2], Ob.row false 6 fs, Ob.row false 6 (dieC.encs r)])) (ih (i + 1) m (by omega) (by omega)))
def fwT.stub : StubB
  | [.one false (.sl 6 ds), .nils 0, .fnv 34 [] [.rp 0 0]], [.box [.rw 1], .row false 6 fs] => .any (dieC.decs ds) fun dice => .gd (decide (1 ≤ dice.length ∧ dice.length ≤ 4)) (.ite (Sp.hasA dice []) (.ret ([.one true (.bool false)], [.box [.rw 2], .row false 6 fs, .row false 6 (dieC.encs (Sp.firstA dice []))])) (.ret ([.one true (.bool true)], [.box [.rw 1], .row false 6 fs, .dead])))
  | _, _ => .fail
theorem fwT.ok : StubBOk Try.prog C0 32 fwT.stub := by
  intro args objs res objs' h
  unfold fwT.stub at h
  split at h
  · rename_i ds fs
    obtain ⟨dice, h1, h0⟩ := any_out h
    obtain ⟨rfl, hl⟩ := Cod.decs_inv h1
    obtain ⟨h2, h3⟩ := gd_out h0
    obtain ⟨hd1, hd4⟩ := of_decide_eq_true h2
    have hlt : 0 < dice.length := by omega
    have hlti : (0 : Int) < dice.length := by omega
    have hne : ((0 : Int) == ((dice.length : Nat) : Int)) = false := by rw [ieq, decide_eq_false_iff_not]; omega
    have hW := ways_len dice[0]
    obtain ⟨q, hq⟩ : ∃ q, dice.length = q + 1 := ⟨dice.length - 1, by omega⟩
    have e : towersFrom dice (dice.length - ([] : List Die).length) [] = towersOn dice q [] ((Sp.ways dice[0]).drop 0) := by
      rw [show dice.length - ([] : List Die).length = q + 1 by simp; omega, towersFrom_succ, List.drop_zero, ← getD_of_lt (d := default) hlt]
      rfl
    have e1 : hasA dice [] = hasL (towersOn dice q [] ((Sp.ways dice[0]).drop 0)) := by unfold hasA hasT; rw [e]
    have e2 : firstA dice [] = firstOf (towersOn dice q [] ((Sp.ways dice[0]).drop 0)) := by unfold firstA firstT; rw [e]
    have done : ∀ (R : Option (List V × List Ob)), (R = bif hasL (towersOn dice q [] ((Sp.ways dice[0]).drop 0)) then some ([V.one true (.bool false)], [Ob.box [.rw 2], Ob.row false 6 fs, Ob.row false 6 (dieC.encs (firstOf (towersOn dice q [] ((Sp.ways dice[0]).drop 0))))]) else some ([V.one true (.bool true)], [Ob.box [.rw 1], Ob.row false 6 fs])) →
        (∀ r o, R = some (r, o) → SndB Try.prog C0 32 [.one false (.sl 6 (dieC.encs dice)), .nils 0, .fnv 34 [] [.rp 0 0]] [.box [.rw 1], .row false 6 fs] r o) →
        SndB Try.prog C0 32 [.one false (.sl 6 (dieC.encs dice)), .nils 0, .fnv 34 [] [.rp 0 0]] [.box [.rw 1], .row false 6 fs] res objs' := by
      intro R hR hS
      rcases ite_out h3 with ⟨hb, h4⟩ | ⟨hb, h4⟩
      · cases h4
        rw [e1] at hb
        rw [hb, cond_true] at hR
        rw [e2]
        exact hS _ _ hR
      · cases h4
        rw [e1] at hb
        rw [hb, cond_false] at hR
        exact SndB.dead (objs' := [.box [.rw 1], .row false 6 fs]) (hS _ _ hR)
    by_cases h0 : q = 0
    · have key := fn0.l4_run (n := 100) (fs := fs) hq hd4 h0 hW _ 0 100 (Nat.zero_add _) (by omega)
      have er : fn0.res 100 (dieC.encs dice) fs = fn0.l4 100 100 (dieC.encs dice) ((Sp.ways dice[0]).length : Nat) (0 : Nat) fs (dieC.encs (Sp.ways dice[0])) := by
        unfold fn0.res
        simp only [Cod.encs_len, hne, cond_false, hlti, decide_true, cond_true, Int.toNat_zero, dieC_t' hlt, dieC_n' hlt, dieC_e' hlt, dieC_s' hlt, dieC_w' hlt, dieC_b' hlt, Option.bind_some, Die.eta]
        rfl
      exact done _ (er.trans key) fun r o hr => fn0.ev (n := 100) hr
    · have key := fnA.l4_run (n := 100) (fs := fs) hq hd4 (by omega) hW _ 0 100 (Nat.zero_add _) (by omega)
      have er : fnA.res 100 (dieC.encs dice) fs = fnA.l4 100 100 (dieC.encs dice) ((Sp.ways dice[0]).length : Nat) (0 : Nat) fs (dieC.encs (Sp.ways dice[0])) := by
        unfold fnA.res
        simp only [Cod.encs_len, hne, cond_false, hlti, decide_true, cond_true, Int.toNat_zero, dieC_t' hlt, dieC_n' hlt, dieC_e' hlt, dieC_s' hlt, dieC_w' hlt, dieC_b' hlt, Option.bind_some, Die.eta]
        rfl
      exact done _ (er.trans key) fun r o hr => fnA.ev (n := 100) hr
  · cases h
end Go.Proofs.EV.PL
set_option linter.unusedVariables false
set_option linter.unusedSimpArgs false
/-! The first tower: the law. -/
namespace Go.Proofs.EV.PL
open Go Go.Proofs Go.Proofs.EV Sp
/-! impl_FirstTower -/
noncomputable def impl_FirstTower.cfg : Cfg := { C0 with keep := fun _ => none, nb := 0, M := tabM [(31, impl_areTower.stub)], MM := tabB [(32, fwT.stub)] }
noncomputable def impl_FirstTower.res (n : Nat) (a0 : List (List D)) : Option (List Q) :=
  Option.bind (Cod.decs dieC a0) fun (l1 : List Die) => bif !areDice l1 then some [Q.one (D.sl (6 : Nat) []), Q.one (D.bool false)] else Option.bind (Cod.decs dieC a0) fun (l2 : List Die) => bif decide ((1 : Nat) ≤ List.length l2 ∧ List.length l2 ≤ (4 : Nat)) then bif hasA l2 [] then some [Q.one (D.sl (6 : Nat) (Cod.encs dieC (firstA l2 []))), Q.one (D.bool true)] else some [Q.one (D.sl (6 : Nat) []), Q.one (D.bool false)] else none
theorem impl_FirstTower.run (n : Nat) (a0 : List (List D)) :
    run1 impl_FirstTower.cfg [RK.own (6 : Nat), RK.one LK.bool] n Try.f17 [Q.one (D.sl (6 : Nat) a0)] = impl_FirstTower.res n a0 := by kernel_rfl
theorem impl_FirstTower.ev {n : Nat} {a0 : List (List D)} {r : List Q} (h : impl_FirstTower.res n a0 = some r) : Snd Try.prog C0 17 [.one (.sl 6 a0)] r :=
  snd_ev (C := impl_FirstTower.cfg) cfg0 mix rfl rfl rfl rfl rfl (.cons impl_areTower.ok .nil) (.cons fwT.ok .nil) rfl Try.func17 (by kernel_rfl) (by kernel_rfl) rfl ((impl_FirstTower.run n a0).trans h)

def impl_FirstTower.stub : Stub
  | [.one (.sl 6 es)] => .any (dieC.decs es) fun l => .ret [.one (.sl 6 (dieC.encs (Sp.fstT l))), .one (.bool (Sp.hasF l))]
  | _ => .fail
theorem impl_FirstTower.ok : StubOk Try.prog C0 17 impl_FirstTower.stub := by
  intro args res h
  unfold impl_FirstTower.stub at h
  split at h
  · obtain ⟨l, h1, h0⟩ := any_out h
    obtain ⟨rfl, hl⟩ := Cod.decs_inv h1
    cases h0
    refine impl_FirstTower.ev (n := 0) ?_
    unfold impl_FirstTower.res Sp.fstT Sp.hasF
    simp only [Cod.decs_encs hl, Option.bind_some]
    cases ha : areDice l with
    | false => rfl
    | true =>
      have h4 := areDice_len ha
      simp only [Bool.not_true, cond_false, cond_true, h4, and_self, decide_true, Bool.true_and, numT_zero, firstT_A]
      cases hA : hasA l [] with
      | false => rw [firstA_none hA]; rfl
      | true => rfl
  · cases h
/-! spec_FirstTower -/
noncomputable def spec_FirstTower.cfg : Cfg := { C0 with keep := fun _ => none, nb := 0, M := tabM [(28, spec_clDice.stub), (29, bdT.stub)], MM := tabB [] }
noncomputable def spec_FirstTower.res (n : Nat) (a0 : List (List D)) : Option (List Q) :=
  Option.bind (Cod.decs dieC a0) fun (l1 : List Die) => bif !areDice l1 then some [Q.one (D.sl (6 : Nat) []), Q.one (D.bool false)] else Option.bind (Cod.decs dieC a0) fun (l2 : List Die) => bif decide ((1 : Nat) ≤ List.length l2 ∧ List.length l2 ≤ (4 : Nat)) then bif numT l2 (List.length l2) [] == (0 : Int) then some [Q.one (D.sl (6 : Nat) []), Q.one (D.bool false)] else some [Q.one (D.sl (6 : Nat) (Cod.encs dieC (firstT l2 (List.length l2) []))), Q.one (D.bool true)] else none
theorem spec_FirstTower.run (n : Nat) (a0 : List (List D)) :
    run1 spec_FirstTower.cfg [RK.own (6 : Nat), RK.one LK.bool] n Try.f16 [Q.one (D.sl (6 : Nat) a0)] = spec_FirstTower.res n a0 := by kernel_rfl
theorem spec_FirstTower.ev {n : Nat} {a0 : List (List D)} {r : List Q} (h : spec_FirstTower.res n a0 = some r) : Snd Try.prog C0 16 [.one (.sl 6 a0)] r :=
  snd_ev (C := spec_FirstTower.cfg) cfg0 mix rfl rfl rfl rfl rfl (.cons spec_clDice.ok (.cons bdT.ok .nil)) .nil rfl Try.func16 (by kernel_rfl) (by kernel_rfl) rfl ((spec_FirstTower.run n a0).trans h)

def spec_FirstTower.stub : Stub
  | [.one (.sl 6 es)] => .any (dieC.decs es) fun l => .ret [.one (.sl 6 (dieC.encs (Sp.fstT l))), .one (.bool (Sp.hasF l))]
  | _ => .fail
theorem spec_FirstTower.ok : StubOk Try.prog C0 16 spec_FirstTower.stub := by
  intro args res h
  unfold spec_FirstTower.stub at h
  split at h
  · obtain ⟨l, h1, h0⟩ := any_out h
    obtain ⟨rfl, hl⟩ := Cod.decs_inv h1
    cases h0
    refine spec_FirstTower.ev (n := 0) ?_
    unfold spec_FirstTower.res Sp.fstT Sp.hasF
    simp only [Cod.decs_encs hl, Option.bind_some]
    cases ha : areDice l with
    | false => rfl
    | true =>
      have h4 := areDice_len ha
      simp only [Bool.not_true, cond_false, cond_true, h4, and_self, decide_true, Bool.true_and, numT_zero, firstT_A]
      cases hA : hasA l [] with
      | false => rw [firstA_none hA]; rfl
      | true => rfl
  · cases h
/-! laws_FnExactFirstTower -/
noncomputable def laws_FnExactFirstTower.cfg : Cfg := { C0 with keep := fun _ => none, nb := 0, M := tabM [(12, laws_szDieS.stub), (14, laws_toDieS.stub), (9, laws_eqDieS.stub), (16, spec_FirstTower.stub), (17, impl_FirstTower.stub), (11, laws_heldDieS.stub)], MM := tabB [(10, laws_markDieS.stub)] }
noncomputable def laws_FnExactFirstTower.res (n : Nat) (a0 : List (List D)) : Option (List Q) :=
  bif decide ((0 : Int) ≤ (1048576 : Int) ∧ (1048576 : Int) ≤ (1048576 : Int) ∧ List.length a0 ≤ (9223372036854775807 : Nat)) then bif decide (szL (1048576 : Int) (List.length a0) < (0 : Int)) then some [Q.one (D.bool true)] else Option.bind (Cod.decs dieC a0) fun (l1 : List Die) => Option.bind (Cod.decs dieC (Cod.encs dieC l1)) fun (l2 : List Die) => Option.bind (Cod.decs dieC a0) fun (l3 : List Die) => Option.bind (Cod.decs dieC (Cod.encs dieC l3)) fun (l4 : List Die) => Option.bind (Cod.decs dieC (Cod.encs dieC (fstT l4))) fun (l5 : List Die) => Option.bind (Cod.decs dieC (Cod.encs dieC (fstT l2))) fun (l6 : List Die) => bif !decide (l5 = l6) then some [Q.one (D.bool false)] else bif !hasF l4 == hasF l2 then some [Q.one (D.bool false)] else Option.bind (Cod.decs dieC a0) fun (l7 : List Die) => Option.bind (Cod.decs dieC (Cod.encs dieC l3)) fun (l8 : List Die) => Option.bind (Cod.decs dieC (Cod.encs dieC l7)) fun (l9 : List Die) => bif !decide (l8 = l9) then some [Q.one (D.bool false)] else Option.bind (Cod.decs dieC (Cod.encs dieC l3)) fun (l10 : List Die) => Option.bind (Cod.decs dieC (Cod.encs dieC (fstT l4))) fun (l11 : List Die) => Option.bind (Cod.decs dieC (Cod.encs dieC (fstT l2))) fun (l12 : List Die) => bif !decide (l11 = l12) then some [Q.one (D.bool false)] else bif !hasF l4 == hasF l2 then some [Q.one (D.bool false)] else Option.bind (Cod.decs dieC (Cod.encs dieC (fstT l4))) fun (l13 : List Die) => Option.bind (Cod.decs dieC (Cod.encs dieC (marks (List.length l13) (1 : Nat)))) fun (l14 : List Die) => bif isMarks l14 then bif markEnd (List.length l14) != markEnd (List.length l13) then some [Q.one (D.bool false)] else Option.bind (Cod.decs dieC a0) fun (l15 : List Die) => Option.bind (Cod.decs dieC (Cod.encs dieC l15)) fun (l16 : List Die) => Option.bind (Cod.decs dieC (Cod.encs dieC (fstT l16))) fun (l17 : List Die) => Option.bind (Cod.decs dieC (Cod.encs dieC (fstT l2))) fun (l18 : List Die) => bif !decide (l17 = l18) then some [Q.one (D.bool false)] else bif !hasF l16 == hasF l2 then some [Q.one (D.bool false)] else Option.bind (Cod.decs dieC (Cod.encs dieC (marks (List.length l13) (1 : Nat)))) fun (l19 : List Die) => bif isMarks l19 then bif markEnd (List.length l19) != markEnd (List.length l13) then some [Q.one (D.bool false)] else some [Q.one (D.bool true)] else none else none else none
theorem laws_FnExactFirstTower.run (n : Nat) (a0 : List (List D)) :
    run1 laws_FnExactFirstTower.cfg [RK.one LK.bool] n Try.f5 [Q.one (D.sl (6 : Nat) a0)] = laws_FnExactFirstTower.res n a0 := by kernel_rfl
theorem laws_FnExactFirstTower.ev {n : Nat} {a0 : List (List D)} {r : List Q} (h : laws_FnExactFirstTower.res n a0 = some r) : Snd Try.prog C0 5 [.one (.sl 6 a0)] r :=
  snd_ev (C := laws_FnExactFirstTower.cfg) cfg0 mix rfl rfl rfl rfl rfl (.cons laws_szDieS.ok (.cons laws_toDieS.ok (.cons laws_eqDieS.ok (.cons spec_FirstTower.ok (.cons impl_FirstTower.ok (.cons laws_heldDieS.ok .nil)))))) (.cons laws_markDieS.ok .nil) rfl Try.func5 (by kernel_rfl) (by kernel_rfl) rfl ((laws_FnExactFirstTower.run n a0).trans h)

theorem laws_FnExactFirstTower.law (l : List Die) (hb : l.length ≤ 9223372036854775807) : Snd Try.prog C0 5 [.one (.sl 6 (dieC.encs l))] [.one (.bool true)] := by
  refine laws_FnExactFirstTower.ev (n := 0) ?_
  unfold laws_FnExactFirstTower.res
  simp only [Cod.encs_len, hb, Int.le_refl, and_self, decide_true, cond_true, show (0 : Int) ≤ 1048576 from by decide]
  unfold szL
  by_cases h : (1048576 : Int) - (l.length : Int) < 0
  · simp [h]
  · have hl : l.length ≤ LIM := by unfold LIM; omega
    have h2 : ¬ (if (1048576 : Int) - (l.length : Int) < 0 then (-1 : Int) else 1048576 - (l.length : Int)) < 0 := by rw [if_neg h]; exact h
    have hf := fstT_len l
    have hm : (marks (fstT l).length 1).length ≤ LIM := by rw [marks_len]; exact hf
    simp only [h2, decide_false, cond_false, Cod.decs_encs hl, Cod.decs_encs hf, Cod.decs_encs hm, Option.bind_some, decide_true, Bool.not_true, cond_true, isMarks_marks, marks_len, bne_self_eq_false]
    cases hasF l <;> rfl
end Go.Proofs.EV.PL
