import Derived.Test.YtaahpimicjecfaaPlA
set_option linter.unusedVariables false
set_option linter.unusedSimpArgs false
/-! Colourings with numbers. -/
namespace Go.Proofs.EV.PL
open Go Go.Proofs Go.Proofs.EV Sp
/-! laws_toIntS -/
noncomputable def laws_toIntS.cfg : Cfg := { C0 with keep := fun | 3 => some [0, 3, 4] | _ => none, nb := 0, M := tabM [], MM := tabB [] }
noncomputable def laws_toIntS.l3 (n : Nat) (m3 : Nat) (l0 : List (List D)) (i1 : Int) (l2 : List (List D)) : Option (List Q) :=
  loopAt laws_toIntS.cfg [RK.own (1 : Nat)] n Try.f5 [1, 1, 0, 1, 0] [] m3 (St.mk [V.one false (D.sl (1 : Nat) l0), V.undef, V.undef, V.rw (0 : Nat), V.one true (D.int IntKind.i64 i1), V.undef, V.undef, V.undef, V.undef, V.undef, V.undef, V.undef, V.undef, V.undef, V.undef, V.undef, V.undef, V.undef, V.undef, V.undef, V.undef, V.undef] [Ob.row false (1 : Nat) l2])
theorem laws_toIntS.l3_eq (n : Nat) (m3 : Nat) (l0 : List (List D)) (i1 : Int) (l2 : List (List D)) :
    laws_toIntS.l3 n (m3 + 1) l0 i1 l2 = bif decide (i1 < (↑(List.length l0) : Int)) then bif decide ((0 : Int) ≤ i1) then bif decide (i1 < (↑(List.length l0) : Int)) then Option.bind (Option.bind (some (cellD l0 (Int.toNat i1) (0 : Nat))) (D.int? IntKind.i64)) fun (i1_1 : Int) => bif decide ((0 : Int) ≤ i1) then bif decide (i1 < (↑(List.length l2) : Int)) then laws_toIntS.l3 n m3 l0 (IntKind.wrap IntKind.i64 (i1 + (1 : Int))) (setRow (1 : Nat) l2 (Int.toNat i1) (0 : Nat) [D.int IntKind.i64 i1_1]) else none else none else none else none else some [Q.one (D.sl (1 : Nat) l2)] := by kernel_rfl
noncomputable def laws_toIntS.res (n : Nat) (a0 : List (List D)) : Option (List Q) :=
  bif decide ((↑(List.length a0) : Int) ≤ (↑(List.length a0) : Int)) then bif decide ((↑(List.length a0) : Int) ≤ (17179869184 : Int)) then laws_toIntS.l3 n n a0 (0 : Int) (List.replicate (Int.toNat (↑(List.length a0) : Int)) [D.int IntKind.i64 (0 : Int)]) else none else none
theorem laws_toIntS.run (n : Nat) (a0 : List (List D)) :
    run1 laws_toIntS.cfg [RK.own (1 : Nat)] n Try.f5 [Q.one (D.sl (1 : Nat) a0)] = laws_toIntS.res n a0 := by kernel_rfl
theorem laws_toIntS.ev {n : Nat} {a0 : List (List D)} {r : List Q} (h : laws_toIntS.res n a0 = some r) : Snd Try.prog C0 5 [.one (.sl 1 a0)] r :=
  snd_ev (C := laws_toIntS.cfg) cfg0 mix rfl rfl rfl rfl rfl .nil .nil rfl Try.func5 (by kernel_rfl) (by kernel_rfl) rfl ((laws_toIntS.run n a0).trans h)

theorem laws_toIntS.l3_run {n : Nat} {l : List Int} (hl : l.length ≤ LIM) : ∀ (d i m : Nat) (cur : List Int), i + d = l.length → d < m → cur.length = l.length → cur.take i = l.take i →
    laws_toIntS.l3 n m (intC.encs l) i (intC.encs cur) = some [Q.one (.sl 1 (intC.encs l))] := by
  intro d
  induction d with
  | zero =>
    intro i m cur hi hm hc ht
    obtain ⟨m, rfl⟩ : ∃ m', m = m' + 1 := ⟨m - 1, by omega⟩
    obtain rfl : i = l.length := by omega
    have h1 : ¬ (l.length : Int) < l.length := by omega
    rw [List.take_length, ← hc, List.take_length] at ht
    rw [laws_toIntS.l3_eq, ht]
    simp only [Cod.encs_len, h1, decide_false, cond_false]
  | succ d ih =>
    intro i m cur hi hm hc ht
    obtain ⟨m, rfl⟩ : ∃ m', m = m' + 1 := ⟨m - 1, by omega⟩
    have hlt : i < l.length := by omega
    rw [laws_toIntS.l3_eq]
    simp only [Cod.encs_len, hc, Int.ofNat_lt, hlt, decide_true, cond_true, Int.natCast_nonneg, Int.toNat_natCast, intC_int' hlt, Option.bind_some, intC_set, wrap_succ (show i ≤ LIM by omega)]
    refine ih (i + 1) m _ (by omega) (by omega) (by rw [List.length_set]; exact hc) ?_
    rw [List.take_succ_eq_append_getElem (by rw [List.length_set]; omega), List.take_set_of_le (Nat.le_refl _), ht, List.getElem_set_self, List.take_succ_eq_append_getElem hlt]
def laws_toIntS.stub : Stub
  | [.one (.sl 1 es)] => .any (intC.decs es) fun l => .ret [.one (.sl 1 (intC.encs l))]
  | _ => .fail
theorem laws_toIntS.ok : StubOk Try.prog C0 5 laws_toIntS.stub := by
  intro args res h
  unfold laws_toIntS.stub at h
  split at h
  · obtain ⟨l, h1, h0⟩ := any_out h
    obtain ⟨rfl, hl⟩ := Cod.decs_inv h1
    cases h0
    refine laws_toIntS.ev (n := l.length + 1) ?_
    have h2 : ((l.length : Nat) : Int) ≤ 17179869184 := by unfold LIM at hl; omega
    unfold laws_toIntS.res
    simp only [Cod.encs_len, Int.le_refl, h2, decide_true, cond_true, Int.toNat_natCast, intC_rep]
    exact laws_toIntS.l3_run (n := l.length + 1) hl l.length 0 (l.length + 1) _ (by omega) (by omega) (by simp) rfl
  · cases h
/-! slices_Clone_Sint_int -/
noncomputable def slices_Clone_Sint_int.cfg : Cfg := { C0 with keep := fun _ => none, nb := 0, M := tabM [], MM := tabB [] }
noncomputable def slices_Clone_Sint_int.res (n : Nat) (a0 : List (List D)) : Option (List Q) :=
  bif decide ((0 : Nat) < List.length a0) then bif List.all a0 fun (r : List D) => List.all r scalar then bif decide ((0 : Nat) + List.length a0 ≤ (17179869184 : Nat)) then some [Q.one (D.sl (1 : Nat) ([] ++ a0))] else none else none else none
theorem slices_Clone_Sint_int.run (n : Nat) (a0 : List (List D)) :
    run1 slices_Clone_Sint_int.cfg [RK.own (1 : Nat)] n Try.f18 [Q.one (D.sl (1 : Nat) a0)] = slices_Clone_Sint_int.res n a0 := by kernel_rfl
theorem slices_Clone_Sint_int.ev {n : Nat} {a0 : List (List D)} {r : List Q} (h : slices_Clone_Sint_int.res n a0 = some r) : Snd Try.prog C0 18 [.one (.sl 1 a0)] r :=
  snd_ev (C := slices_Clone_Sint_int.cfg) cfg0 mix rfl rfl rfl rfl rfl .nil .nil rfl Try.func18 (by kernel_rfl) (by kernel_rfl) rfl ((slices_Clone_Sint_int.run n a0).trans h)

theorem intC_scalar (l : List Int) : (intC.encs l).all (fun r => r.all scalar) = true := by
  rw [List.all_eq_true]
  intro r hr
  obtain ⟨y, _, rfl⟩ := List.mem_map.1 hr
  rfl
def slices_Clone_Sint_int.stub : Stub
  | [.one (.sl 1 es)] => .any (intC.decs es) fun l => .gd (decide (0 < l.length)) (.ret [.one (.sl 1 (intC.encs l))])
  | _ => .fail
theorem slices_Clone_Sint_int.ok : StubOk Try.prog C0 18 slices_Clone_Sint_int.stub := by
  intro args res h
  unfold slices_Clone_Sint_int.stub at h
  split at h
  · obtain ⟨l, h1, h0⟩ := any_out h
    obtain ⟨rfl, hl⟩ := Cod.decs_inv h1
    obtain ⟨h2, h3⟩ := gd_out h0
    have h2 := of_decide_eq_true h2
    cases h3
    refine slices_Clone_Sint_int.ev (n := 0) ?_
    have h4 : l.length ≤ 17179869184 := hl
    unfold slices_Clone_Sint_int.res
    simp only [Cod.encs_len, h2, intC_scalar, Nat.zero_add, h4, decide_true, cond_true, List.nil_append]
  · cases h
def ccT.stub : Stub
  | [.one (.sl 1 es), .one (.sl 1 es')] => .any (intC.decs es) fun l => .any (intC.decs es') fun c => .gd (Sp.len6 l) (.ret [.one (.int .i64 (Sp.keptC l c))])
  | _ => .fail
theorem ccT.ok : StubOk Try.prog C0 11 ccT.stub := by
  intro args res h
  unfold ccT.stub at h
  split at h
  · obtain ⟨l, h1, h0⟩ := any_out h
    obtain ⟨c, h1', h0'⟩ := any_out h0
    obtain ⟨h2, h3⟩ := gd_out h0'
    have h2 : l.length ≤ 6 := of_decide_eq_true h2
    have hl : ∀ q, l.length = q → lenQ q l = true := fun q hq => by unfold lenQ; rw [decide_eq_true_eq]; exact hq
    rcases (show l.length = 0 ∨ l.length = 1 ∨ l.length = 2 ∨ l.length = 3 ∨ l.length = 4 ∨ l.length = 5 ∨ l.length = 6 by omega) with e | e | e | e | e | e | e
    · refine cc0.ok _ _ ?_; simp only [cc0.stub, HM.out, h1, h1', Option.bind_some]; rw [hl 0 e, cond_true]; exact h3
    · refine cc1.ok _ _ ?_; simp only [cc1.stub, HM.out, h1, h1', Option.bind_some]; rw [hl 1 e, cond_true]; exact h3
    · refine cc2.ok _ _ ?_; simp only [cc2.stub, HM.out, h1, h1', Option.bind_some]; rw [hl 2 e, cond_true]; exact h3
    · refine cc3.ok _ _ ?_; simp only [cc3.stub, HM.out, h1, h1', Option.bind_some]; rw [hl 3 e, cond_true]; exact h3
    · refine cc4.ok _ _ ?_; simp only [cc4.stub, HM.out, h1, h1', Option.bind_some]; rw [hl 4 e, cond_true]; exact h3
    · refine cc5.ok _ _ ?_; simp only [cc5.stub, HM.out, h1, h1', Option.bind_some]; rw [hl 5 e, cond_true]; exact h3
    · refine cc6.ok _ _ ?_; simp only [cc6.stub, HM.out, h1, h1', Option.bind_some]; rw [hl 6 e, cond_true]; exact h3
  · cases h
/-! spec_CountWithCounts -/
noncomputable def spec_CountWithCounts.cfg : Cfg := { C0 with keep := fun | 5 => some [0, 4, 18, 19, 20] | 13 => some [0, 7, 31, 32, 33] | _ => none, nb := 0, M := tabM [(8, spec_l1All.stub), (10, spec_diUnit.stub), (9, spec_diWays.stub), (12, spec_clCycles.stub), (11, ccT.stub)], MM := tabB [] }
noncomputable def spec_CountWithCounts.l5 (n : Nat) (m5 : Nat) (l0 : List (List D)) (i1 : Int) (l2 : List (List D)) (i3 : Int) (i4 : Int) : Option (List Q) :=
  loopAt spec_CountWithCounts.cfg [RK.one (LK.int IntKind.i64), RK.one LK.bool] n Try.f4 [1, 1, 1, 0, 1, 0] [] m5 (St.mk [V.one false (D.sl (1 : Nat) l0), V.undef, V.undef, V.undef, V.one true (D.int IntKind.i64 i1), V.undef, V.undef, V.undef, V.undef, V.undef, V.undef, V.undef, V.undef, V.undef, V.undef, V.undef, V.undef, V.undef, V.one false (D.sl (1 : Nat) l2), V.one true (D.int IntKind.i64 i3), V.one true (D.int IntKind.i64 i4), V.undef, V.undef, V.undef, V.undef, V.undef, V.undef, V.undef, V.undef, V.undef, V.undef, V.undef, V.undef, V.undef, V.undef, V.undef, V.undef, V.undef, V.undef, V.undef, V.undef, V.undef, V.undef, V.undef, V.undef, V.undef] [])
noncomputable def spec_CountWithCounts.l13 (n : Nat) (m13 : Nat) (l0 : List (List D)) (i1 : Int) (i2 : Int) (i3 : Int) (l4 : List (List D)) : Option (List Q) :=
  loopAt spec_CountWithCounts.cfg [RK.one (LK.int IntKind.i64), RK.one LK.bool] n Try.f4 [1, 1, 1, 1, 1, 1, 0, 1, 0] [] m13 (St.mk [V.one false (D.sl (1 : Nat) l0), V.undef, V.undef, V.undef, V.undef, V.undef, V.undef, V.one true (D.int IntKind.i64 i1), V.undef, V.undef, V.undef, V.undef, V.undef, V.undef, V.undef, V.undef, V.undef, V.undef, V.undef, V.undef, V.undef, V.undef, V.undef, V.undef, V.undef, V.undef, V.undef, V.undef, V.undef, V.undef, V.undef, V.rw (0 : Nat), V.one true (D.int IntKind.i64 i2), V.one true (D.int IntKind.i64 i3), V.undef, V.undef, V.undef, V.undef, V.undef, V.undef, V.undef, V.undef, V.undef, V.undef, V.undef, V.undef] [Ob.row false (6 : Nat) l4])
theorem spec_CountWithCounts.l5_eq (n : Nat) (m5 : Nat) (l0 : List (List D)) (i1 : Int) (l2 : List (List D)) (i3 : Int) (i4 : Int) :
    spec_CountWithCounts.l5 n (m5 + 1) l0 i1 l2 i3 i4 = bif decide (i4 < i3) then bif decide ((0 : Int) ≤ i4) then bif decide (i4 < (↑(List.length l2) : Int)) then Option.bind (Option.bind (some (cellD l2 (Int.toNat i4) (0 : Nat))) (D.int? IntKind.i64)) fun (i2 : Int) => spec_CountWithCounts.l5 n m5 l0 (IntKind.wrap IntKind.i64 (i1 + i2)) l2 i3 (IntKind.wrap IntKind.i64 (i4 + (1 : Int))) else none else none else bif i1 != (6 : Int) then some [Q.one (D.int IntKind.i64 (0 : Int)), Q.one (D.bool false)] else spec_CountWithCounts.l13 n n l0 (0 : Int) (24 : Int) (0 : Int) (Cod.encs dieC (Sp.ways (Die.mk (Die.t unitD) (Die.n unitD) (Die.e unitD) (Die.s unitD) (Die.w unitD) (Die.b unitD)))) := by kernel_rfl
theorem spec_CountWithCounts.l13_eq (n : Nat) (m13 : Nat) (l0 : List (List D)) (i1 : Int) (i2 : Int) (i3 : Int) (l4 : List (List D)) :
    spec_CountWithCounts.l13 n (m13 + 1) l0 i1 i2 i3 l4 = bif decide (i3 < i2) then bif decide ((0 : Int) ≤ i3) then bif decide (i3 < (↑(List.length l4) : Int)) then Option.bind (Option.bind (some (cellD l4 (Int.toNat i3) (0 : Nat))) (D.int? IntKind.i64)) fun (i3_1 : Int) => Option.bind (Option.bind (some (cellD l4 (Int.toNat i3) (1 : Nat))) (D.int? IntKind.i64)) fun (i4 : Int) => Option.bind (Option.bind (some (cellD l4 (Int.toNat i3) (2 : Nat))) (D.int? IntKind.i64)) fun (i5 : Int) => Option.bind (Option.bind (some (cellD l4 (Int.toNat i3) (3 : Nat))) (D.int? IntKind.i64)) fun (i6 : Int) => Option.bind (Option.bind (some (cellD l4 (Int.toNat i3) (4 : Nat))) (D.int? IntKind.i64)) fun (i7 : Int) => Option.bind (Option.bind (some (cellD l4 (Int.toNat i3) (5 : Nat))) (D.int? IntKind.i64)) fun (i8 : Int) => bif six (Die.mk i3_1 i4 i5 i6 i7 i8) then Option.bind (Cod.decs intC (Cod.encs intC (cyc (Die.mk i3_1 i4 i5 i6 i7 i8)))) fun (l9 : List Int) => Option.bind (Cod.decs intC l0) fun (l10 : List Int) => bif len6 l9 then spec_CountWithCounts.l13 n m13 l0 (IntKind.wrap IntKind.i64 (i1 + keptC l9 l10)) i2 (IntKind.wrap IntKind.i64 (i3 + (1 : Int))) l4 else none else none else none else none else some [Q.one (D.int IntKind.i64 (IntKind.wrap IntKind.i64 (Int.tdiv i1 (24 : Int)))), Q.one (D.bool true)] := by kernel_rfl
noncomputable def spec_CountWithCounts.res (n : Nat) (a0 : List (List D)) : Option (List Q) :=
  bif decide ((↑(List.length a0) : Int) > (9 : Int)) then some [Q.one (D.int IntKind.i64 (0 : Int)), Q.one (D.bool false)] else Option.bind (Cod.decs intC a0) fun (l1 : List Int) => bif !allR l1 (0 : Int) (6 : Int) then some [Q.one (D.int IntKind.i64 (0 : Int)), Q.one (D.bool false)] else spec_CountWithCounts.l5 n n a0 (0 : Int) a0 (↑(List.length a0) : Int) (0 : Int)
theorem spec_CountWithCounts.run (n : Nat) (a0 : List (List D)) :
    run1 spec_CountWithCounts.cfg [RK.one (LK.int IntKind.i64), RK.one LK.bool] n Try.f4 [Q.one (D.sl (1 : Nat) a0)] = spec_CountWithCounts.res n a0 := by kernel_rfl
theorem spec_CountWithCounts.ev {n : Nat} {a0 : List (List D)} {r : List Q} (h : spec_CountWithCounts.res n a0 = some r) : Snd Try.prog C0 4 [.one (.sl 1 a0)] r :=
  snd_ev (C := spec_CountWithCounts.cfg) cfg0 mix rfl rfl rfl rfl rfl (.cons spec_l1All.ok (.cons spec_diUnit.ok (.cons spec_diWays.ok (.cons spec_clCycles.ok (.cons ccT.ok .nil))))) .nil rfl Try.func4 (by kernel_rfl) (by kernel_rfl) rfl ((spec_CountWithCounts.run n a0).trans h)

theorem spec_CountWithCounts.l13_run {n : Nat} {c : List Int} {l : List Die} (h24 : l.length = 24) (h6 : ∀ d ∈ l, six d = true) (hc : c.length ≤ LIM) (hc0 : 0 < c.length) : ∀ (q i m : Nat) (s : Int), i + q = 24 → q < m →
    spec_CountWithCounts.l13 n m (intC.encs c) s 24 i (dieC.encs l) = some [Q.one (.int .i64 (withEnd (withSum c s (l.drop i)))), Q.one (.bool true)] := by
  intro q
  induction q with
  | zero =>
    intro i m s hi hm
    obtain ⟨m, rfl⟩ : ∃ m', m = m' + 1 := ⟨m - 1, by omega⟩
    obtain rfl : i = 24 := by omega
    rw [spec_CountWithCounts.l13_eq, List.drop_of_length_le (by rw [h24]; exact Nat.le_refl _)]
    rfl
  | succ q ih =>
    intro i m s hi hm
    obtain ⟨m, rfl⟩ : ∃ m', m = m' + 1 := ⟨m - 1, by omega⟩
    have hlt : i < l.length := by rw [h24]; omega
    have h1 : (i : Int) < 24 := by omega
    have hs := h6 _ (List.getElem_mem hlt)
    have hl6 : len6 (cyc l[i]) = true := by unfold len6; rw [decide_eq_true_eq]; exact cyc_len _
    have hcl : (cyc l[i]).length ≤ LIM := Nat.le_trans (cyc_len _) (by decide)
    have hcp := cyc_pos l[i]
    rw [spec_CountWithCounts.l13_eq, List.drop_eq_getElem_cons hlt, withSum_cons]
    simp only [h1, Cod.encs_len, Int.ofNat_lt, hlt, decide_true, cond_true, Int.natCast_nonneg, Int.toNat_natCast, dieC_t' hlt, dieC_n' hlt, dieC_e' hlt, dieC_s' hlt, dieC_w' hlt, dieC_b' hlt, Option.bind_some, Die.eta, hs, Cod.decs_encs hcl, Cod.decs_encs hc, hl6, hcp, hc0, wrap_succ (show i ≤ LIM by unfold LIM; omega)]
    exact ih (i + 1) m _ (by omega) (by omega)
theorem spec_CountWithCounts.l5_run {n : Nat} {c : List Int} (hc : c.length ≤ LIM) : ∀ (d i m : Nat) (s : Int), i + d = c.length → d < m →
    spec_CountWithCounts.l5 n m (intC.encs c) s (intC.encs c) c.length i = bif (total s (c.drop i) != 6) then some [Q.one (.int .i64 0), Q.one (.bool false)] else spec_CountWithCounts.l13 n n (intC.encs c) 0 24 0 (dieC.encs (Sp.ways Sp.unitD)) := by
  intro d
  induction d with
  | zero =>
    intro i m s hi hm
    obtain ⟨m, rfl⟩ : ∃ m', m = m' + 1 := ⟨m - 1, by omega⟩
    have h1 : ¬ (i : Int) < c.length := by omega
    rw [spec_CountWithCounts.l5_eq, List.drop_of_length_le (by omega)]
    simp only [h1, decide_false, cond_false, Die.eta]
    rw [show total s [] = s from rfl]
  | succ d ih =>
    intro i m s hi hm
    obtain ⟨m, rfl⟩ : ∃ m', m = m' + 1 := ⟨m - 1, by omega⟩
    have hlt : i < c.length := by omega
    rw [spec_CountWithCounts.l5_eq, List.drop_eq_getElem_cons hlt, total_cons]
    simp only [Cod.encs_len, Int.ofNat_lt, hlt, decide_true, cond_true, Int.natCast_nonneg, Int.toNat_natCast, intC_int' hlt, Option.bind_some, wrap_succ (show i ≤ LIM by omega)]
    exact ih (i + 1) m _ (by omega) (by omega)
theorem bad_ok {c : List Int} (h : okC c = false) : some [Q.one (.int .i64 0), Q.one (.bool false)] = some [Q.one (D.int .i64 (Sp.withC c)), Q.one (D.bool (Sp.okC c))] := by rw [withC_false h, h]
theorem pos_of_total {c : List Int} (h : total 0 c = 6) : 0 < c.length := by
  cases c with
  | nil => cases h
  | cons x c => simp
theorem spec_CountWithCounts.fin {c : List Int} (hc : c.length ≤ LIM) : spec_CountWithCounts.res (c.length + 30) (intC.encs c) = some [Q.one (.int .i64 (Sp.withC c)), Q.one (.bool (Sp.okC c))] := by
  unfold spec_CountWithCounts.res
  rw [Cod.encs_len, Cod.decs_encs hc, Option.bind_some]
  by_cases h9 : c.length ≤ 9
  · have h9' : ¬ ((c.length : Nat) : Int) > 9 := by omega
    rw [decide_eq_false h9', cond_false]
    cases ha : allR c 0 6 with
    | false =>
      rw [Bool.not_false, cond_true]
      exact bad_ok (by unfold okC; rw [show c.all (fun x => inR x 0 6) = false from ha]; simp)
    | true =>
      rw [Bool.not_true, cond_false, show (0 : Int) = ((0 : Nat) : Int) from rfl]
      have := spec_CountWithCounts.l5_run (n := c.length + 30) hc c.length 0 (c.length + 30) 0 (by omega) (by omega)
      rw [List.drop_zero] at this
      refine Eq.trans this ?_
      by_cases ht : total 0 c = 6
      · have hok : okC c = true := by unfold okC; rw [show c.all (fun x => inR x 0 6) = true from ha]; simp [h9, ht]
        have k := spec_CountWithCounts.l13_run (n := c.length + 30) (c := c) ways_unit_len (fun d hd => (six_ways hd).1) hc (pos_of_total ht) 24 0 (c.length + 30) 0 (by omega) (by omega)
        rw [List.drop_zero] at k
        rw [ht, bne_self_eq_false, cond_false, withC_true hok, hok]
        exact k
      · have hok : okC c = false := by unfold okC; simp [ht]
        have hb : (total 0 c != 6) = true := by rw [ine]; simp [ht]
        rw [hb, cond_true]
        exact bad_ok hok
  · have h9' : ((c.length : Nat) : Int) > 9 := by omega
    rw [decide_eq_true h9', cond_true]
    exact bad_ok (by unfold okC; simp [h9])
def spec_CountWithCounts.stub : Stub
  | [.one (.sl 1 es)] => .any (intC.decs es) fun c => .ret [.one (.int .i64 (Sp.withC c)), .one (.bool (Sp.okC c))]
  | _ => .fail
theorem spec_CountWithCounts.ok : StubOk Try.prog C0 4 spec_CountWithCounts.stub := by
  intro args res h
  unfold spec_CountWithCounts.stub at h
  split at h
  · obtain ⟨c, h1, h0⟩ := any_out h
    obtain ⟨rfl, hc⟩ := Cod.decs_inv h1
    cases h0
    refine spec_CountWithCounts.ev (n := c.length + 30) ?_
    exact spec_CountWithCounts.fin hc
  · cases h
/-! impl_CountWithCounts -/
noncomputable def impl_CountWithCounts.cfg : Cfg := { C0 with keep := fun | 3 => some [0, 4, 10, 11, 12] | 13 => some [0, 7, 31, 32, 33] | _ => none, nb := 0, M := tabM [(13, impl_in.stub), (14, impl_plain.stub), (15, impl_Die_ways.stub), (17, impl_cycles.stub), (18, slices_Clone_Sint_int.stub)], MM := tabB [(16, kpw.stub)] }
noncomputable def impl_CountWithCounts.l3 (n : Nat) (m3 : Nat) (l0 : List (List D)) (i1 : Int) (l2 : List (List D)) (i3 : Int) (i4 : Int) : Option (List Q) :=
  loopAt impl_CountWithCounts.cfg [RK.one (LK.int IntKind.i64), RK.one LK.bool] n Try.f6 [1, 1, 0, 1, 0] [] m3 (St.mk [V.one false (D.sl (1 : Nat) l0), V.undef, V.undef, V.undef, V.one true (D.int IntKind.i64 i1), V.undef, V.undef, V.undef, V.undef, V.undef, V.one false (D.sl (1 : Nat) l2), V.one true (D.int IntKind.i64 i3), V.one true (D.int IntKind.i64 i4), V.undef, V.undef, V.undef, V.undef, V.undef, V.undef, V.undef, V.undef, V.undef, V.undef, V.undef, V.undef, V.undef, V.undef, V.undef, V.undef, V.undef, V.undef, V.undef, V.undef, V.undef, V.undef, V.undef, V.undef, V.undef, V.undef, V.undef, V.undef, V.undef, V.undef, V.undef, V.undef, V.undef, V.undef] [])
noncomputable def impl_CountWithCounts.l13 (n : Nat) (m13 : Nat) (l0 : List (List D)) (i1 : Int) (i2 : Int) (i3 : Int) (l4 : List (List D)) : Option (List Q) :=
  loopAt impl_CountWithCounts.cfg [RK.one (LK.int IntKind.i64), RK.one LK.bool] n Try.f6 [1, 1, 1, 1, 1, 0, 1, 0] [] m13 (St.mk [V.one false (D.sl (1 : Nat) l0), V.undef, V.undef, V.undef, V.undef, V.undef, V.undef, V.one true (D.int IntKind.i64 i1), V.undef, V.undef, V.undef, V.undef, V.undef, V.undef, V.undef, V.undef, V.undef, V.undef, V.undef, V.undef, V.undef, V.undef, V.undef, V.undef, V.undef, V.undef, V.undef, V.undef, V.undef, V.undef, V.undef, V.rw (0 : Nat), V.one true (D.int IntKind.i64 i2), V.one true (D.int IntKind.i64 i3), V.undef, V.undef, V.undef, V.undef, V.undef, V.undef, V.undef, V.undef, V.undef, V.undef, V.undef, V.undef, V.undef] [Ob.row false (6 : Nat) l4])
theorem impl_CountWithCounts.l3_eq (n : Nat) (m3 : Nat) (l0 : List (List D)) (i1 : Int) (l2 : List (List D)) (i3 : Int) (i4 : Int) :
    impl_CountWithCounts.l3 n (m3 + 1) l0 i1 l2 i3 i4 = bif decide (i4 < i3) then bif decide ((0 : Int) ≤ i4) then bif decide (i4 < (↑(List.length l2) : Int)) then Option.bind (Option.bind (some (cellD l2 (Int.toNat i4) (0 : Nat))) (D.int? IntKind.i64)) fun (i1_1 : Int) => bif !inR i1_1 (0 : Int) (6 : Int) then some [Q.one (D.int IntKind.i64 (0 : Int)), Q.one (D.bool false)] else impl_CountWithCounts.l3 n m3 l0 (IntKind.wrap IntKind.i64 (i1 + i1_1)) l2 i3 (IntKind.wrap IntKind.i64 (i4 + (1 : Int))) else none else none else bif decide ((↑(List.length l0) : Int) > (9 : Int)) then some [Q.one (D.int IntKind.i64 (0 : Int)), Q.one (D.bool false)] else bif i1 != (6 : Int) then some [Q.one (D.int IntKind.i64 (0 : Int)), Q.one (D.bool false)] else impl_CountWithCounts.l13 n n l0 (0 : Int) (24 : Int) (0 : Int) (Cod.encs dieC (Sp.ways (Die.mk (Die.t unitD) (Die.n unitD) (Die.e unitD) (Die.s unitD) (Die.w unitD) (Die.b unitD)))) := by kernel_rfl
theorem impl_CountWithCounts.l13_eq (n : Nat) (m13 : Nat) (l0 : List (List D)) (i1 : Int) (i2 : Int) (i3 : Int) (l4 : List (List D)) :
    impl_CountWithCounts.l13 n (m13 + 1) l0 i1 i2 i3 l4 = bif decide (i3 < i2) then bif decide ((0 : Int) ≤ i3) then bif decide (i3 < (↑(List.length l4) : Int)) then Option.bind (Option.bind (some (cellD l4 (Int.toNat i3) (0 : Nat))) (D.int? IntKind.i64)) fun (i2_1 : Int) => Option.bind (Option.bind (some (cellD l4 (Int.toNat i3) (1 : Nat))) (D.int? IntKind.i64)) fun (i3_1 : Int) => Option.bind (Option.bind (some (cellD l4 (Int.toNat i3) (2 : Nat))) (D.int? IntKind.i64)) fun (i4 : Int) => Option.bind (Option.bind (some (cellD l4 (Int.toNat i3) (3 : Nat))) (D.int? IntKind.i64)) fun (i5 : Int) => Option.bind (Option.bind (some (cellD l4 (Int.toNat i3) (4 : Nat))) (D.int? IntKind.i64)) fun (i6 : Int) => Option.bind (Option.bind (some (cellD l4 (Int.toNat i3) (5 : Nat))) (D.int? IntKind.i64)) fun (i7 : Int) => bif six (Die.mk i2_1 i3_1 i4 i5 i6 i7) then Option.bind (Cod.decs intC l0) fun (l8 : List Int) => bif decide ((0 : Nat) < List.length l8) then Option.bind (Cod.decs intC (Cod.encs intC (cyc (Die.mk i2_1 i3_1 i4 i5 i6 i7)))) fun (l9 : List Int) => Option.bind (Cod.decs intC (Cod.encs intC l8)) fun (l10 : List Int) => bif len6 l9 then bif decide ((0 : Nat) < List.length l9) then impl_CountWithCounts.l13 n m13 l0 (IntKind.wrap IntKind.i64 (i1 + keptC l9 l10)) i2 (IntKind.wrap IntKind.i64 (i3 + (1 : Int))) l4 else none else none else none else none else none else none else some [Q.one (D.int IntKind.i64 (IntKind.wrap IntKind.i64 (Int.tdiv i1 (24 : Int)))), Q.one (D.bool true)] := by kernel_rfl
noncomputable def impl_CountWithCounts.res (n : Nat) (a0 : List (List D)) : Option (List Q) :=
  impl_CountWithCounts.l3 n n a0 (0 : Int) a0 (↑(List.length a0) : Int) (0 : Int)
theorem impl_CountWithCounts.run (n : Nat) (a0 : List (List D)) :
    run1 impl_CountWithCounts.cfg [RK.one (LK.int IntKind.i64), RK.one LK.bool] n Try.f6 [Q.one (D.sl (1 : Nat) a0)] = impl_CountWithCounts.res n a0 := by kernel_rfl
theorem impl_CountWithCounts.ev {n : Nat} {a0 : List (List D)} {r : List Q} (h : impl_CountWithCounts.res n a0 = some r) : Snd Try.prog C0 6 [.one (.sl 1 a0)] r :=
  snd_ev (C := impl_CountWithCounts.cfg) cfg0 mix rfl rfl rfl rfl rfl (.cons impl_in.ok (.cons impl_plain.ok (.cons impl_Die_ways.ok (.cons impl_cycles.ok (.cons slices_Clone_Sint_int.ok .nil))))) (.cons kpw.ok .nil) rfl Try.func6 (by kernel_rfl) (by kernel_rfl) rfl ((impl_CountWithCounts.run n a0).trans h)

theorem impl_CountWithCounts.l13_run {n : Nat} {c : List Int} {l : List Die} (h24 : l.length = 24) (h6 : ∀ d ∈ l, six d = true) (hc : c.length ≤ LIM) (hc0 : 0 < c.length) : ∀ (q i m : Nat) (s : Int), i + q = 24 → q < m →
    impl_CountWithCounts.l13 n m (intC.encs c) s 24 i (dieC.encs l) = some [Q.one (.int .i64 (withEnd (withSum c s (l.drop i)))), Q.one (.bool true)] := by
  intro q
  induction q with
  | zero =>
    intro i m s hi hm
    obtain ⟨m, rfl⟩ : ∃ m', m = m' + 1 := ⟨m - 1, by omega⟩
    obtain rfl : i = 24 := by omega
    rw [impl_CountWithCounts.l13_eq, List.drop_of_length_le (by rw [h24]; exact Nat.le_refl _)]
    rfl
  | succ q ih =>
    intro i m s hi hm
    obtain ⟨m, rfl⟩ : ∃ m', m = m' + 1 := ⟨m - 1, by omega⟩
    have hlt : i < l.length := by rw [h24]; omega
    have h1 : (i : Int) < 24 := by omega
    have hs := h6 _ (List.getElem_mem hlt)
    have hl6 : len6 (cyc l[i]) = true := by unfold len6; rw [decide_eq_true_eq]; exact cyc_len _
    have hcl : (cyc l[i]).length ≤ LIM := Nat.le_trans (cyc_len _) (by decide)
    have hcp := cyc_pos l[i]
    rw [impl_CountWithCounts.l13_eq, List.drop_eq_getElem_cons hlt, withSum_cons]
    simp only [h1, Cod.encs_len, Int.ofNat_lt, hlt, decide_true, cond_true, Int.natCast_nonneg, Int.toNat_natCast, dieC_t' hlt, dieC_n' hlt, dieC_e' hlt, dieC_s' hlt, dieC_w' hlt, dieC_b' hlt, Option.bind_some, Die.eta, hs, Cod.decs_encs hcl, Cod.decs_encs hc, hl6, hcp, hc0, wrap_succ (show i ≤ LIM by unfold LIM; omega)]
    exact ih (i + 1) m _ (by omega) (by omega)
theorem impl_CountWithCounts.l3_run {n : Nat} {c : List Int} (hc : c.length ≤ LIM) : ∀ (d i m : Nat) (s : Int), i + d = c.length → d < m →
    impl_CountWithCounts.l3 n m (intC.encs c) s (intC.encs c) c.length i = bif !(c.drop i).all (fun x => inR x 0 6) then some [Q.one (.int .i64 0), Q.one (.bool false)] else bif decide (((c.length : Nat) : Int) > 9) then some [Q.one (.int .i64 0), Q.one (.bool false)] else bif (total s (c.drop i) != 6) then some [Q.one (.int .i64 0), Q.one (.bool false)] else impl_CountWithCounts.l13 n n (intC.encs c) 0 24 0 (dieC.encs (Sp.ways Sp.unitD)) := by
  intro d
  induction d with
  | zero =>
    intro i m s hi hm
    obtain ⟨m, rfl⟩ : ∃ m', m = m' + 1 := ⟨m - 1, by omega⟩
    have h1 : ¬ (i : Int) < c.length := by omega
    rw [impl_CountWithCounts.l3_eq, List.drop_of_length_le (by omega)]
    simp only [h1, decide_false, cond_false, Die.eta, Cod.encs_len, List.all_nil, Bool.not_true]
    rw [show total s [] = s from rfl]
  | succ d ih =>
    intro i m s hi hm
    obtain ⟨m, rfl⟩ : ∃ m', m = m' + 1 := ⟨m - 1, by omega⟩
    have hlt : i < c.length := by omega
    rw [impl_CountWithCounts.l3_eq, List.drop_eq_getElem_cons hlt, total_cons, List.all_cons]
    simp only [Cod.encs_len, Int.ofNat_lt, hlt, decide_true, cond_true, Int.natCast_nonneg, Int.toNat_natCast, intC_int' hlt, Option.bind_some, wrap_succ (show i ≤ LIM by omega)]
    cases inR c[i] 0 6 with
    | false => rfl
    | true =>
      simp only [Bool.not_true, cond_false, Bool.true_and]
      exact ih (i + 1) m _ (by omega) (by omega)
theorem impl_CountWithCounts.fin {c : List Int} (hc : c.length ≤ LIM) : impl_CountWithCounts.res (c.length + 30) (intC.encs c) = some [Q.one (.int .i64 (Sp.withC c)), Q.one (.bool (Sp.okC c))] := by
  unfold impl_CountWithCounts.res
  rw [Cod.encs_len]
  have := impl_CountWithCounts.l3_run (n := c.length + 30) hc c.length 0 (c.length + 30) 0 (by omega) (by omega)
  rw [List.drop_zero] at this
  refine Eq.trans this ?_
  cases ha : c.all (fun x => inR x 0 6) with
  | false =>
    rw [Bool.not_false, cond_true]
    exact bad_ok (by unfold okC; rw [ha]; simp)
  | true =>
    rw [Bool.not_true, cond_false]
    by_cases h9 : c.length ≤ 9
    · have h9' : ¬ ((c.length : Nat) : Int) > 9 := by omega
      rw [decide_eq_false h9', cond_false]
      by_cases ht : total 0 c = 6
      · have hok : okC c = true := by unfold okC; rw [ha]; simp [h9, ht]
        have k := impl_CountWithCounts.l13_run (n := c.length + 30) (c := c) ways_unit_len (fun d hd => (six_ways hd).1) hc (pos_of_total ht) 24 0 (c.length + 30) 0 (by omega) (by omega)
        rw [List.drop_zero] at k
        rw [ht, bne_self_eq_false, cond_false, withC_true hok, hok]
        exact k
      · have hok : okC c = false := by unfold okC; simp [ht]
        have hb : (total 0 c != 6) = true := by rw [ine]; simp [ht]
        rw [hb, cond_true]
        exact bad_ok hok
    · have h9' : ((c.length : Nat) : Int) > 9 := by omega
      rw [decide_eq_true h9', cond_true]
      exact bad_ok (by unfold okC; simp [h9])
def impl_CountWithCounts.stub : Stub
  | [.one (.sl 1 es)] => .any (intC.decs es) fun c => .ret [.one (.int .i64 (Sp.withC c)), .one (.bool (Sp.okC c))]
  | _ => .fail
theorem impl_CountWithCounts.ok : StubOk Try.prog C0 6 impl_CountWithCounts.stub := by
  intro args res h
  unfold impl_CountWithCounts.stub at h
  split at h
  · obtain ⟨c, h1, h0⟩ := any_out h
    obtain ⟨rfl, hc⟩ := Cod.decs_inv h1
    cases h0
    refine impl_CountWithCounts.ev (n := c.length + 30) ?_
    exact impl_CountWithCounts.fin hc
  · cases h
/-! laws_FnExactCountWithCounts -/
noncomputable def laws_FnExactCountWithCounts.cfg : Cfg := { C0 with keep := fun _ => none, nb := 0, M := tabM [(4, spec_CountWithCounts.stub), (6, impl_CountWithCounts.stub), (5, laws_toIntS.stub), (7, laws_eqIntS.stub)], MM := tabB [] }
noncomputable def laws_FnExactCountWithCounts.res (n : Nat) (a0 : List (List D)) : Option (List Q) :=
  bif decide ((↑(List.length a0) : Int) > (1048576 : Int)) then some [Q.one (D.bool true)] else Option.bind (Cod.decs intC a0) fun (l1 : List Int) => Option.bind (Cod.decs intC (Cod.encs intC l1)) fun (l2 : List Int) => Option.bind (Cod.decs intC a0) fun (l3 : List Int) => Option.bind (Cod.decs intC (Cod.encs intC l3)) fun (l4 : List Int) => bif withC l4 != withC l2 then some [Q.one (D.bool false)] else bif !okC l4 == okC l2 then some [Q.one (D.bool false)] else Option.bind (Cod.decs intC a0) fun (l5 : List Int) => Option.bind (Cod.decs intC (Cod.encs intC l3)) fun (l6 : List Int) => Option.bind (Cod.decs intC (Cod.encs intC l5)) fun (l7 : List Int) => bif !decide (l6 = l7) then some [Q.one (D.bool false)] else some [Q.one (D.bool true)]
theorem laws_FnExactCountWithCounts.run (n : Nat) (a0 : List (List D)) :
    run1 laws_FnExactCountWithCounts.cfg [RK.one LK.bool] n Try.f3 [Q.one (D.sl (1 : Nat) a0)] = laws_FnExactCountWithCounts.res n a0 := by kernel_rfl
theorem laws_FnExactCountWithCounts.ev {n : Nat} {a0 : List (List D)} {r : List Q} (h : laws_FnExactCountWithCounts.res n a0 = some r) : Snd Try.prog C0 3 [.one (.sl 1 a0)] r :=
  snd_ev (C := laws_FnExactCountWithCounts.cfg) cfg0 mix rfl rfl rfl rfl rfl (.cons spec_CountWithCounts.ok (.cons impl_CountWithCounts.ok (.cons laws_toIntS.ok (.cons laws_eqIntS.ok .nil)))) .nil rfl Try.func3 (by kernel_rfl) (by kernel_rfl) rfl ((laws_FnExactCountWithCounts.run n a0).trans h)

theorem laws_FnExactCountWithCounts.law (c : List Int) (hb : c.length ≤ 9223372036854775807) : Snd Try.prog C0 3 [.one (.sl 1 (intC.encs c))] [.one (.bool true)] := by
  refine laws_FnExactCountWithCounts.ev (n := 0) ?_
  unfold laws_FnExactCountWithCounts.res
  rw [Cod.encs_len]
  by_cases h : ((c.length : Nat) : Int) > 1048576
  · rw [decide_eq_true h, cond_true]
  · have hc : c.length ≤ LIM := by unfold LIM; omega
    rw [decide_eq_false h, cond_false]
    simp only [Cod.decs_encs hc, Option.bind_some, bne_self_eq_false, cond_false, decide_true, Bool.not_true]
    cases okC c <;> rfl
end Go.Proofs.EV.PL
