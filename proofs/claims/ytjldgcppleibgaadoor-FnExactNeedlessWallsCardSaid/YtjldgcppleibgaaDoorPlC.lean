import Derived.Test.YtjldgcppleibgaaDoorPlB
set_option linter.unusedVariables false
set_option linter.unusedSimpArgs false
set_option maxHeartbeats 4000000
/-! The hardest goals. -/
namespace Go.Proofs.EV.PL
open Go Go.Proofs Go.Proofs.EV Sp
/-! cmp_isNaN_int -/
noncomputable def cmp_isNaN_int.cfg : Cfg := { C0 with keep := fun _ => none, nb := 0, M := tabM [], MM := tabB [] }
noncomputable def cmp_isNaN_int.res (n : Nat) (a0 : Int) : Option (List Q) :=
  some [Q.one (D.bool (a0 != a0))]
theorem cmp_isNaN_int.run (n : Nat) (a0 : Int) :
    run1 cmp_isNaN_int.cfg [RK.one LK.bool] n Tryd.f118 [Q.one (D.int IntKind.i64 a0)] = cmp_isNaN_int.res n a0 := by kernel_rfl
theorem cmp_isNaN_int.ev {n : Nat} {a0 : Int} {r : List Q} (h : cmp_isNaN_int.res n a0 = some r) : Snd Tryd.prog C0 118 [.one (.int .i64 a0)] r :=
  snd_ev (C := cmp_isNaN_int.cfg) cfg0 mix rfl rfl rfl rfl rfl .nil .nil rfl Tryd.func118 (by kernel_rfl) (by kernel_rfl) rfl ((cmp_isNaN_int.run n a0).trans h)

def cmp_isNaN_int.stub : Stub
  | [.one (.int .i64 _)] => .ret [.one (.bool false)]
  | _ => .fail
theorem cmp_isNaN_int.ok : StubOk Tryd.prog C0 118 cmp_isNaN_int.stub := by
  intro args res h
  unfold cmp_isNaN_int.stub at h
  split at h
  · cases h
    refine cmp_isNaN_int.ev (n := 0) ?_
    simp [cmp_isNaN_int.res]
  · cases h
/-! cmp_Compare_int -/
noncomputable def cmp_Compare_int.cfg : Cfg := { C0 with keep := fun _ => none, nb := 0, M := tabM [(118, cmp_isNaN_int.stub)], MM := tabB [] }
noncomputable def cmp_Compare_int.res (n : Nat) (a0 : Int) (a1 : Int) : Option (List Q) :=
  bif decide (a0 < a1) then some [Q.one (D.int IntKind.i64 (-1 : Int))] else bif decide (a0 > a1) then some [Q.one (D.int IntKind.i64 (1 : Int))] else some [Q.one (D.int IntKind.i64 (0 : Int))]
theorem cmp_Compare_int.run (n : Nat) (a0 : Int) (a1 : Int) :
    run1 cmp_Compare_int.cfg [RK.one (LK.int IntKind.i64)] n Tryd.f104 [Q.one (D.int IntKind.i64 a0), Q.one (D.int IntKind.i64 a1)] = cmp_Compare_int.res n a0 a1 := by kernel_rfl
theorem cmp_Compare_int.ev {n : Nat} {a0 : Int} {a1 : Int} {r : List Q} (h : cmp_Compare_int.res n a0 a1 = some r) : Snd Tryd.prog C0 104 [.one (.int .i64 a0), .one (.int .i64 a1)] r :=
  snd_ev (C := cmp_Compare_int.cfg) cfg0 mix rfl rfl rfl rfl rfl (.cons cmp_isNaN_int.ok .nil) .nil rfl Tryd.func104 (by kernel_rfl) (by kernel_rfl) rfl ((cmp_Compare_int.run n a0 a1).trans h)

def cmp_Compare_int.stub : Stub
  | [.one (.int .i64 a), .one (.int .i64 b)] => .ret [.one (.int .i64 (Sp.cmpI a b))]
  | _ => .fail
theorem cmp_Compare_int.ok : StubOk Tryd.prog C0 104 cmp_Compare_int.stub := by
  intro args res h
  unfold cmp_Compare_int.stub at h
  split at h
  · rename_i a b
    cases h
    refine cmp_Compare_int.ev (n := 0) ?_
    unfold cmp_Compare_int.res Sp.cmpI
    cases decide (a < b) <;> cases decide (a > b) <;> rfl
  · cases h
/-! slices_Compare_Sint_int -/
noncomputable def slices_Compare_Sint_int.cfg : Cfg := { C0 with keep := fun | 2 => some [0, 1, 9, 10, 11] | _ => none, nb := 0, M := tabM [(104, cmp_Compare_int.stub)], MM := tabB [] }
noncomputable def slices_Compare_Sint_int.l2 (n : Nat) (m2 : Nat) (l0 : List (List D)) (l1 : List (List D)) (l2 : List (List D)) (i3 : Int) (i4 : Int) : Option (List Q) :=
  loopAt slices_Compare_Sint_int.cfg [RK.one (LK.int IntKind.i64)] n Tryd.f82 [1, 0, 1, 0] [] m2 (St.mk [V.one false (D.sl (1 : Nat) l0), V.one false (D.sl (1 : Nat) l1), V.undef, V.undef, V.undef, V.undef, V.undef, V.undef, V.undef, V.one false (D.sl (1 : Nat) l2), V.one true (D.int IntKind.i64 i3), V.one true (D.int IntKind.i64 i4), V.undef, V.undef, V.undef, V.undef, V.undef, V.undef, V.undef, V.undef, V.undef, V.undef, V.undef, V.undef, V.undef, V.undef, V.undef, V.undef, V.undef, V.undef, V.undef, V.undef, V.undef, V.undef, V.undef, V.undef] [])
theorem slices_Compare_Sint_int.l2_eq (n : Nat) (m2 : Nat) (l0 : List (List D)) (l1 : List (List D)) (l2 : List (List D)) (i3 : Int) (i4 : Int) :
    slices_Compare_Sint_int.l2 n (m2 + 1) l0 l1 l2 i3 i4 = bif decide (i4 < i3) then bif decide ((0 : Int) ≤ i4) then bif decide (i4 < (↑(List.length l2) : Int)) then Option.bind (Option.bind (some (cellD l2 (Int.toNat i4) (0 : Nat))) (D.int? IntKind.i64)) fun (i1 : Int) => bif decide (i4 ≥ (↑(List.length l1) : Int)) then some [Q.one (D.int IntKind.i64 (1 : Int))] else bif decide ((0 : Int) ≤ i4) then bif decide (i4 < (↑(List.length l1) : Int)) then Option.bind (Option.bind (some (cellD l1 (Int.toNat i4) (0 : Nat))) (D.int? IntKind.i64)) fun (i2 : Int) => bif cmpI i1 i2 != (0 : Int) then some [Q.one (D.int IntKind.i64 (cmpI i1 i2))] else slices_Compare_Sint_int.l2 n m2 l0 l1 l2 i3 (IntKind.wrap IntKind.i64 (i4 + (1 : Int))) else none else none else none else none else bif decide ((↑(List.length l0) : Int) < (↑(List.length l1) : Int)) then some [Q.one (D.int IntKind.i64 (-1 : Int))] else some [Q.one (D.int IntKind.i64 (0 : Int))] := by kernel_rfl
noncomputable def slices_Compare_Sint_int.res (n : Nat) (a0 : List (List D)) (a1 : List (List D)) : Option (List Q) :=
  slices_Compare_Sint_int.l2 n n a0 a1 a0 (↑(List.length a0) : Int) (0 : Int)
theorem slices_Compare_Sint_int.run (n : Nat) (a0 : List (List D)) (a1 : List (List D)) :
    run1 slices_Compare_Sint_int.cfg [RK.one (LK.int IntKind.i64)] n Tryd.f82 [Q.one (D.sl (1 : Nat) a0), Q.one (D.sl (1 : Nat) a1)] = slices_Compare_Sint_int.res n a0 a1 := by kernel_rfl
theorem slices_Compare_Sint_int.ev {n : Nat} {a0 : List (List D)} {a1 : List (List D)} {r : List Q} (h : slices_Compare_Sint_int.res n a0 a1 = some r) : Snd Tryd.prog C0 82 [.one (.sl 1 a0), .one (.sl 1 a1)] r :=
  snd_ev (C := slices_Compare_Sint_int.cfg) cfg0 mix rfl rfl rfl rfl rfl (.cons cmp_Compare_int.ok .nil) .nil rfl Tryd.func82 (by kernel_rfl) (by kernel_rfl) rfl ((slices_Compare_Sint_int.run n a0 a1).trans h)

theorem slices_Compare_Sint_int.loop {n : Nat} {a b : List Int} (hl : a.length ≤ LIM) (he : a.length = b.length) : ∀ (d k m : Nat), k + d = a.length → d < m → slices_Compare_Sint_int.l2 n m (intC.encs a) (intC.encs b) (intC.encs a) a.length k = some [Q.one (.int .i64 (cmpL (a.drop k) (b.drop k)))] := by
  intro d
  induction d with
  | zero =>
    intro k m hk hm
    obtain ⟨m, rfl⟩ : ∃ m', m = m' + 1 := ⟨m - 1, by omega⟩
    obtain rfl : k = a.length := by omega
    rw [List.drop_of_length_le (Nat.le_refl _), List.drop_of_length_le (l := b) (by omega)]
    simp [slices_Compare_Sint_int.l2_eq, he, cmpL]
  | succ d ih =>
    intro k m hk hm
    obtain ⟨m, rfl⟩ : ∃ m', m = m' + 1 := ⟨m - 1, by omega⟩
    have hlt : k < a.length := by omega
    have hlt' : k < b.length := by omega
    have hge : ¬ (k : Int) ≥ b.length := by omega
    rw [slices_Compare_Sint_int.l2_eq, List.drop_eq_getElem_cons hlt, List.drop_eq_getElem_cons hlt', cmpL]
    simp only [Cod.encs_len, Int.ofNat_lt, hlt, hlt', hge, decide_true, decide_false, cond_true, cond_false, Int.natCast_nonneg, Int.toNat_natCast, intC_int' hlt, intC_int' hlt', Option.bind_some, wrap_succ (show k ≤ LIM by omega), ih (k + 1) m (by omega) (by omega), ine]
    by_cases h : cmpI a[k] b[k] = 0 <;> simp only [h, decide_true, decide_false, Bool.not_true, Bool.not_false, cond_true, cond_false]
theorem cmpL_3 (a b c a' b' c' : Int) : cmpL [a, b, c] [a', b', c'] = cmp3 a b c a' b' c' := by
  unfold cmp3
  simp only [cmpL, cmpI]
  by_cases h1 : a = a'
  · subst h1
    by_cases h2 : b = b'
    · subst h2
      by_cases h3 : c = c'
      · subst h3
        simp
      · by_cases h4 : c < c'
        · simp [h4]
        · have h5 : c' < c := by omega
          simp [h3, h4, h5]
    · by_cases h4 : b < b'
      · simp [h2, h4]
      · have h5 : b' < b := by omega
        simp [h2, h4, h5]
  · by_cases h4 : a < a'
    · simp [h1, h4]
    · have h5 : a' < a := by omega
      simp [h1, h4, h5]
def slices_Compare_Sint_int.stub : Stub
  | [.one (.sl 1 [[.int .i64 a], [.int .i64 b], [.int .i64 c]]), .one (.sl 1 [[.int .i64 a'], [.int .i64 b'], [.int .i64 c']])] => .ret [.one (.int .i64 (Sp.cmp3 a b c a' b' c'))]
  | _ => .fail
theorem slices_Compare_Sint_int.ok : StubOk Tryd.prog C0 82 slices_Compare_Sint_int.stub := by
  intro args res h
  unfold slices_Compare_Sint_int.stub at h
  split at h
  · rename_i a b c a' b' c'
    cases h
    refine slices_Compare_Sint_int.ev (n := 10) ?_
    unfold slices_Compare_Sint_int.res
    have key := slices_Compare_Sint_int.loop (n := 10) (a := [a, b, c]) (b := [a', b', c']) (by simp [LIM]) rfl 3 0 10 rfl (by omega)
    rw [List.drop_zero, List.drop_zero, cmpL_3] at key
    exact key
  · cases h
/-! spec_l1Same -/
noncomputable def spec_l1Same.cfg : Cfg := { C0 with keep := fun | 4 => some [0, 1, 12, 13] | _ => none, nb := 0, M := tabM [], MM := tabB [] }
noncomputable def spec_l1Same.l4 (n : Nat) (m4 : Nat) (l0 : List (List D)) (l1 : List (List D)) (i2 : Int) (i3 : Int) : Option (List Q) :=
  loopAt spec_l1Same.cfg [RK.one LK.bool] n Tryd.f79 [1, 1, 0, 1, 0] [] m4 (St.mk [V.one false (D.sl (1 : Nat) l0), V.one false (D.sl (1 : Nat) l1), V.undef, V.undef, V.undef, V.undef, V.undef, V.undef, V.undef, V.undef, V.undef, V.undef, V.one true (D.int IntKind.i64 i2), V.one true (D.int IntKind.i64 i3), V.undef, V.undef, V.undef, V.undef, V.undef, V.undef, V.undef, V.undef, V.undef, V.undef, V.undef, V.undef] [])
theorem spec_l1Same.l4_eq (n : Nat) (m4 : Nat) (l0 : List (List D)) (l1 : List (List D)) (i2 : Int) (i3 : Int) :
    spec_l1Same.l4 n (m4 + 1) l0 l1 i2 i3 = bif decide (i3 < i2) then bif decide ((0 : Int) ≤ i3) then bif decide (i3 < (↑(List.length l0) : Int)) then Option.bind (Option.bind (some (cellD l0 (Int.toNat i3) (0 : Nat))) (D.int? IntKind.i64)) fun (i1 : Int) => bif decide ((0 : Int) ≤ i3) then bif decide (i3 < (↑(List.length l1) : Int)) then Option.bind (Option.bind (some (cellD l1 (Int.toNat i3) (0 : Nat))) (D.int? IntKind.i64)) fun (i2_1 : Int) => bif i1 != i2_1 then some [Q.one (D.bool false)] else spec_l1Same.l4 n m4 l0 l1 i2 (IntKind.wrap IntKind.i64 (i3 + (1 : Int))) else none else none else none else none else some [Q.one (D.bool true)] := by kernel_rfl
noncomputable def spec_l1Same.res (n : Nat) (a0 : List (List D)) (a1 : List (List D)) : Option (List Q) :=
  bif (↑(List.length a0) : Int) != (↑(List.length a1) : Int) then some [Q.one (D.bool false)] else spec_l1Same.l4 n n a0 a1 (↑(List.length a0) : Int) (0 : Int)
theorem spec_l1Same.run (n : Nat) (a0 : List (List D)) (a1 : List (List D)) :
    run1 spec_l1Same.cfg [RK.one LK.bool] n Tryd.f79 [Q.one (D.sl (1 : Nat) a0), Q.one (D.sl (1 : Nat) a1)] = spec_l1Same.res n a0 a1 := by kernel_rfl
theorem spec_l1Same.ev {n : Nat} {a0 : List (List D)} {a1 : List (List D)} {r : List Q} (h : spec_l1Same.res n a0 a1 = some r) : Snd Tryd.prog C0 79 [.one (.sl 1 a0), .one (.sl 1 a1)] r :=
  snd_ev (C := spec_l1Same.cfg) cfg0 mix rfl rfl rfl rfl rfl .nil .nil rfl Tryd.func79 (by kernel_rfl) (by kernel_rfl) rfl ((spec_l1Same.run n a0 a1).trans h)

theorem spec_l1Same.l4_run {n : Nat} {a b : List Int} (hl : a.length ≤ LIM) (he : a.length = b.length) : ∀ (d k m : Nat), k + d = a.length → d < m → spec_l1Same.l4 n m (intC.encs a) (intC.encs b) a.length k = some [Q.one (.bool (eqIL (a.drop k) (b.drop k)))] := by
  intro d
  induction d with
  | zero =>
    intro k m hk hm
    obtain ⟨m, rfl⟩ : ∃ m', m = m' + 1 := ⟨m - 1, by omega⟩
    obtain rfl : k = a.length := by omega
    rw [List.drop_of_length_le (Nat.le_refl _), List.drop_of_length_le (l := b) (by omega)]
    simp [spec_l1Same.l4_eq, eqIL]
  | succ d ih =>
    intro k m hk hm
    obtain ⟨m, rfl⟩ : ∃ m', m = m' + 1 := ⟨m - 1, by omega⟩
    have hlt : k < a.length := by omega
    have hlt' : k < b.length := by omega
    have step := ih (k + 1) m (by omega) (by omega)
    rw [spec_l1Same.l4_eq, List.drop_eq_getElem_cons hlt, List.drop_eq_getElem_cons hlt']
    simp only [Cod.encs_len, Int.ofNat_lt, hlt, hlt', decide_true, cond_true, Int.natCast_nonneg, Int.toNat_natCast, intC_int' hlt, intC_int' hlt', Option.bind_some, wrap_succ (show k ≤ LIM by omega), step, ine]
    unfold eqIL
    by_cases h : a[k] = b[k]
    · simp only [List.cons.injEq, h, true_and, decide_true, Bool.not_true, cond_false]
    · simp only [List.cons.injEq, h, false_and, decide_false, Bool.not_false, cond_true]
def spec_l1Same.stub : Stub
  | [.one (.sl 1 a), .one (.sl 1 b)] => .any (intC.decs a) fun A => .any (intC.decs b) fun B => .gd (decide (A.length = B.length)) (.ret [.one (.bool (Sp.eqIL A B))])
  | _ => .fail
theorem spec_l1Same.ok : StubOk Tryd.prog C0 79 spec_l1Same.stub := by
  intro args res h
  unfold spec_l1Same.stub at h
  split at h
  · rename_i a b
    obtain ⟨A, h1, h0⟩ := any_out h
    obtain ⟨B, h2, h0⟩ := any_out h0
    obtain ⟨h3, h0⟩ := gd_out h0
    cases h0
    obtain ⟨rfl, hl⟩ := Cod.decs_inv h1
    obtain ⟨rfl, hl2⟩ := Cod.decs_inv h2
    have h3 := of_decide_eq_true h3
    refine spec_l1Same.ev (n := A.length + 1) ?_
    unfold spec_l1Same.res
    have key := spec_l1Same.l4_run (n := A.length + 1) hl h3 A.length 0 (A.length + 1) (by omega) (by omega)
    simp only [Cod.encs_len, h3, bne_self_eq_false, cond_false]
    rw [h3] at key
    exact key
  · cases h
/-! spec_puBefore -/
noncomputable def spec_puBefore.cfg : Cfg := { C0 with keep := fun _ => none, nb := 0, M := tabM [], MM := tabB [] }
noncomputable def spec_puBefore.res (n : Nat) (a0_0 : ByteArray) (a0_1 : Int) (a0_2 : Int) (a0_3 : Int) (a0_4 : Int) (a0_5 : Int) (a0_6 : Int) (a0_7 : Int) (a0_8 : Int) (a0_9 : Int) (a0_10 : Int) (a0_11 : Int) (a1_0 : ByteArray) (a1_1 : Int) (a1_2 : Int) (a1_3 : Int) (a1_4 : Int) (a1_5 : Int) (a1_6 : Int) (a1_7 : Int) (a1_8 : Int) (a1_9 : Int) (a1_10 : Int) (a1_11 : Int) : Option (List Q) :=
  bif a0_10 != a1_10 then some [Q.one (D.bool (decide (a0_10 < a1_10)))] else bif a0_9 != a1_9 then some [Q.one (D.bool (decide (a0_9 < a1_9)))] else some [Q.one (D.bool (decide (a0_11 < a1_11)))]
theorem spec_puBefore.run (n : Nat) (a0_0 : ByteArray) (a0_1 : Int) (a0_2 : Int) (a0_3 : Int) (a0_4 : Int) (a0_5 : Int) (a0_6 : Int) (a0_7 : Int) (a0_8 : Int) (a0_9 : Int) (a0_10 : Int) (a0_11 : Int) (a1_0 : ByteArray) (a1_1 : Int) (a1_2 : Int) (a1_3 : Int) (a1_4 : Int) (a1_5 : Int) (a1_6 : Int) (a1_7 : Int) (a1_8 : Int) (a1_9 : Int) (a1_10 : Int) (a1_11 : Int) :
    run1 spec_puBefore.cfg [RK.one LK.bool] n Tryd.f80 [Q.agg [D.str a0_0, D.int IntKind.i64 a0_1, D.int IntKind.i64 a0_2, D.int IntKind.i64 a0_3, D.int IntKind.i64 a0_4, D.int IntKind.i64 a0_5, D.int IntKind.i64 a0_6, D.int IntKind.i64 a0_7, D.int IntKind.i64 a0_8, D.int IntKind.i64 a0_9, D.int IntKind.i64 a0_10, D.int IntKind.i64 a0_11], Q.agg [D.str a1_0, D.int IntKind.i64 a1_1, D.int IntKind.i64 a1_2, D.int IntKind.i64 a1_3, D.int IntKind.i64 a1_4, D.int IntKind.i64 a1_5, D.int IntKind.i64 a1_6, D.int IntKind.i64 a1_7, D.int IntKind.i64 a1_8, D.int IntKind.i64 a1_9, D.int IntKind.i64 a1_10, D.int IntKind.i64 a1_11]] = spec_puBefore.res n a0_0 a0_1 a0_2 a0_3 a0_4 a0_5 a0_6 a0_7 a0_8 a0_9 a0_10 a0_11 a1_0 a1_1 a1_2 a1_3 a1_4 a1_5 a1_6 a1_7 a1_8 a1_9 a1_10 a1_11 := by kernel_rfl
theorem spec_puBefore.ev {n : Nat} {a0_0 : ByteArray} {a0_1 : Int} {a0_2 : Int} {a0_3 : Int} {a0_4 : Int} {a0_5 : Int} {a0_6 : Int} {a0_7 : Int} {a0_8 : Int} {a0_9 : Int} {a0_10 : Int} {a0_11 : Int} {a1_0 : ByteArray} {a1_1 : Int} {a1_2 : Int} {a1_3 : Int} {a1_4 : Int} {a1_5 : Int} {a1_6 : Int} {a1_7 : Int} {a1_8 : Int} {a1_9 : Int} {a1_10 : Int} {a1_11 : Int} {r : List Q} (h : spec_puBefore.res n a0_0 a0_1 a0_2 a0_3 a0_4 a0_5 a0_6 a0_7 a0_8 a0_9 a0_10 a0_11 a1_0 a1_1 a1_2 a1_3 a1_4 a1_5 a1_6 a1_7 a1_8 a1_9 a1_10 a1_11 = some r) : Snd Tryd.prog C0 80 [.agg [.str a0_0, .int .i64 a0_1, .int .i64 a0_2, .int .i64 a0_3, .int .i64 a0_4, .int .i64 a0_5, .int .i64 a0_6, .int .i64 a0_7, .int .i64 a0_8, .int .i64 a0_9, .int .i64 a0_10, .int .i64 a0_11], .agg [.str a1_0, .int .i64 a1_1, .int .i64 a1_2, .int .i64 a1_3, .int .i64 a1_4, .int .i64 a1_5, .int .i64 a1_6, .int .i64 a1_7, .int .i64 a1_8, .int .i64 a1_9, .int .i64 a1_10, .int .i64 a1_11]] r :=
  snd_ev (C := spec_puBefore.cfg) cfg0 mix rfl rfl rfl rfl rfl .nil .nil rfl Tryd.func80 (by kernel_rfl) (by kernel_rfl) rfl ((spec_puBefore.run n a0_0 a0_1 a0_2 a0_3 a0_4 a0_5 a0_6 a0_7 a0_8 a0_9 a0_10 a0_11 a1_0 a1_1 a1_2 a1_3 a1_4 a1_5 a1_6 a1_7 a1_8 a1_9 a1_10 a1_11).trans h)

def spec_puBefore.stub : Stub
  | [.agg [.str _, .int .i64 _, .int .i64 _, .int .i64 _, .int .i64 _, .int .i64 _, .int .i64 _, .int .i64 _, .int .i64 _, .int .i64 px, .int .i64 py, .int .i64 pt], .agg [.str _, .int .i64 _, .int .i64 _, .int .i64 _, .int .i64 _, .int .i64 _, .int .i64 _, .int .i64 _, .int .i64 _, .int .i64 px', .int .i64 py', .int .i64 pt']] => .ret [.one (.bool (Sp.ltG py px pt py' px' pt'))]
  | _ => .fail
theorem spec_puBefore.ok : StubOk Tryd.prog C0 80 spec_puBefore.stub := by
  intro args res h
  unfold spec_puBefore.stub at h
  split at h
  · cases h
    refine spec_puBefore.ev (n := 0) ?_
    unfold spec_puBefore.res ltG
    simp only [ine]
    rename_i px py pt _ _ _ _ _ _ _ _ _ px' py' pt'
    cases decide (py = py') <;> cases decide (px = px') <;> rfl
  · cases h
/-! spec_puHardest -/
noncomputable def spec_puHardest.cfg : Cfg := { C0 with keep := fun | 5 => some [0, 3, 4, 8, 9, 10, 26, 27, 28] | 10 => some [0, 3, 4, 8, 9, 10, 12, 13, 14, 26, 27, 28, 43, 44, 45] | _ => none, nb := 0, M := tabM [(47, spec_boRead.stub), (71, spec_wyAll.stub), (79, spec_l1Same.stub), (80, spec_puBefore.stub)], MM := tabB [] }
noncomputable def spec_puHardest.l5 (n : Nat) (m5 : Nat) (s0 : ByteArray) (i1 : Int) (i2 : Int) (i3 : Int) (i4 : Int) (i5 : Int) (i6 : Int) (i7 : Int) (i8 : Int) (i9 : Int) (i10 : Int) (i11 : Int) (s12 : ByteArray) (i13 : Int) (i14 : Int) (i15 : Int) (i16 : Int) (i17 : Int) (i18 : Int) (i19 : Int) (i20 : Int) (i21 : Int) (i22 : Int) (i23 : Int) (s24 : ByteArray) (i25 : Int) (i26 : Int) (i27 : Int) (i28 : Int) (i29 : Int) (i30 : Int) (i31 : Int) (i32 : Int) (i33 : Int) (i34 : Int) (i35 : Int) (l36 : List (List D)) (l37 : List (List D)) : Option (List Q) :=
  loopAt spec_puHardest.cfg [RK.agg [LK.str, LK.int IntKind.i64, LK.int IntKind.i64, LK.int IntKind.i64, LK.int IntKind.i64, LK.int IntKind.i64, LK.int IntKind.i64, LK.int IntKind.i64, LK.int IntKind.i64, LK.int IntKind.i64, LK.int IntKind.i64, LK.int IntKind.i64], RK.one (LK.int IntKind.i64)] n Tryd.f43 [1, 1, 1, 1, 0, 1, 0] [] m5 (St.mk [V.one true (D.str s0), V.undef, V.undef, V.rp (0 : Nat) (0 : Nat), V.rp (1 : Nat) (0 : Nat), V.undef, V.undef, V.undef, V.rp (2 : Nat) (0 : Nat), V.one true (D.int IntKind.i64 i1), V.rw (3 : Nat), V.undef, V.undef, V.undef, V.undef, V.undef, V.undef, V.undef, V.undef, V.undef, V.undef, V.undef, V.undef, V.undef, V.undef, V.undef, V.rw (4 : Nat), V.one true (D.int IntKind.i64 i2), V.one true (D.int IntKind.i64 i3), V.undef, V.undef, V.undef, V.undef, V.undef, V.undef, V.undef, V.undef, V.undef, V.undef, V.undef, V.undef, V.undef, V.undef, V.undef, V.undef, V.undef, V.undef, V.undef, V.undef, V.undef, V.undef, V.undef, V.undef, V.undef, V.undef, V.undef, V.undef, V.undef, V.undef, V.undef, V.undef, V.undef, V.undef, V.undef, V.undef, V.undef, V.undef, V.undef, V.undef, V.undef, V.undef, V.undef, V.undef, V.undef, V.undef, V.undef, V.undef, V.undef, V.undef, V.undef, V.undef, V.undef, V.undef, V.undef, V.undef, V.undef, V.undef, V.undef, V.undef, V.undef, V.undef, V.undef, V.undef, V.undef, V.undef] [Ob.box [V.one true (D.int IntKind.i64 i4), V.one true (D.int IntKind.i64 i5), V.one true (D.int IntKind.i64 i6), V.one true (D.int IntKind.i64 i7), V.one true (D.int IntKind.i64 i8), V.one true (D.int IntKind.i64 i9), V.one true (D.int IntKind.i64 i10), V.one true (D.int IntKind.i64 i11)], Ob.box [V.one true (D.str s12), V.one true (D.int IntKind.i64 i13), V.one true (D.int IntKind.i64 i14), V.one true (D.int IntKind.i64 i15), V.one true (D.int IntKind.i64 i16), V.one true (D.int IntKind.i64 i17), V.one true (D.int IntKind.i64 i18), V.one true (D.int IntKind.i64 i19), V.one true (D.int IntKind.i64 i20), V.one true (D.int IntKind.i64 i21), V.one true (D.int IntKind.i64 i22), V.one true (D.int IntKind.i64 i23)], Ob.box [V.one true (D.str s24), V.one true (D.int IntKind.i64 i25), V.one true (D.int IntKind.i64 i26), V.one true (D.int IntKind.i64 i27), V.one true (D.int IntKind.i64 i28), V.one true (D.int IntKind.i64 i29), V.one true (D.int IntKind.i64 i30), V.one true (D.int IntKind.i64 i31), V.one true (D.int IntKind.i64 i32), V.one true (D.int IntKind.i64 i33), V.one true (D.int IntKind.i64 i34), V.one true (D.int IntKind.i64 i35)], Ob.row false (1 : Nat) l36, Ob.row false (16 : Nat) l37])
noncomputable def spec_puHardest.l10 (n : Nat) (m5 : Nat) (m10 : Nat) (s0 : ByteArray) (i1 : Int) (b2 : Bool) (i3 : Int) (i4 : Int) (i5 : Int) (i6 : Int) (i7 : Int) (i8 : Int) (i9 : Int) (i10 : Int) (i11 : Int) (i12 : Int) (i13 : Int) (i14 : Int) (s15 : ByteArray) (i16 : Int) (i17 : Int) (i18 : Int) (i19 : Int) (i20 : Int) (i21 : Int) (i22 : Int) (i23 : Int) (i24 : Int) (i25 : Int) (i26 : Int) (s27 : ByteArray) (i28 : Int) (i29 : Int) (i30 : Int) (i31 : Int) (i32 : Int) (i33 : Int) (i34 : Int) (i35 : Int) (i36 : Int) (i37 : Int) (i38 : Int) (l39 : List (List D)) (i40 : Int) (i41 : Int) (i42 : Int) (i43 : Int) (i44 : Int) (i45 : Int) (i46 : Int) (i47 : Int) (i48 : Int) (i49 : Int) (i50 : Int) (i51 : Int) (i52 : Int) (i53 : Int) (i54 : Int) (i55 : Int) (l56 : List (List D)) (l57 : List (List D)) : Option (List Q) :=
  loopAt spec_puHardest.cfg [RK.agg [LK.str, LK.int IntKind.i64, LK.int IntKind.i64, LK.int IntKind.i64, LK.int IntKind.i64, LK.int IntKind.i64, LK.int IntKind.i64, LK.int IntKind.i64, LK.int IntKind.i64, LK.int IntKind.i64, LK.int IntKind.i64, LK.int IntKind.i64], RK.one (LK.int IntKind.i64)] n Tryd.f43 [1, 1, 1, 1, 0, 1, 0, 0, 1, 1, 0, 0, 1, 1, 1, 0, 1, 0] [m5] m10 (St.mk [V.one true (D.str s0), V.undef, V.undef, V.rp (0 : Nat) (0 : Nat), V.rp (1 : Nat) (0 : Nat), V.undef, V.undef, V.undef, V.rp (2 : Nat) (0 : Nat), V.one true (D.int IntKind.i64 i1), V.rw (3 : Nat), V.undef, V.rp (4 : Nat) (0 : Nat), V.rw (5 : Nat), V.one true (D.bool b2), V.undef, V.undef, V.undef, V.undef, V.undef, V.undef, V.undef, V.undef, V.undef, V.undef, V.undef, V.rw (6 : Nat), V.one true (D.int IntKind.i64 i3), V.one true (D.int IntKind.i64 i4), V.undef, V.undef, V.undef, V.undef, V.undef, V.undef, V.undef, V.undef, V.undef, V.undef, V.undef, V.undef, V.undef, V.undef, V.rw (3 : Nat), V.one true (D.int IntKind.i64 i5), V.one true (D.int IntKind.i64 i6), V.undef, V.undef, V.undef, V.undef, V.undef, V.undef, V.undef, V.undef, V.undef, V.undef, V.undef, V.undef, V.undef, V.undef, V.undef, V.undef, V.undef, V.undef, V.undef, V.undef, V.undef, V.undef, V.undef, V.undef, V.undef, V.undef, V.undef, V.undef, V.undef, V.undef, V.undef, V.undef, V.undef, V.undef, V.undef, V.undef, V.undef, V.undef, V.undef, V.undef, V.undef, V.undef, V.undef, V.undef, V.undef, V.undef, V.undef, V.undef, V.undef] [Ob.box [V.one true (D.int IntKind.i64 i7), V.one true (D.int IntKind.i64 i8), V.one true (D.int IntKind.i64 i9), V.one true (D.int IntKind.i64 i10), V.one true (D.int IntKind.i64 i11), V.one true (D.int IntKind.i64 i12), V.one true (D.int IntKind.i64 i13), V.one true (D.int IntKind.i64 i14)], Ob.box [V.one true (D.str s15), V.one true (D.int IntKind.i64 i16), V.one true (D.int IntKind.i64 i17), V.one true (D.int IntKind.i64 i18), V.one true (D.int IntKind.i64 i19), V.one true (D.int IntKind.i64 i20), V.one true (D.int IntKind.i64 i21), V.one true (D.int IntKind.i64 i22), V.one true (D.int IntKind.i64 i23), V.one true (D.int IntKind.i64 i24), V.one true (D.int IntKind.i64 i25), V.one true (D.int IntKind.i64 i26)], Ob.box [V.one true (D.str s27), V.one true (D.int IntKind.i64 i28), V.one true (D.int IntKind.i64 i29), V.one true (D.int IntKind.i64 i30), V.one true (D.int IntKind.i64 i31), V.one true (D.int IntKind.i64 i32), V.one true (D.int IntKind.i64 i33), V.one true (D.int IntKind.i64 i34), V.one true (D.int IntKind.i64 i35), V.one true (D.int IntKind.i64 i36), V.one true (D.int IntKind.i64 i37), V.one true (D.int IntKind.i64 i38)], Ob.row false (1 : Nat) l39, Ob.box [V.one true (D.int IntKind.i64 i40), V.one true (D.int IntKind.i64 i41), V.one true (D.int IntKind.i64 i42), V.one true (D.int IntKind.i64 i43), V.one true (D.int IntKind.i64 i44), V.one true (D.int IntKind.i64 i45), V.one true (D.int IntKind.i64 i46), V.one true (D.int IntKind.i64 i47), V.one true (D.int IntKind.i64 i48), V.one true (D.int IntKind.i64 i49), V.one true (D.int IntKind.i64 i50), V.one true (D.int IntKind.i64 i51), V.one true (D.int IntKind.i64 i52), V.one true (D.int IntKind.i64 i53), V.one true (D.int IntKind.i64 i54), V.one true (D.int IntKind.i64 i55)], Ob.row false (1 : Nat) l56, Ob.row false (16 : Nat) l57])
theorem spec_puHardest.l5_eq (n : Nat) (m5 : Nat) (s0 : ByteArray) (i1 : Int) (i2 : Int) (i3 : Int) (i4 : Int) (i5 : Int) (i6 : Int) (i7 : Int) (i8 : Int) (i9 : Int) (i10 : Int) (i11 : Int) (s12 : ByteArray) (i13 : Int) (i14 : Int) (i15 : Int) (i16 : Int) (i17 : Int) (i18 : Int) (i19 : Int) (i20 : Int) (i21 : Int) (i22 : Int) (i23 : Int) (s24 : ByteArray) (i25 : Int) (i26 : Int) (i27 : Int) (i28 : Int) (i29 : Int) (i30 : Int) (i31 : Int) (i32 : Int) (i33 : Int) (i34 : Int) (i35 : Int) (l36 : List (List D)) (l37 : List (List D)) :
    spec_puHardest.l5 n (m5 + 1) s0 i1 i2 i3 i4 i5 i6 i7 i8 i9 i10 i11 s12 i13 i14 i15 i16 i17 i18 i19 i20 i21 i22 i23 s24 i25 i26 i27 i28 i29 i30 i31 i32 i33 i34 i35 l36 l37 = bif decide (i3 < i2) then bif decide ((0 : Int) ≤ i3) then bif decide (i3 < (↑(List.length l37) : Int)) then Option.bind (Option.bind (some (cellD l37 (Int.toNat i3) (0 : Nat))) (D.int? IntKind.i64)) fun (i2_1 : Int) => Option.bind (Option.bind (some (cellD l37 (Int.toNat i3) (1 : Nat))) (D.int? IntKind.i64)) fun (i3_1 : Int) => Option.bind (Option.bind (some (cellD l37 (Int.toNat i3) (2 : Nat))) (D.int? IntKind.i64)) fun (i4_1 : Int) => Option.bind (Option.bind (some (cellD l37 (Int.toNat i3) (3 : Nat))) (D.int? IntKind.i64)) fun (i5_1 : Int) => Option.bind (Option.bind (some (cellD l37 (Int.toNat i3) (4 : Nat))) (D.int? IntKind.i64)) fun (i6_1 : Int) => Option.bind (Option.bind (some (cellD l37 (Int.toNat i3) (5 : Nat))) (D.int? IntKind.i64)) fun (i7_1 : Int) => Option.bind (Option.bind (some (cellD l37 (Int.toNat i3) (6 : Nat))) (D.int? IntKind.i64)) fun (i8_1 : Int) => Option.bind (Option.bind (some (cellD l37 (Int.toNat i3) (7 : Nat))) (D.int? IntKind.i64)) fun (i9_1 : Int) => Option.bind (Option.bind (some (cellD l37 (Int.toNat i3) (8 : Nat))) (D.int? IntKind.i64)) fun (i10_1 : Int) => Option.bind (Option.bind (some (cellD l37 (Int.toNat i3) (9 : Nat))) (D.int? IntKind.i64)) fun (i11_1 : Int) => Option.bind (Option.bind (some (cellD l37 (Int.toNat i3) (10 : Nat))) (D.int? IntKind.i64)) fun (i12 : Int) => Option.bind (Option.bind (some (cellD l37 (Int.toNat i3) (11 : Nat))) (D.int? IntKind.i64)) fun (i13_1 : Int) => Option.bind (Option.bind (some (cellD l37 (Int.toNat i3) (12 : Nat))) (D.int? IntKind.i64)) fun (i14_1 : Int) => Option.bind (Option.bind (some (cellD l37 (Int.toNat i3) (13 : Nat))) (D.int? IntKind.i64)) fun (i15_1 : Int) => Option.bind (Option.bind (some (cellD l37 (Int.toNat i3) (14 : Nat))) (D.int? IntKind.i64)) fun (i16_1 : Int) => Option.bind (Option.bind (some (cellD l37 (Int.toNat i3) (15 : Nat))) (D.int? IntKind.i64)) fun (i17_1 : Int) => spec_puHardest.l10 n m5 n s0 i1 false i2 i3 (↑(List.length l36) : Int) (0 : Int) i4 i5 i6 i7 i8 i9 i10 i11 s12 i13 i14 i15 i16 i17 i18 i19 i20 i21 i22 i23 s24 i25 i26 i27 i28 i29 i30 i31 i32 i33 i34 i35 l36 i2_1 i3_1 i4_1 i5_1 i6_1 i7_1 i8_1 i9_1 i10_1 i11_1 i12 i13_1 i14_1 i15_1 i16_1 i17_1 [[D.int IntKind.i64 i3_1], [D.int IntKind.i64 i2_1], [D.int IntKind.i64 i4_1]] l37 else none else none else some [Q.agg [D.str s24, D.int IntKind.i64 i25, D.int IntKind.i64 i26, D.int IntKind.i64 i27, D.int IntKind.i64 i28, D.int IntKind.i64 i29, D.int IntKind.i64 i30, D.int IntKind.i64 i31, D.int IntKind.i64 i32, D.int IntKind.i64 i33, D.int IntKind.i64 i34, D.int IntKind.i64 i35], Q.one (D.int IntKind.i64 i1)] := by kernel_rfl
theorem spec_puHardest.l10_eq (n : Nat) (m5 : Nat) (m10 : Nat) (s0 : ByteArray) (i1 : Int) (b2 : Bool) (i3 : Int) (i4 : Int) (i5 : Int) (i6 : Int) (i7 : Int) (i8 : Int) (i9 : Int) (i10 : Int) (i11 : Int) (i12 : Int) (i13 : Int) (i14 : Int) (s15 : ByteArray) (i16 : Int) (i17 : Int) (i18 : Int) (i19 : Int) (i20 : Int) (i21 : Int) (i22 : Int) (i23 : Int) (i24 : Int) (i25 : Int) (i26 : Int) (s27 : ByteArray) (i28 : Int) (i29 : Int) (i30 : Int) (i31 : Int) (i32 : Int) (i33 : Int) (i34 : Int) (i35 : Int) (i36 : Int) (i37 : Int) (i38 : Int) (l39 : List (List D)) (i40 : Int) (i41 : Int) (i42 : Int) (i43 : Int) (i44 : Int) (i45 : Int) (i46 : Int) (i47 : Int) (i48 : Int) (i49 : Int) (i50 : Int) (i51 : Int) (i52 : Int) (i53 : Int) (i54 : Int) (i55 : Int) (l56 : List (List D)) (l57 : List (List D)) :
    spec_puHardest.l10 n m5 (m10 + 1) s0 i1 b2 i3 i4 i5 i6 i7 i8 i9 i10 i11 i12 i13 i14 s15 i16 i17 i18 i19 i20 i21 i22 i23 i24 i25 i26 s27 i28 i29 i30 i31 i32 i33 i34 i35 i36 i37 i38 l39 i40 i41 i42 i43 i44 i45 i46 i47 i48 i49 i50 i51 i52 i53 i54 i55 l56 l57 = bif decide (i6 < i5) then bif decide ((0 : Int) ≤ i6) then bif decide (i6 < (↑(List.length l39) : Int)) then Option.bind (Option.bind (some (cellD l39 (Int.toNat i6) (0 : Nat))) (D.sl? (1 : Nat))) fun (l18 : List (List D)) => bif b2 then spec_puHardest.l10 n m5 m10 s0 i1 true i3 i4 i5 (IntKind.wrap IntKind.i64 (i6 + (1 : Int))) i7 i8 i9 i10 i11 i12 i13 i14 s15 i16 i17 i18 i19 i20 i21 i22 i23 i24 i25 i26 s27 i28 i29 i30 i31 i32 i33 i34 i35 i36 i37 i38 l39 i40 i41 i42 i43 i44 i45 i46 i47 i48 i49 i50 i51 i52 i53 i54 i55 l56 l57 else Option.bind (Cod.decs intC l18) fun (l19 : List Int) => Option.bind (Cod.decs intC l56) fun (l20 : List Int) => bif decide (List.length l19 = List.length l20) then spec_puHardest.l10 n m5 m10 s0 i1 (eqIL l19 l20) i3 i4 i5 (IntKind.wrap IntKind.i64 (i6 + (1 : Int))) i7 i8 i9 i10 i11 i12 i13 i14 s15 i16 i17 i18 i19 i20 i21 i22 i23 i24 i25 i26 s27 i28 i29 i30 i31 i32 i33 i34 i35 i36 i37 i38 l39 i40 i41 i42 i43 i44 i45 i46 i47 i48 i49 i50 i51 i52 i53 i54 i55 l56 l57 else none else none else none else bif b2 then spec_puHardest.l5 n m5 s0 i1 i3 (IntKind.wrap IntKind.i64 (i4 + (1 : Int))) i7 i8 i9 i10 i11 i12 i13 i14 s15 i16 i17 i18 i19 i20 i21 i22 i23 i24 i25 i26 s27 i28 i29 i30 i31 i32 i33 i34 i35 i36 i37 i38 l39 l57 else bif decide (List.length l39 + (1 : Nat) ≤ (17179869184 : Nat)) then bif decide (i48 > i1) then spec_puHardest.l5 n m5 s0 i48 i3 (IntKind.wrap IntKind.i64 (i4 + (1 : Int))) i7 i8 i9 i10 i11 i12 i13 i14 s15 i16 i17 i18 i19 i20 i21 i22 i23 i24 i25 i26 s0 i7 i8 i9 i10 i11 i12 i13 i14 i40 i41 i42 (l39 ++ [[D.sl (1 : Nat) l56]]) l57 else bif i48 == i1 then bif ltG i41 i40 i42 i37 i36 i38 then spec_puHardest.l5 n m5 s0 i48 i3 (IntKind.wrap IntKind.i64 (i4 + (1 : Int))) i7 i8 i9 i10 i11 i12 i13 i14 s15 i16 i17 i18 i19 i20 i21 i22 i23 i24 i25 i26 s0 i7 i8 i9 i10 i11 i12 i13 i14 i40 i41 i42 (l39 ++ [[D.sl (1 : Nat) l56]]) l57 else spec_puHardest.l5 n m5 s0 i1 i3 (IntKind.wrap IntKind.i64 (i4 + (1 : Int))) i7 i8 i9 i10 i11 i12 i13 i14 s15 i16 i17 i18 i19 i20 i21 i22 i23 i24 i25 i26 s27 i28 i29 i30 i31 i32 i33 i34 i35 i36 i37 i38 (l39 ++ [[D.sl (1 : Nat) l56]]) l57 else spec_puHardest.l5 n m5 s0 i1 i3 (IntKind.wrap IntKind.i64 (i4 + (1 : Int))) i7 i8 i9 i10 i11 i12 i13 i14 s15 i16 i17 i18 i19 i20 i21 i22 i23 i24 i25 i26 s27 i28 i29 i30 i31 i32 i33 i34 i35 i36 i37 i38 (l39 ++ [[D.sl (1 : Nat) l56]]) l57 else none := by kernel_rfl
noncomputable def spec_puHardest.res (n : Nat) (a0 : ByteArray) (a1_0 : Int) (a1_1 : Int) (a1_2 : Int) (a1_3 : Int) (a1_4 : Int) (a1_5 : Int) (a1_6 : Int) (a1_7 : Int) : Option (List Q) :=
  Option.bind (Cod.decs u8C (Cod.encs u8C (boC brd a0))) fun (l1 : List UInt8) => bif inR (↑(boW brd a0) : Int) (0 : Int) (7 : Int) then bif inR (↑(boH brd a0) : Int) (0 : Int) (7 : Int) then bif decide (List.length l1 = Int.toNat (↑(boW brd a0) : Int) * Int.toNat (↑(boH brd a0) : Int)) then bif inR a1_0 (0 : Int) ((↑(boW brd a0) : Int) - (1 : Int)) then bif inR a1_1 (0 : Int) ((↑(boH brd a0) : Int) - (1 : Int)) then bif Die.good (Die.mk a1_2 a1_3 a1_4 a1_5 a1_6 a1_7) then spec_puHardest.l5 n n a0 (-1 : Int) (↑(List.length (Cod.encs ndC (wyN (flC (↑(boW brd a0) : Int) (↑(boH brd a0) : Int) l1) (Sta.mk a1_0 a1_1 (Die.mk a1_2 a1_3 a1_4 a1_5 a1_6 a1_7))))) : Int) (0 : Int) a1_0 a1_1 a1_2 a1_3 a1_4 a1_5 a1_6 a1_7 (ByteArray.mk #[]) (0 : Int) (0 : Int) (0 : Int) (0 : Int) (0 : Int) (0 : Int) (0 : Int) (0 : Int) (0 : Int) (0 : Int) (0 : Int) (ByteArray.mk #[]) (0 : Int) (0 : Int) (0 : Int) (0 : Int) (0 : Int) (0 : Int) (0 : Int) (0 : Int) (0 : Int) (0 : Int) (0 : Int) [] (Cod.encs ndC (wyN (flC (↑(boW brd a0) : Int) (↑(boH brd a0) : Int) l1) (Sta.mk a1_0 a1_1 (Die.mk a1_2 a1_3 a1_4 a1_5 a1_6 a1_7)))) else none else none else none else none else none else none
theorem spec_puHardest.run (n : Nat) (a0 : ByteArray) (a1_0 : Int) (a1_1 : Int) (a1_2 : Int) (a1_3 : Int) (a1_4 : Int) (a1_5 : Int) (a1_6 : Int) (a1_7 : Int) :
    run1 spec_puHardest.cfg [RK.agg [LK.str, LK.int IntKind.i64, LK.int IntKind.i64, LK.int IntKind.i64, LK.int IntKind.i64, LK.int IntKind.i64, LK.int IntKind.i64, LK.int IntKind.i64, LK.int IntKind.i64, LK.int IntKind.i64, LK.int IntKind.i64, LK.int IntKind.i64], RK.one (LK.int IntKind.i64)] n Tryd.f43 [Q.one (D.str a0), Q.agg [D.int IntKind.i64 a1_0, D.int IntKind.i64 a1_1, D.int IntKind.i64 a1_2, D.int IntKind.i64 a1_3, D.int IntKind.i64 a1_4, D.int IntKind.i64 a1_5, D.int IntKind.i64 a1_6, D.int IntKind.i64 a1_7]] = spec_puHardest.res n a0 a1_0 a1_1 a1_2 a1_3 a1_4 a1_5 a1_6 a1_7 := by kernel_rfl
theorem spec_puHardest.ev {n : Nat} {a0 : ByteArray} {a1_0 : Int} {a1_1 : Int} {a1_2 : Int} {a1_3 : Int} {a1_4 : Int} {a1_5 : Int} {a1_6 : Int} {a1_7 : Int} {r : List Q} (h : spec_puHardest.res n a0 a1_0 a1_1 a1_2 a1_3 a1_4 a1_5 a1_6 a1_7 = some r) : Snd Tryd.prog C0 43 [.one (.str a0), .agg [.int .i64 a1_0, .int .i64 a1_1, .int .i64 a1_2, .int .i64 a1_3, .int .i64 a1_4, .int .i64 a1_5, .int .i64 a1_6, .int .i64 a1_7]] r :=
  snd_ev (C := spec_puHardest.cfg) cfg0 mix rfl rfl rfl rfl rfl (.cons spec_boRead.ok (.cons spec_wyAll.ok (.cons spec_l1Same.ok (.cons spec_puBefore.ok .nil)))) .nil rfl Tryd.func43 (by kernel_rfl) (by kernel_rfl) rfl ((spec_puHardest.run n a0 a1_0 a1_1 a1_2 a1_3 a1_4 a1_5 a1_6 a1_7).trans h)

theorem spec_puHardest.l10_run {n m5 : Nat} {s0 : ByteArray} {i1 : Int} {i3 : Int} {i4 : Int} {i7 : Int} {i8 : Int} {i9 : Int} {i10 : Int} {i11 : Int} {i12 : Int} {i13 : Int} {i14 : Int} {s15 : ByteArray} {i16 : Int} {i17 : Int} {i18 : Int} {i19 : Int} {i20 : Int} {i21 : Int} {i22 : Int} {i23 : Int} {i24 : Int} {i25 : Int} {i26 : Int} {s27 : ByteArray} {i28 : Int} {i29 : Int} {i30 : Int} {i31 : Int} {i32 : Int} {i33 : Int} {i34 : Int} {i35 : Int} {i36 : Int} {i37 : Int} {i38 : Int} {i40 : Int} {i41 : Int} {i42 : Int} {i43 : Int} {i44 : Int} {i45 : Int} {i46 : Int} {i47 : Int} {i48 : Int} {i49 : Int} {i50 : Int} {i51 : Int} {i52 : Int} {i53 : Int} {i54 : Int} {i55 : Int} {l57 : List (List D)} {S : List Gl} {g : Gl} (hS : S.length ≤ LIM) : ∀ (d i m : Nat) (b2 : Bool), i + d = S.length → d < m →
    spec_puHardest.l10 n m5 m s0 i1 b2 i3 i4 ((S.length : Nat) : Int) (i : Int) i7 i8 i9 i10 i11 i12 i13 i14 s15 i16 i17 i18 i19 i20 i21 i22 i23 i24 i25 i26 s27 i28 i29 i30 i31 i32 i33 i34 i35 i36 i37 i38 (rowC.encs (S.map glL)) i40 i41 i42 i43 i44 i45 i46 i47 i48 i49 i50 i51 i52 i53 i54 i55 (intC.encs (glL g)) l57 = spec_puHardest.l10 n m5 1 s0 i1 (b2 || (S.drop i).any fun x => eqG x g) i3 i4 ((S.length : Nat) : Int) ((S.length : Nat) : Int) i7 i8 i9 i10 i11 i12 i13 i14 s15 i16 i17 i18 i19 i20 i21 i22 i23 i24 i25 i26 s27 i28 i29 i30 i31 i32 i33 i34 i35 i36 i37 i38 (rowC.encs (S.map glL)) i40 i41 i42 i43 i44 i45 i46 i47 i48 i49 i50 i51 i52 i53 i54 i55 (intC.encs (glL g)) l57 := by
  intro d
  induction d with
  | zero =>
    intro i m b2 hi hm
    obtain ⟨m, rfl⟩ : ∃ m', m = m' + 1 := ⟨m - 1, by omega⟩
    obtain rfl : i = S.length := by omega
    have h1 : ¬ ((S.length : Nat) : Int) < ((S.length : Nat) : Int) := by omega
    rw [List.drop_of_length_le (Nat.le_refl _), spec_puHardest.l10_eq, spec_puHardest.l10_eq]
    simp only [h1, decide_false, cond_false, List.any_nil, Bool.or_false]
  | succ d ih =>
    intro i m b2 hi hm
    obtain ⟨m, rfl⟩ : ∃ m', m = m' + 1 := ⟨m - 1, by omega⟩
    have hlt : i < S.length := by omega
    have hltm : i < (S.map glL).length := by rw [List.length_map]; exact hlt
    have h1 : (i : Int) < ((S.length : Nat) : Int) := by omega
    have hcell := rowC_cell' hltm
    rw [List.getElem_map] at hcell
    have d1 : intC.decs (intC.encs (glL S[i])) = some (glL S[i]) := Cod.decs_encs (by simp [glL, LIM])
    have d2 : intC.decs (intC.encs (glL g)) = some (glL g) := Cod.decs_encs (by simp [glL, LIM])
    have hl2 : (glL S[i]).length = (glL g).length := rfl
    rw [spec_puHardest.l10_eq, List.drop_eq_getElem_cons hlt, List.any_cons]
    simp only [h1, Cod.encs_len, List.length_map, Int.natCast_nonneg, Int.toNat_natCast, decide_true, cond_true, hcell, Option.bind_some, d1, d2, decide_eq_true hl2, eqIL_gl, wrap_succ (show i ≤ LIM by omega)]
    cases b2 with
    | true =>
      have step := ih (i + 1) m true (by omega) (by omega)
      simp only [cond_true, Bool.true_or] at step ⊢
      exact step
    | false =>
      have step := ih (i + 1) m (eqG S[i] g) (by omega) (by omega)
      simp only [cond_false, Bool.false_or] at step ⊢
      exact step
theorem onS_true (q : ByteArray) : onS true q = q := rfl
theorem onI_true (k : Int) : onI true k = k := rfl
theorem spec_puHardest.l5_run {n : Nat} {q : ByteArray} {s : Sta} {s12 : ByteArray} {i13 : Int} {i14 : Int} {i15 : Int} {i16 : Int} {i17 : Int} {i18 : Int} {i19 : Int} {i20 : Int} {i21 : Int} {i22 : Int} {i23 : Int} {N : List Nd} (hl : N.length ≤ BIG) (hn : BIG + 64 ≤ n) : ∀ (d i m : Nat) (h : Hd), i + d = N.length → d < m → h.seen.length ≤ i →
    spec_puHardest.l5 n m q h.most ((N.length : Nat) : Int) (i : Int) s.x s.y s.d.t s.d.n s.d.e s.d.s s.d.w s.d.b s12 i13 i14 i15 i16 i17 i18 i19 i20 i21 i22 i23 (onS (isG h.best) q) (onI (isG h.best) s.x) (onI (isG h.best) s.y) (onI (isG h.best) s.d.t) (onI (isG h.best) s.d.n) (onI (isG h.best) s.d.e) (onI (isG h.best) s.d.s) (onI (isG h.best) s.d.w) (onI (isG h.best) s.d.b) (gO h.best).x (gO h.best).y (gO h.best).t (rowC.encs (h.seen.map glL)) (ndC.encs N) = some [Q.agg [.str (onS (isG (((N.map Nd.core).drop i).foldl hdStep h).best) q), .int .i64 (onI (isG (((N.map Nd.core).drop i).foldl hdStep h).best) s.x), .int .i64 (onI (isG (((N.map Nd.core).drop i).foldl hdStep h).best) s.y), .int .i64 (onI (isG (((N.map Nd.core).drop i).foldl hdStep h).best) s.d.t), .int .i64 (onI (isG (((N.map Nd.core).drop i).foldl hdStep h).best) s.d.n), .int .i64 (onI (isG (((N.map Nd.core).drop i).foldl hdStep h).best) s.d.e), .int .i64 (onI (isG (((N.map Nd.core).drop i).foldl hdStep h).best) s.d.s), .int .i64 (onI (isG (((N.map Nd.core).drop i).foldl hdStep h).best) s.d.w), .int .i64 (onI (isG (((N.map Nd.core).drop i).foldl hdStep h).best) s.d.b), .int .i64 (gO (((N.map Nd.core).drop i).foldl hdStep h).best).x, .int .i64 (gO (((N.map Nd.core).drop i).foldl hdStep h).best).y, .int .i64 (gO (((N.map Nd.core).drop i).foldl hdStep h).best).t], Q.one (.int .i64 (((N.map Nd.core).drop i).foldl hdStep h).most)] := by
  intro d
  induction d with
  | zero =>
    intro i m h hi hm hs
    obtain ⟨m, rfl⟩ : ∃ m', m = m' + 1 := ⟨m - 1, by omega⟩
    have h1 : ¬ (i : Int) < ((N.length : Nat) : Int) := by omega
    rw [spec_puHardest.l5_eq, List.drop_of_length_le (by rw [List.length_map]; omega)]
    simp only [h1, decide_false, cond_false]
    rfl
  | succ d ih =>
    intro i m h hi hm hs
    obtain ⟨m, rfl⟩ : ∃ m', m = m' + 1 := ⟨m - 1, by omega⟩
    unfold BIG at hl hn
    have hlt : i < N.length := by omega
    have hltc : i < (N.map Nd.core).length := by rw [List.length_map]; exact hlt
    have h1 : (i : Int) < ((N.length : Nat) : Int) := by omega
    obtain ⟨c0, c1, c2, c3, c4, c5, c6, c7⟩ := nd_cells hlt
    obtain ⟨c8, c9, c10, c11⟩ := nd_cells2 hlt
    obtain ⟨c12, c13, c14, c15⟩ := nd_cells3 hlt
    have hs1 : h.seen.length + 1 ≤ 17179869184 := by omega
    have hss : ¬ ((h.seen.length : Nat) : Int) < ((h.seen.length : Nat) : Int) := by omega
    have hlen : (hdStep h N[i].core).seen.length ≤ i + 1 := by
      have := hd_len [N[i].core] h
      rw [List.foldl_cons, List.foldl_nil, List.length_singleton] at this
      omega
    have step := ih (i + 1) m (hdStep h N[i].core) (by omega) (by omega) hlen
    rw [spec_puHardest.l5_eq, List.drop_eq_getElem_cons hltc, List.getElem_map, List.foldl_cons]
    simp only [h1, Cod.encs_len, List.length_map, Int.natCast_nonneg, Int.toNat_natCast, decide_true, cond_true, c0, c1, c2, c3, c4, c5, c6, c7, c8, c9, c10, c11, c12, c13, c14, c15, Option.bind_some]
    rw [← step]
    refine Eq.trans (spec_puHardest.l10_run (S := h.seen) (g := glOf N[i].u) (by unfold LIM; omega) h.seen.length 0 n false (Nat.zero_add _) (by omega)) ?_
    rw [spec_puHardest.l10_eq, List.drop_zero, Bool.false_or]
    simp only [hss, decide_false, cond_false, wrap_succ (show i ≤ LIM by unfold LIM; omega), Cod.encs_len, List.length_map, hs1, decide_true, cond_true, rowC_snoc, ieq]
    unfold hdStep hdLt hasG
    rw [show N[i].core.u = N[i].u from rfl, show N[i].core.far = N[i].far from rfl]
    cases h.seen.any fun x => eqG x (glOf N[i].u) with
    | true => rfl
    | false =>
      simp only [cond_false]
      rw [show ltG N[i].u.y N[i].u.x N[i].u.d.t (gO h.best).y (gO h.best).x (gO h.best).t = ltG (glOf N[i].u).y (glOf N[i].u).x (glOf N[i].u).t (gO h.best).y (gO h.best).x (gO h.best).t from rfl]
      by_cases e1 : N[i].far > h.most
      · simp only [e1, decide_true, cond_true, Bool.true_or, List.map_append, List.map_cons, List.map_nil]
        rfl
      · by_cases e2 : N[i].far = h.most
        · cases e3 : ltG (glOf N[i].u).y (glOf N[i].u).x (glOf N[i].u).t (gO h.best).y (gO h.best).x (gO h.best).t with
          | true =>
            simp only [e1, e2, decide_true, decide_false, cond_true, cond_false, Bool.false_or, Bool.true_and, List.map_append, List.map_cons, List.map_nil, Bool.or_true]
            try simp only [Int.lt_irrefl, gt_iff_lt, decide_false, cond_false, List.map_append, List.map_cons, List.map_nil]
            try rfl
          | false =>
            simp only [e1, e2, decide_true, decide_false, cond_true, cond_false, Bool.false_or, Bool.true_and, List.map_append, List.map_cons, List.map_nil, Bool.or_false]
            try simp only [Int.lt_irrefl, gt_iff_lt, decide_false, cond_false, List.map_append, List.map_cons, List.map_nil]
            try rfl
        · simp only [e1, e2, decide_true, decide_false, cond_true, cond_false, Bool.false_or, Bool.false_and, List.map_append, List.map_cons, List.map_nil]
          try rfl
def spec_puHardest.stub : Stub
  | [.one (.str q), .agg [.int .i64 x, .int .i64 y, .int .i64 t, .int .i64 n, .int .i64 e, .int .i64 s, .int .i64 w, .int .i64 b]] => .gd (Sp.okSt q ⟨x, y, ⟨t, n, e, s, w, b⟩⟩) (.ret [.agg [.str q, .int .i64 x, .int .i64 y, .int .i64 t, .int .i64 n, .int .i64 e, .int .i64 s, .int .i64 w, .int .i64 b, .int .i64 (Sp.hdG q ⟨x, y, ⟨t, n, e, s, w, b⟩⟩).x, .int .i64 (Sp.hdG q ⟨x, y, ⟨t, n, e, s, w, b⟩⟩).y, .int .i64 (Sp.hdG q ⟨x, y, ⟨t, n, e, s, w, b⟩⟩).t], .one (.int .i64 (Sp.hdM q ⟨x, y, ⟨t, n, e, s, w, b⟩⟩))])
  | _ => .fail
theorem spec_puHardest.ok : StubOk Tryd.prog C0 43 spec_puHardest.stub := by
  intro args res h
  unfold spec_puHardest.stub at h
  split at h
  · rename_i q x y t n e s w b
    obtain ⟨ho, h0⟩ := gd_out h
    cases h0
    obtain ⟨N, hN⟩ : ∃ N, BIG + 64 ≤ N := ⟨BIG + 64, Nat.le_refl _⟩
    refine spec_puHardest.ev (n := N) ?_
    unfold spec_puHardest.res
    obtain ⟨hb, hg, hfl, _, _⟩ := okSt_out ho
    obtain ⟨e1, e2, e3, e4, e5, e6, e7⟩ := bo_ok hb
    have e6' : (boC brd q).length = (boW brd q : Int).toNat * (boH brd q : Int).toNat := by rw [Int.toNat_natCast, Int.toNat_natCast, e6]
    have hfl2 : flC (boW brd q : Int) (boH brd q : Int) (boC brd q) x y = true := by rw [fl_eq hb]; exact hfl
    obtain ⟨x0, x1, y0, y1⟩ := flC_gd _ _ hfl2
    have gx : inR x 0 ((boW brd q : Int) - 1) = true := by
      unfold inR
      rw [Bool.and_eq_true, decide_eq_true_eq, decide_eq_true_eq]; omega
    have gy : inR y 0 ((boH brd q : Int) - 1) = true := by
      unfold inR
      rw [Bool.and_eq_true, decide_eq_true_eq, decide_eq_true_eq]; omega
    have hlen := wyN_len ho
    have hg : Die.good ⟨t, n, e, s, w, b⟩ = true := hg
    simp only [Cod.decs_encs e7, Option.bind_some, e4, e5, decide_eq_true e6', gx, gy, hg, fl_eq hb, Cod.encs_len, cond_true]
    have hb2 := hdAll_some (isFl (rws q)) ⟨x, y, ⟨t, n, e, s, w, b⟩⟩
    have key := spec_puHardest.l5_run (n := N) (q := q) (s := ⟨x, y, ⟨t, n, e, s, w, b⟩⟩) (N := wyN (isFl (rws q)) ⟨x, y, ⟨t, n, e, s, w, b⟩⟩) (s12 := ByteArray.mk #[]) (i13 := 0) (i14 := 0) (i15 := 0) (i16 := 0) (i17 := 0) (i18 := 0) (i19 := 0) (i20 := 0) (i21 := 0) (i22 := 0) (i23 := 0) (by omega) hN _ 0 N ⟨[], none, -1⟩ (Nat.zero_add _) (by omega) (Nat.zero_le _)
    rw [List.drop_zero, wy_core] at key
    unfold hdAll at hb2
    rw [hb2] at key
    exact key
  · cases h
/-! spec_HardestGoal -/
noncomputable def spec_HardestGoal.cfg : Cfg := { C0 with keep := fun _ => none, nb := 0, M := tabM [(42, spec_boAsked.stub), (43, spec_puHardest.stub)], MM := tabB [] }
noncomputable def spec_HardestGoal.res (n : Nat) (a0 : ByteArray) (a1_0 : Int) (a1_1 : Int) (a1_2 : Int) (a1_3 : Int) (a1_4 : Int) (a1_5 : Int) (a1_6 : Int) (a1_7 : Int) : Option (List Q) :=
  bif !(isBo brd a0 && (Die.good (Die.mk a1_2 a1_3 a1_4 a1_5 a1_6 a1_7) && isFl (rws a0) a1_0 a1_1)) then some [Q.agg [D.str (ByteArray.mk #[]), D.int IntKind.i64 (0 : Int), D.int IntKind.i64 (0 : Int), D.int IntKind.i64 (0 : Int), D.int IntKind.i64 (0 : Int), D.int IntKind.i64 (0 : Int), D.int IntKind.i64 (0 : Int), D.int IntKind.i64 (0 : Int), D.int IntKind.i64 (0 : Int), D.int IntKind.i64 (0 : Int), D.int IntKind.i64 (0 : Int), D.int IntKind.i64 (0 : Int)], Q.one (D.int IntKind.i64 (0 : Int)), Q.one (D.bool false)] else bif okSt a0 (Sta.mk a1_0 a1_1 (Die.mk a1_2 a1_3 a1_4 a1_5 a1_6 a1_7)) then bif decide (hdM a0 (Sta.mk a1_0 a1_1 (Die.mk a1_2 a1_3 a1_4 a1_5 a1_6 a1_7)) > (60 : Int)) then some [Q.agg [D.str (ByteArray.mk #[]), D.int IntKind.i64 (0 : Int), D.int IntKind.i64 (0 : Int), D.int IntKind.i64 (0 : Int), D.int IntKind.i64 (0 : Int), D.int IntKind.i64 (0 : Int), D.int IntKind.i64 (0 : Int), D.int IntKind.i64 (0 : Int), D.int IntKind.i64 (0 : Int), D.int IntKind.i64 (0 : Int), D.int IntKind.i64 (0 : Int), D.int IntKind.i64 (0 : Int)], Q.one (D.int IntKind.i64 (0 : Int)), Q.one (D.bool false)] else some [Q.agg [D.str a0, D.int IntKind.i64 a1_0, D.int IntKind.i64 a1_1, D.int IntKind.i64 a1_2, D.int IntKind.i64 a1_3, D.int IntKind.i64 a1_4, D.int IntKind.i64 a1_5, D.int IntKind.i64 a1_6, D.int IntKind.i64 a1_7, D.int IntKind.i64 (Gl.x (hdG a0 (Sta.mk a1_0 a1_1 (Die.mk a1_2 a1_3 a1_4 a1_5 a1_6 a1_7)))), D.int IntKind.i64 (Gl.y (hdG a0 (Sta.mk a1_0 a1_1 (Die.mk a1_2 a1_3 a1_4 a1_5 a1_6 a1_7)))), D.int IntKind.i64 (Gl.t (hdG a0 (Sta.mk a1_0 a1_1 (Die.mk a1_2 a1_3 a1_4 a1_5 a1_6 a1_7))))], Q.one (D.int IntKind.i64 (hdM a0 (Sta.mk a1_0 a1_1 (Die.mk a1_2 a1_3 a1_4 a1_5 a1_6 a1_7)))), Q.one (D.bool true)] else none
theorem spec_HardestGoal.run (n : Nat) (a0 : ByteArray) (a1_0 : Int) (a1_1 : Int) (a1_2 : Int) (a1_3 : Int) (a1_4 : Int) (a1_5 : Int) (a1_6 : Int) (a1_7 : Int) :
    run1 spec_HardestGoal.cfg [RK.agg [LK.str, LK.int IntKind.i64, LK.int IntKind.i64, LK.int IntKind.i64, LK.int IntKind.i64, LK.int IntKind.i64, LK.int IntKind.i64, LK.int IntKind.i64, LK.int IntKind.i64, LK.int IntKind.i64, LK.int IntKind.i64, LK.int IntKind.i64], RK.one (LK.int IntKind.i64), RK.one LK.bool] n Tryd.f17 [Q.one (D.str a0), Q.agg [D.int IntKind.i64 a1_0, D.int IntKind.i64 a1_1, D.int IntKind.i64 a1_2, D.int IntKind.i64 a1_3, D.int IntKind.i64 a1_4, D.int IntKind.i64 a1_5, D.int IntKind.i64 a1_6, D.int IntKind.i64 a1_7]] = spec_HardestGoal.res n a0 a1_0 a1_1 a1_2 a1_3 a1_4 a1_5 a1_6 a1_7 := by kernel_rfl
theorem spec_HardestGoal.ev {n : Nat} {a0 : ByteArray} {a1_0 : Int} {a1_1 : Int} {a1_2 : Int} {a1_3 : Int} {a1_4 : Int} {a1_5 : Int} {a1_6 : Int} {a1_7 : Int} {r : List Q} (h : spec_HardestGoal.res n a0 a1_0 a1_1 a1_2 a1_3 a1_4 a1_5 a1_6 a1_7 = some r) : Snd Tryd.prog C0 17 [.one (.str a0), .agg [.int .i64 a1_0, .int .i64 a1_1, .int .i64 a1_2, .int .i64 a1_3, .int .i64 a1_4, .int .i64 a1_5, .int .i64 a1_6, .int .i64 a1_7]] r :=
  snd_ev (C := spec_HardestGoal.cfg) cfg0 mix rfl rfl rfl rfl rfl (.cons spec_boAsked.ok (.cons spec_puHardest.ok .nil)) .nil rfl Tryd.func17 (by kernel_rfl) (by kernel_rfl) rfl ((spec_HardestGoal.run n a0 a1_0 a1_1 a1_2 a1_3 a1_4 a1_5 a1_6 a1_7).trans h)

def spec_HardestGoal.stub : Stub
  | [.one (.str q), .agg [.int .i64 x, .int .i64 y, .int .i64 t, .int .i64 n, .int .i64 e, .int .i64 s, .int .i64 w, .int .i64 b]] => (.ret [.agg [.str (Sp.onS (Sp.hdB q ⟨x, y, ⟨t, n, e, s, w, b⟩⟩) q), .int .i64 (Sp.onI (Sp.hdB q ⟨x, y, ⟨t, n, e, s, w, b⟩⟩) x), .int .i64 (Sp.onI (Sp.hdB q ⟨x, y, ⟨t, n, e, s, w, b⟩⟩) y), .int .i64 (Sp.onI (Sp.hdB q ⟨x, y, ⟨t, n, e, s, w, b⟩⟩) t), .int .i64 (Sp.onI (Sp.hdB q ⟨x, y, ⟨t, n, e, s, w, b⟩⟩) n), .int .i64 (Sp.onI (Sp.hdB q ⟨x, y, ⟨t, n, e, s, w, b⟩⟩) e), .int .i64 (Sp.onI (Sp.hdB q ⟨x, y, ⟨t, n, e, s, w, b⟩⟩) s), .int .i64 (Sp.onI (Sp.hdB q ⟨x, y, ⟨t, n, e, s, w, b⟩⟩) w), .int .i64 (Sp.onI (Sp.hdB q ⟨x, y, ⟨t, n, e, s, w, b⟩⟩) b), .int .i64 (Sp.onI (Sp.hdB q ⟨x, y, ⟨t, n, e, s, w, b⟩⟩) (Sp.hdG q ⟨x, y, ⟨t, n, e, s, w, b⟩⟩).x), .int .i64 (Sp.onI (Sp.hdB q ⟨x, y, ⟨t, n, e, s, w, b⟩⟩) (Sp.hdG q ⟨x, y, ⟨t, n, e, s, w, b⟩⟩).y), .int .i64 (Sp.onI (Sp.hdB q ⟨x, y, ⟨t, n, e, s, w, b⟩⟩) (Sp.hdG q ⟨x, y, ⟨t, n, e, s, w, b⟩⟩).t)], .one (.int .i64 (Sp.onI (Sp.hdB q ⟨x, y, ⟨t, n, e, s, w, b⟩⟩) (Sp.hdM q ⟨x, y, ⟨t, n, e, s, w, b⟩⟩))), .one (.bool (Sp.hdB q ⟨x, y, ⟨t, n, e, s, w, b⟩⟩))])
  | _ => .fail
theorem spec_HardestGoal.ok : StubOk Tryd.prog C0 17 spec_HardestGoal.stub := by
  intro args res h
  unfold spec_HardestGoal.stub at h
  split at h
  · rename_i q x y t n e s w b
    cases h
    refine spec_HardestGoal.ev (n := 0) ?_
    unfold spec_HardestGoal.res
    rw [show (isBo brd q && (Die.good ⟨t, n, e, s, w, b⟩ && isFl (rws q) x y)) = okSt q ⟨x, y, ⟨t, n, e, s, w, b⟩⟩ from rfl]
    have e1 : hdB q ⟨x, y, ⟨t, n, e, s, w, b⟩⟩ = (okSt q ⟨x, y, ⟨t, n, e, s, w, b⟩⟩ && decide (hdM q ⟨x, y, ⟨t, n, e, s, w, b⟩⟩ ≤ 60)) := rfl
    rw [e1]
    cases okSt q ⟨x, y, ⟨t, n, e, s, w, b⟩⟩ with
    | false => rfl
    | true =>
      by_cases h6 : hdM q ⟨x, y, ⟨t, n, e, s, w, b⟩⟩ > 60
      · have h7 : ¬ hdM q ⟨x, y, ⟨t, n, e, s, w, b⟩⟩ ≤ 60 := by omega
        simp only [h6, h7, Bool.not_true, cond_false, cond_true, decide_true, decide_false, Bool.and_false]
        rfl
      · have h7 : hdM q ⟨x, y, ⟨t, n, e, s, w, b⟩⟩ ≤ 60 := by omega
        simp only [h6, h7, Bool.not_true, cond_false, cond_true, decide_true, decide_false, Bool.and_true]
        rfl
  · cases h
/-! impl_hardest -/
noncomputable def impl_hardest.cfg : Cfg := { C0 with keep := fun | 6 => some [0, 3, 4, 7, 9, 10, 11, 30, 31, 32] | _ => none, nb := 0, M := tabM [(81, impl_reachOn.stub), (82, slices_Compare_Sint_int.stub)], MM := tabB [] }
noncomputable def impl_hardest.l6 (n : Nat) (m6 : Nat) (s0 : ByteArray) (l1 : List (List D)) (l2 : List (List D)) (l3 : List (List D)) (l4 : List (List D)) (l5 : List (List D × List D)) (i6 : Int) (l7 : List (List D)) (i8 : Int) (i9 : Int) (i10 : Int) (i11 : Int) (i12 : Int) (i13 : Int) (i14 : Int) (i15 : Int) (i16 : Int) (i17 : Int) (s18 : ByteArray) (i19 : Int) (i20 : Int) (i21 : Int) (i22 : Int) (i23 : Int) (i24 : Int) (i25 : Int) (i26 : Int) (i27 : Int) (i28 : Int) (i29 : Int) (s30 : ByteArray) (i31 : Int) (i32 : Int) (i33 : Int) (i34 : Int) (i35 : Int) (i36 : Int) (i37 : Int) (i38 : Int) (i39 : Int) (i40 : Int) (i41 : Int) (l42 : List (List D × List D)) : Option (List Q) :=
  loopAt impl_hardest.cfg [RK.agg [LK.str, LK.int IntKind.i64, LK.int IntKind.i64, LK.int IntKind.i64, LK.int IntKind.i64, LK.int IntKind.i64, LK.int IntKind.i64, LK.int IntKind.i64, LK.int IntKind.i64, LK.int IntKind.i64, LK.int IntKind.i64, LK.int IntKind.i64], RK.one (LK.int IntKind.i64), RK.one LK.bool] n Tryd.f45 [1, 1, 1, 1, 0, 1, 0] [] m6 (St.mk [V.one true (D.str s0), V.undef, V.undef, V.rp (0 : Nat) (0 : Nat), V.rp (1 : Nat) (0 : Nat), V.undef, V.undef, V.one true (D.pt [D.sl (8 : Nat) l1, D.sl (1 : Nat) l2, D.sl (1 : Nat) l3, D.sl (1 : Nat) l4, D.mp l5]), V.undef, V.rp (2 : Nat) (0 : Nat), V.one true (D.int IntKind.i64 i6), V.rm (3 : Nat), V.undef, V.undef, V.undef, V.undef, V.undef, V.undef, V.undef, V.undef, V.undef, V.undef, V.undef, V.undef, V.undef, V.undef, V.undef, V.undef, V.undef, V.undef, V.one true (D.sl (8 : Nat) l7), V.one true (D.int IntKind.i64 i8), V.one true (D.int IntKind.i64 i9), V.undef, V.undef, V.undef, V.undef, V.undef, V.undef, V.undef, V.undef, V.undef, V.undef, V.undef, V.undef, V.undef, V.undef, V.undef, V.undef, V.undef, V.undef, V.undef, V.undef, V.undef, V.undef, V.undef, V.undef, V.undef, V.undef, V.undef, V.undef, V.undef, V.undef, V.undef, V.undef, V.undef, V.undef, V.undef, V.undef, V.undef, V.undef, V.undef, V.undef, V.undef, V.undef, V.undef, V.undef, V.undef, V.undef, V.undef, V.undef, V.undef, V.undef, V.undef, V.undef, V.undef, V.undef, V.undef, V.undef, V.undef, V.undef, V.undef, V.undef, V.undef, V.undef, V.undef, V.undef, V.undef, V.undef, V.undef, V.undef, V.undef, V.undef, V.undef, V.undef, V.undef] [Ob.box [V.one true (D.int IntKind.i64 i10), V.one true (D.int IntKind.i64 i11), V.one true (D.int IntKind.i64 i12), V.one true (D.int IntKind.i64 i13), V.one true (D.int IntKind.i64 i14), V.one true (D.int IntKind.i64 i15), V.one true (D.int IntKind.i64 i16), V.one true (D.int IntKind.i64 i17)], Ob.box [V.one true (D.str s18), V.one true (D.int IntKind.i64 i19), V.one true (D.int IntKind.i64 i20), V.one true (D.int IntKind.i64 i21), V.one true (D.int IntKind.i64 i22), V.one true (D.int IntKind.i64 i23), V.one true (D.int IntKind.i64 i24), V.one true (D.int IntKind.i64 i25), V.one true (D.int IntKind.i64 i26), V.one true (D.int IntKind.i64 i27), V.one true (D.int IntKind.i64 i28), V.one true (D.int IntKind.i64 i29)], Ob.box [V.one true (D.str s30), V.one true (D.int IntKind.i64 i31), V.one true (D.int IntKind.i64 i32), V.one true (D.int IntKind.i64 i33), V.one true (D.int IntKind.i64 i34), V.one true (D.int IntKind.i64 i35), V.one true (D.int IntKind.i64 i36), V.one true (D.int IntKind.i64 i37), V.one true (D.int IntKind.i64 i38), V.one true (D.int IntKind.i64 i39), V.one true (D.int IntKind.i64 i40), V.one true (D.int IntKind.i64 i41)], Ob.mp l42])
theorem impl_hardest.l6_eq (n : Nat) (m6 : Nat) (s0 : ByteArray) (l1 : List (List D)) (l2 : List (List D)) (l3 : List (List D)) (l4 : List (List D)) (l5 : List (List D × List D)) (i6 : Int) (l7 : List (List D)) (i8 : Int) (i9 : Int) (i10 : Int) (i11 : Int) (i12 : Int) (i13 : Int) (i14 : Int) (i15 : Int) (i16 : Int) (i17 : Int) (s18 : ByteArray) (i19 : Int) (i20 : Int) (i21 : Int) (i22 : Int) (i23 : Int) (i24 : Int) (i25 : Int) (i26 : Int) (i27 : Int) (i28 : Int) (i29 : Int) (s30 : ByteArray) (i31 : Int) (i32 : Int) (i33 : Int) (i34 : Int) (i35 : Int) (i36 : Int) (i37 : Int) (i38 : Int) (i39 : Int) (i40 : Int) (i41 : Int) (l42 : List (List D × List D)) :
    impl_hardest.l6 n (m6 + 1) s0 l1 l2 l3 l4 l5 i6 l7 i8 i9 i10 i11 i12 i13 i14 i15 i16 i17 s18 i19 i20 i21 i22 i23 i24 i25 i26 i27 i28 i29 s30 i31 i32 i33 i34 i35 i36 i37 i38 i39 i40 i41 l42 = bif decide (i9 < i8) then bif decide ((0 : Int) ≤ i9) then bif decide (i9 < (↑(List.length l7) : Int)) then Option.bind (Option.bind (some (cellD l7 (Int.toNat i9) (0 : Nat))) (D.int? IntKind.i64)) fun (i1 : Int) => Option.bind (Option.bind (some (cellD l7 (Int.toNat i9) (1 : Nat))) (D.int? IntKind.i64)) fun (i2 : Int) => Option.bind (Option.bind (some (cellD l7 (Int.toNat i9) (2 : Nat))) (D.int? IntKind.i64)) fun (i3 : Int) => Option.bind (Option.bind (some (cellD l7 (Int.toNat i9) (3 : Nat))) (D.int? IntKind.i64)) fun (i4 : Int) => Option.bind (Option.bind (some (cellD l7 (Int.toNat i9) (4 : Nat))) (D.int? IntKind.i64)) fun (i5 : Int) => Option.bind (Option.bind (some (cellD l7 (Int.toNat i9) (5 : Nat))) (D.int? IntKind.i64)) fun (i6_1 : Int) => Option.bind (Option.bind (some (cellD l7 (Int.toNat i9) (6 : Nat))) (D.int? IntKind.i64)) fun (i7 : Int) => Option.bind (Option.bind (some (cellD l7 (Int.toNat i9) (7 : Nat))) (D.int? IntKind.i64)) fun (i8_1 : Int) => Option.bind (mpGet [D.int IntKind.i64 i2, D.int IntKind.i64 i1, D.int IntKind.i64 i3] l42) fun (d9 : Option (List D)) => bif decide (List.length (Option.getD d9 [D.bool false]) = (1 : Nat)) then Option.bind (Option.bind (some (cellD [Option.getD d9 [D.bool false]] (0 : Nat) (0 : Nat))) D.bool?) fun (b10 : Bool) => bif b10 then impl_hardest.l6 n m6 s0 l1 l2 l3 l4 l5 i6 l7 i8 (IntKind.wrap IntKind.i64 (i9 + (1 : Int))) i10 i11 i12 i13 i14 i15 i16 i17 s18 i19 i20 i21 i22 i23 i24 i25 i26 i27 i28 i29 s30 i31 i32 i33 i34 i35 i36 i37 i38 i39 i40 i41 l42 else Option.bind (mpSet [D.int IntKind.i64 i2, D.int IntKind.i64 i1, D.int IntKind.i64 i3] [D.bool true] l42) fun (l11 : List (List D × List D)) => bif decide ((0 : Int) ≤ i9) then bif decide (i9 < (↑(List.length l4) : Int)) then Option.bind (Option.bind (some (cellD l4 (Int.toNat i9) (0 : Nat))) (D.int? IntKind.i64)) fun (i12_1 : Int) => bif decide (i12_1 > i6) then bif decide ((0 : Int) ≤ i9) then bif decide (i9 < (↑(List.length l4) : Int)) then Option.bind (Option.bind (some (cellD l4 (Int.toNat i9) (0 : Nat))) (D.int? IntKind.i64)) fun (i13_1 : Int) => impl_hardest.l6 n m6 s0 l1 l2 l3 l4 l5 i13_1 l7 i8 (IntKind.wrap IntKind.i64 (i9 + (1 : Int))) i10 i11 i12 i13 i14 i15 i16 i17 s18 i19 i20 i21 i22 i23 i24 i25 i26 i27 i28 i29 s0 i10 i11 i12 i13 i14 i15 i16 i17 i1 i2 i3 l11 else none else none else bif decide ((0 : Int) ≤ i9) then bif decide (i9 < (↑(List.length l4) : Int)) then Option.bind (Option.bind (some (cellD l4 (Int.toNat i9) (0 : Nat))) (D.int? IntKind.i64)) fun (i14_1 : Int) => bif i14_1 == i6 then bif decide (cmp3 i2 i1 i3 i40 i39 i41 < (0 : Int)) then bif decide ((0 : Int) ≤ i9) then bif decide (i9 < (↑(List.length l4) : Int)) then Option.bind (Option.bind (some (cellD l4 (Int.toNat i9) (0 : Nat))) (D.int? IntKind.i64)) fun (i15_1 : Int) => impl_hardest.l6 n m6 s0 l1 l2 l3 l4 l5 i15_1 l7 i8 (IntKind.wrap IntKind.i64 (i9 + (1 : Int))) i10 i11 i12 i13 i14 i15 i16 i17 s18 i19 i20 i21 i22 i23 i24 i25 i26 i27 i28 i29 s0 i10 i11 i12 i13 i14 i15 i16 i17 i1 i2 i3 l11 else none else none else impl_hardest.l6 n m6 s0 l1 l2 l3 l4 l5 i6 l7 i8 (IntKind.wrap IntKind.i64 (i9 + (1 : Int))) i10 i11 i12 i13 i14 i15 i16 i17 s18 i19 i20 i21 i22 i23 i24 i25 i26 i27 i28 i29 s30 i31 i32 i33 i34 i35 i36 i37 i38 i39 i40 i41 l11 else impl_hardest.l6 n m6 s0 l1 l2 l3 l4 l5 i6 l7 i8 (IntKind.wrap IntKind.i64 (i9 + (1 : Int))) i10 i11 i12 i13 i14 i15 i16 i17 s18 i19 i20 i21 i22 i23 i24 i25 i26 i27 i28 i29 s30 i31 i32 i33 i34 i35 i36 i37 i38 i39 i40 i41 l11 else none else none else none else none else none else none else none else bif decide (i6 > (60 : Int)) then some [Q.agg [D.str (ByteArray.mk #[]), D.int IntKind.i64 (0 : Int), D.int IntKind.i64 (0 : Int), D.int IntKind.i64 (0 : Int), D.int IntKind.i64 (0 : Int), D.int IntKind.i64 (0 : Int), D.int IntKind.i64 (0 : Int), D.int IntKind.i64 (0 : Int), D.int IntKind.i64 (0 : Int), D.int IntKind.i64 (0 : Int), D.int IntKind.i64 (0 : Int), D.int IntKind.i64 (0 : Int)], Q.one (D.int IntKind.i64 (0 : Int)), Q.one (D.bool false)] else some [Q.agg [D.str s30, D.int IntKind.i64 i31, D.int IntKind.i64 i32, D.int IntKind.i64 i33, D.int IntKind.i64 i34, D.int IntKind.i64 i35, D.int IntKind.i64 i36, D.int IntKind.i64 i37, D.int IntKind.i64 i38, D.int IntKind.i64 i39, D.int IntKind.i64 i40, D.int IntKind.i64 i41], Q.one (D.int IntKind.i64 i6), Q.one (D.bool true)] := by kernel_rfl
noncomputable def impl_hardest.res (n : Nat) (a0 : ByteArray) (a1_0 : Int) (a1_1 : Int) (a1_2 : Int) (a1_3 : Int) (a1_4 : Int) (a1_5 : Int) (a1_6 : Int) (a1_7 : Int) : Option (List Q) :=
  bif decide (ByteArray.size a0 < (17179869184 : Nat)) then bif okSt a0 (Sta.mk a1_0 a1_1 (Die.mk a1_2 a1_3 a1_4 a1_5 a1_6 a1_7)) then impl_hardest.l6 n n a0 (Cod.encs stC (usC (wyC (isFl (rws a0)) (Sta.mk a1_0 a1_1 (Die.mk a1_2 a1_3 a1_4 a1_5 a1_6 a1_7))))) (Cod.encs intC (besC (wyC (isFl (rws a0)) (Sta.mk a1_0 a1_1 (Die.mk a1_2 a1_3 a1_4 a1_5 a1_6 a1_7))))) (Cod.encs u8C (rlsC (wyC (isFl (rws a0)) (Sta.mk a1_0 a1_1 (Die.mk a1_2 a1_3 a1_4 a1_5 a1_6 a1_7))))) (Cod.encs intC (fasC (wyC (isFl (rws a0)) (Sta.mk a1_0 a1_1 (Die.mk a1_2 a1_3 a1_4 a1_5 a1_6 a1_7))))) (plU (usC (wyC (isFl (rws a0)) (Sta.mk a1_0 a1_1 (Die.mk a1_2 a1_3 a1_4 a1_5 a1_6 a1_7))))) (-1 : Int) (Cod.encs stC (usC (wyC (isFl (rws a0)) (Sta.mk a1_0 a1_1 (Die.mk a1_2 a1_3 a1_4 a1_5 a1_6 a1_7))))) (↑(List.length (Cod.encs stC (usC (wyC (isFl (rws a0)) (Sta.mk a1_0 a1_1 (Die.mk a1_2 a1_3 a1_4 a1_5 a1_6 a1_7)))))) : Int) (0 : Int) a1_0 a1_1 a1_2 a1_3 a1_4 a1_5 a1_6 a1_7 (ByteArray.mk #[]) (0 : Int) (0 : Int) (0 : Int) (0 : Int) (0 : Int) (0 : Int) (0 : Int) (0 : Int) (0 : Int) (0 : Int) (0 : Int) (ByteArray.mk #[]) (0 : Int) (0 : Int) (0 : Int) (0 : Int) (0 : Int) (0 : Int) (0 : Int) (0 : Int) (0 : Int) (0 : Int) (0 : Int) [] else some [Q.agg [D.str (ByteArray.mk #[]), D.int IntKind.i64 (0 : Int), D.int IntKind.i64 (0 : Int), D.int IntKind.i64 (0 : Int), D.int IntKind.i64 (0 : Int), D.int IntKind.i64 (0 : Int), D.int IntKind.i64 (0 : Int), D.int IntKind.i64 (0 : Int), D.int IntKind.i64 (0 : Int), D.int IntKind.i64 (0 : Int), D.int IntKind.i64 (0 : Int), D.int IntKind.i64 (0 : Int)], Q.one (D.int IntKind.i64 (0 : Int)), Q.one (D.bool false)] else none
theorem impl_hardest.run (n : Nat) (a0 : ByteArray) (a1_0 : Int) (a1_1 : Int) (a1_2 : Int) (a1_3 : Int) (a1_4 : Int) (a1_5 : Int) (a1_6 : Int) (a1_7 : Int) :
    run1 impl_hardest.cfg [RK.agg [LK.str, LK.int IntKind.i64, LK.int IntKind.i64, LK.int IntKind.i64, LK.int IntKind.i64, LK.int IntKind.i64, LK.int IntKind.i64, LK.int IntKind.i64, LK.int IntKind.i64, LK.int IntKind.i64, LK.int IntKind.i64, LK.int IntKind.i64], RK.one (LK.int IntKind.i64), RK.one LK.bool] n Tryd.f45 [Q.one (D.str a0), Q.agg [D.int IntKind.i64 a1_0, D.int IntKind.i64 a1_1, D.int IntKind.i64 a1_2, D.int IntKind.i64 a1_3, D.int IntKind.i64 a1_4, D.int IntKind.i64 a1_5, D.int IntKind.i64 a1_6, D.int IntKind.i64 a1_7]] = impl_hardest.res n a0 a1_0 a1_1 a1_2 a1_3 a1_4 a1_5 a1_6 a1_7 := by kernel_rfl
theorem impl_hardest.ev {n : Nat} {a0 : ByteArray} {a1_0 : Int} {a1_1 : Int} {a1_2 : Int} {a1_3 : Int} {a1_4 : Int} {a1_5 : Int} {a1_6 : Int} {a1_7 : Int} {r : List Q} (h : impl_hardest.res n a0 a1_0 a1_1 a1_2 a1_3 a1_4 a1_5 a1_6 a1_7 = some r) : Snd Tryd.prog C0 45 [.one (.str a0), .agg [.int .i64 a1_0, .int .i64 a1_1, .int .i64 a1_2, .int .i64 a1_3, .int .i64 a1_4, .int .i64 a1_5, .int .i64 a1_6, .int .i64 a1_7]] r :=
  snd_ev (C := impl_hardest.cfg) cfg0 mix rfl rfl rfl rfl rfl (.cons impl_reachOn.ok (.cons slices_Compare_Sint_int.ok .nil)) .nil rfl Tryd.func45 (by kernel_rfl) (by kernel_rfl) rfl ((impl_hardest.run n a0 a1_0 a1_1 a1_2 a1_3 a1_4 a1_5 a1_6 a1_7).trans h)

def outH (q : ByteArray) (s : Sta) (r : Hd) : List Q := bif decide (r.most > 60) then [Q.agg [.str ⟨#[]⟩, .int .i64 0, .int .i64 0, .int .i64 0, .int .i64 0, .int .i64 0, .int .i64 0, .int .i64 0, .int .i64 0, .int .i64 0, .int .i64 0, .int .i64 0], Q.one (.int .i64 0), Q.one (.bool false)] else [Q.agg [.str (onS (isG r.best) q), .int .i64 (onI (isG r.best) s.x), .int .i64 (onI (isG r.best) s.y), .int .i64 (onI (isG r.best) s.d.t), .int .i64 (onI (isG r.best) s.d.n), .int .i64 (onI (isG r.best) s.d.e), .int .i64 (onI (isG r.best) s.d.s), .int .i64 (onI (isG r.best) s.d.w), .int .i64 (onI (isG r.best) s.d.b), .int .i64 (gO r.best).x, .int .i64 (gO r.best).y, .int .i64 (gO r.best).t], Q.one (.int .i64 r.most), Q.one (.bool true)]
theorem impl_hardest.l6_run {n : Nat} {q : ByteArray} {s : Sta} {l1 : List (List D)} {l2 : List (List D)} {l3 : List (List D)} {l5 : List (List D × List D)} {s18 : ByteArray} {i19 : Int} {i20 : Int} {i21 : Int} {i22 : Int} {i23 : Int} {i24 : Int} {i25 : Int} {i26 : Int} {i27 : Int} {i28 : Int} {i29 : Int} {C : List Cr} (hl : C.length ≤ BIG) : ∀ (d i m : Nat) (h : Hd), i + d = C.length → d < m →
    impl_hardest.l6 n m q l1 l2 l3 (intC.encs (C.map Cr.far)) l5 h.most (stC.encs (C.map Cr.u)) ((C.length : Nat) : Int) (i : Int) s.x s.y s.d.t s.d.n s.d.e s.d.s s.d.w s.d.b s18 i19 i20 i21 i22 i23 i24 i25 i26 i27 i28 i29 (onS (isG h.best) q) (onI (isG h.best) s.x) (onI (isG h.best) s.y) (onI (isG h.best) s.d.t) (onI (isG h.best) s.d.n) (onI (isG h.best) s.d.e) (onI (isG h.best) s.d.s) (onI (isG h.best) s.d.w) (onI (isG h.best) s.d.b) (gO h.best).x (gO h.best).y (gO h.best).t (mpG h.seen) = some (outH q s ((C.drop i).foldl hdStep h)) := by
  intro d
  induction d with
  | zero =>
    intro i m h hi hm
    obtain ⟨m, rfl⟩ : ∃ m', m = m' + 1 := ⟨m - 1, by omega⟩
    have h1 : ¬ (i : Int) < ((C.length : Nat) : Int) := by omega
    rw [impl_hardest.l6_eq, List.drop_of_length_le (by omega)]
    simp only [h1, decide_false, cond_false]
    unfold outH
    rw [List.foldl_nil]
    cases decide (h.most > 60) <;> rfl
  | succ d ih =>
    intro i m h hi hm
    obtain ⟨m, rfl⟩ : ∃ m', m = m' + 1 := ⟨m - 1, by omega⟩
    unfold BIG at hl
    have hlt : i < C.length := by omega
    have hltu : i < (C.map Cr.u).length := by rw [List.length_map]; exact hlt
    have hltf : i < (C.map Cr.far).length := by rw [List.length_map]; exact hlt
    have h1 : (i : Int) < ((C.length : Nat) : Int) := by omega
    obtain ⟨c0, c1, c2, c3, c4, c5, c6, c7⟩ := st_cells hltu
    have c8 := intC_at hltf
    rw [List.getElem_map] at c0 c1 c2 c3 c4 c5 c6 c7 c8
    have step := ih (i + 1) m (hdStep h C[i]) (by omega) (by omega)
    have hget : mpGet [D.int .i64 C[i].u.y, D.int .i64 C[i].u.x, D.int .i64 C[i].u.d.t] (mpG h.seen) = some (bif hasG (glOf C[i].u) h.seen then some [D.bool true] else none) := mpGet_G (glOf C[i].u) h.seen
    rw [impl_hardest.l6_eq, List.drop_eq_getElem_cons hlt, List.foldl_cons, ← step]
    simp only [h1, Cod.encs_len, List.length_map, Int.natCast_nonneg, Int.toNat_natCast, decide_true, cond_true, c0, c1, c2, c3, c4, c5, c6, c7, Option.bind_some, hget, wrap_succ (show i ≤ LIM by unfold LIM; omega)]
    cases hh : hasG (glOf C[i].u) h.seen with
    | true =>
      simp only [cond_true, Option.getD_some, List.length_singleton, decide_true]
      have e : hdStep h C[i] = h := by
        unfold hdStep
        rw [hh]; rfl
      rw [e]
      rfl
    | false =>
      simp only [cond_false, Option.getD_none, List.length_singleton, decide_true, cond_true]
      show (Option.bind (some false) _) = _
      have hset : mpSet [D.int .i64 C[i].u.y, D.int .i64 C[i].u.x, D.int .i64 C[i].u.d.t] [D.bool true] (mpG h.seen) = some (mpG (h.seen ++ [glOf C[i].u])) := mpSet_G (glOf C[i].u) h.seen hh
      simp only [Option.bind_some, cond_false, hset, h1, Int.natCast_nonneg, Int.toNat_natCast, decide_true, cond_true, c8, ieq, cmp3_lt]
      unfold hdStep hdLt
      rw [hh]
      simp only [cond_false]
      rw [show ltG C[i].u.y C[i].u.x C[i].u.d.t (gO h.best).y (gO h.best).x (gO h.best).t = ltG (glOf C[i].u).y (glOf C[i].u).x (glOf C[i].u).t (gO h.best).y (gO h.best).x (gO h.best).t from rfl]
      by_cases e1 : C[i].far > h.most
      · simp only [e1, decide_true, cond_true, Bool.true_or]
        rfl
      · by_cases e2 : C[i].far = h.most
        · cases e3 : ltG (glOf C[i].u).y (glOf C[i].u).x (glOf C[i].u).t (gO h.best).y (gO h.best).x (gO h.best).t with
          | true =>
            simp only [e1, e2, decide_true, decide_false, cond_true, cond_false, Bool.false_or, Bool.true_and, Bool.or_true]
            try simp only [Int.lt_irrefl, gt_iff_lt, decide_false, cond_false, List.map_append, List.map_cons, List.map_nil]
            try rfl
          | false =>
            simp only [e1, e2, decide_true, decide_false, cond_true, cond_false, Bool.false_or, Bool.true_and, Bool.or_false]
            try simp only [Int.lt_irrefl, gt_iff_lt, decide_false, cond_false, List.map_append, List.map_cons, List.map_nil]
            try rfl
        · simp only [e1, e2, decide_true, decide_false, cond_true, cond_false, Bool.false_or, Bool.false_and]
          try rfl
def impl_hardest.stub : Stub
  | [.one (.str q), .agg [.int .i64 x, .int .i64 y, .int .i64 t, .int .i64 n, .int .i64 e, .int .i64 s, .int .i64 w, .int .i64 b]] => .gd (decide (q.size < LIM)) (.ret [.agg [.str (Sp.onS (Sp.hdB q ⟨x, y, ⟨t, n, e, s, w, b⟩⟩) q), .int .i64 (Sp.onI (Sp.hdB q ⟨x, y, ⟨t, n, e, s, w, b⟩⟩) x), .int .i64 (Sp.onI (Sp.hdB q ⟨x, y, ⟨t, n, e, s, w, b⟩⟩) y), .int .i64 (Sp.onI (Sp.hdB q ⟨x, y, ⟨t, n, e, s, w, b⟩⟩) t), .int .i64 (Sp.onI (Sp.hdB q ⟨x, y, ⟨t, n, e, s, w, b⟩⟩) n), .int .i64 (Sp.onI (Sp.hdB q ⟨x, y, ⟨t, n, e, s, w, b⟩⟩) e), .int .i64 (Sp.onI (Sp.hdB q ⟨x, y, ⟨t, n, e, s, w, b⟩⟩) s), .int .i64 (Sp.onI (Sp.hdB q ⟨x, y, ⟨t, n, e, s, w, b⟩⟩) w), .int .i64 (Sp.onI (Sp.hdB q ⟨x, y, ⟨t, n, e, s, w, b⟩⟩) b), .int .i64 (Sp.onI (Sp.hdB q ⟨x, y, ⟨t, n, e, s, w, b⟩⟩) (Sp.hdG q ⟨x, y, ⟨t, n, e, s, w, b⟩⟩).x), .int .i64 (Sp.onI (Sp.hdB q ⟨x, y, ⟨t, n, e, s, w, b⟩⟩) (Sp.hdG q ⟨x, y, ⟨t, n, e, s, w, b⟩⟩).y), .int .i64 (Sp.onI (Sp.hdB q ⟨x, y, ⟨t, n, e, s, w, b⟩⟩) (Sp.hdG q ⟨x, y, ⟨t, n, e, s, w, b⟩⟩).t)], .one (.int .i64 (Sp.onI (Sp.hdB q ⟨x, y, ⟨t, n, e, s, w, b⟩⟩) (Sp.hdM q ⟨x, y, ⟨t, n, e, s, w, b⟩⟩))), .one (.bool (Sp.hdB q ⟨x, y, ⟨t, n, e, s, w, b⟩⟩))])
  | _ => .fail
theorem impl_hardest.ok : StubOk Tryd.prog C0 45 impl_hardest.stub := by
  intro args res h
  unfold impl_hardest.stub at h
  split at h
  · rename_i q x y t n e s w b
    obtain ⟨hs, h0⟩ := gd_out h
    cases h0
    unfold LIM at hs
    obtain ⟨N, hN⟩ : ∃ N, BIG + 64 ≤ N := ⟨BIG + 64, Nat.le_refl _⟩
    refine impl_hardest.ev (n := N) ?_
    unfold impl_hardest.res
    have e1 : hdB q ⟨x, y, ⟨t, n, e, s, w, b⟩⟩ = (okSt q ⟨x, y, ⟨t, n, e, s, w, b⟩⟩ && decide (hdM q ⟨x, y, ⟨t, n, e, s, w, b⟩⟩ ≤ 60)) := rfl
    rw [hs, e1]
    cases ho : okSt q ⟨x, y, ⟨t, n, e, s, w, b⟩⟩ with
    | false => rfl
    | true =>
      have hlen := wyC_len ho
      have hb2 := hdAll_some (isFl (rws q)) ⟨x, y, ⟨t, n, e, s, w, b⟩⟩
      simp only [cond_true, usC, besC, rlsC, fasC, Cod.encs_len, List.length_map]
      have key := impl_hardest.l6_run (n := N) (q := q) (s := ⟨x, y, ⟨t, n, e, s, w, b⟩⟩) (C := wyC (isFl (rws q)) ⟨x, y, ⟨t, n, e, s, w, b⟩⟩) (l1 := stC.encs ((wyC (isFl (rws q)) ⟨x, y, ⟨t, n, e, s, w, b⟩⟩).map Cr.u)) (l2 := intC.encs ((wyC (isFl (rws q)) ⟨x, y, ⟨t, n, e, s, w, b⟩⟩).map Cr.bef)) (l3 := u8C.encs ((wyC (isFl (rws q)) ⟨x, y, ⟨t, n, e, s, w, b⟩⟩).map Cr.rl)) (l5 := plU ((wyC (isFl (rws q)) ⟨x, y, ⟨t, n, e, s, w, b⟩⟩).map Cr.u)) (s18 := ByteArray.mk #[]) (i19 := 0) (i20 := 0) (i21 := 0) (i22 := 0) (i23 := 0) (i24 := 0) (i25 := 0) (i26 := 0) (i27 := 0) (i28 := 0) (i29 := 0) (by omega) _ 0 N ⟨[], none, -1⟩ (Nat.zero_add _) (by omega)
      rw [List.drop_zero] at key
      refine Eq.trans key ?_
      unfold outH
      unfold hdAll at hb2
      rw [hb2]
      by_cases h6 : hdM q ⟨x, y, ⟨t, n, e, s, w, b⟩⟩ > 60
      · have h7 : ¬ hdM q ⟨x, y, ⟨t, n, e, s, w, b⟩⟩ ≤ 60 := by omega
        have h8 : (List.foldl hdStep ⟨[], none, -1⟩ (wyC (isFl (rws q)) ⟨x, y, ⟨t, n, e, s, w, b⟩⟩)).most > 60 := h6
        simp only [h7, h8, decide_true, decide_false, cond_true, Bool.and_false]
        rfl
      · have h7 : hdM q ⟨x, y, ⟨t, n, e, s, w, b⟩⟩ ≤ 60 := by omega
        have h8 : ¬ (List.foldl hdStep ⟨[], none, -1⟩ (wyC (isFl (rws q)) ⟨x, y, ⟨t, n, e, s, w, b⟩⟩)).most > 60 := h6
        simp only [h7, h8, decide_true, decide_false, cond_false, Bool.and_true]
        rfl
  · cases h
/-! impl_HardestGoal -/
noncomputable def impl_HardestGoal.cfg : Cfg := { C0 with keep := fun _ => none, nb := 0, M := tabM [(45, impl_hardest.stub)], MM := tabB [] }
noncomputable def impl_HardestGoal.res (n : Nat) (a0 : ByteArray) (a1_0 : Int) (a1_1 : Int) (a1_2 : Int) (a1_3 : Int) (a1_4 : Int) (a1_5 : Int) (a1_6 : Int) (a1_7 : Int) : Option (List Q) :=
  bif decide (ByteArray.size a0 < (17179869184 : Nat)) then some [Q.agg [D.str (onS (hdB a0 (Sta.mk a1_0 a1_1 (Die.mk a1_2 a1_3 a1_4 a1_5 a1_6 a1_7))) a0), D.int IntKind.i64 (onI (hdB a0 (Sta.mk a1_0 a1_1 (Die.mk a1_2 a1_3 a1_4 a1_5 a1_6 a1_7))) a1_0), D.int IntKind.i64 (onI (hdB a0 (Sta.mk a1_0 a1_1 (Die.mk a1_2 a1_3 a1_4 a1_5 a1_6 a1_7))) a1_1), D.int IntKind.i64 (onI (hdB a0 (Sta.mk a1_0 a1_1 (Die.mk a1_2 a1_3 a1_4 a1_5 a1_6 a1_7))) a1_2), D.int IntKind.i64 (onI (hdB a0 (Sta.mk a1_0 a1_1 (Die.mk a1_2 a1_3 a1_4 a1_5 a1_6 a1_7))) a1_3), D.int IntKind.i64 (onI (hdB a0 (Sta.mk a1_0 a1_1 (Die.mk a1_2 a1_3 a1_4 a1_5 a1_6 a1_7))) a1_4), D.int IntKind.i64 (onI (hdB a0 (Sta.mk a1_0 a1_1 (Die.mk a1_2 a1_3 a1_4 a1_5 a1_6 a1_7))) a1_5), D.int IntKind.i64 (onI (hdB a0 (Sta.mk a1_0 a1_1 (Die.mk a1_2 a1_3 a1_4 a1_5 a1_6 a1_7))) a1_6), D.int IntKind.i64 (onI (hdB a0 (Sta.mk a1_0 a1_1 (Die.mk a1_2 a1_3 a1_4 a1_5 a1_6 a1_7))) a1_7), D.int IntKind.i64 (onI (hdB a0 (Sta.mk a1_0 a1_1 (Die.mk a1_2 a1_3 a1_4 a1_5 a1_6 a1_7))) (Gl.x (hdG a0 (Sta.mk a1_0 a1_1 (Die.mk a1_2 a1_3 a1_4 a1_5 a1_6 a1_7))))), D.int IntKind.i64 (onI (hdB a0 (Sta.mk a1_0 a1_1 (Die.mk a1_2 a1_3 a1_4 a1_5 a1_6 a1_7))) (Gl.y (hdG a0 (Sta.mk a1_0 a1_1 (Die.mk a1_2 a1_3 a1_4 a1_5 a1_6 a1_7))))), D.int IntKind.i64 (onI (hdB a0 (Sta.mk a1_0 a1_1 (Die.mk a1_2 a1_3 a1_4 a1_5 a1_6 a1_7))) (Gl.t (hdG a0 (Sta.mk a1_0 a1_1 (Die.mk a1_2 a1_3 a1_4 a1_5 a1_6 a1_7)))))], Q.one (D.int IntKind.i64 (onI (hdB a0 (Sta.mk a1_0 a1_1 (Die.mk a1_2 a1_3 a1_4 a1_5 a1_6 a1_7))) (hdM a0 (Sta.mk a1_0 a1_1 (Die.mk a1_2 a1_3 a1_4 a1_5 a1_6 a1_7))))), Q.one (D.bool (hdB a0 (Sta.mk a1_0 a1_1 (Die.mk a1_2 a1_3 a1_4 a1_5 a1_6 a1_7))))] else none
theorem impl_HardestGoal.run (n : Nat) (a0 : ByteArray) (a1_0 : Int) (a1_1 : Int) (a1_2 : Int) (a1_3 : Int) (a1_4 : Int) (a1_5 : Int) (a1_6 : Int) (a1_7 : Int) :
    run1 impl_HardestGoal.cfg [RK.agg [LK.str, LK.int IntKind.i64, LK.int IntKind.i64, LK.int IntKind.i64, LK.int IntKind.i64, LK.int IntKind.i64, LK.int IntKind.i64, LK.int IntKind.i64, LK.int IntKind.i64, LK.int IntKind.i64, LK.int IntKind.i64, LK.int IntKind.i64], RK.one (LK.int IntKind.i64), RK.one LK.bool] n Tryd.f19 [Q.one (D.str a0), Q.agg [D.int IntKind.i64 a1_0, D.int IntKind.i64 a1_1, D.int IntKind.i64 a1_2, D.int IntKind.i64 a1_3, D.int IntKind.i64 a1_4, D.int IntKind.i64 a1_5, D.int IntKind.i64 a1_6, D.int IntKind.i64 a1_7]] = impl_HardestGoal.res n a0 a1_0 a1_1 a1_2 a1_3 a1_4 a1_5 a1_6 a1_7 := by kernel_rfl
theorem impl_HardestGoal.ev {n : Nat} {a0 : ByteArray} {a1_0 : Int} {a1_1 : Int} {a1_2 : Int} {a1_3 : Int} {a1_4 : Int} {a1_5 : Int} {a1_6 : Int} {a1_7 : Int} {r : List Q} (h : impl_HardestGoal.res n a0 a1_0 a1_1 a1_2 a1_3 a1_4 a1_5 a1_6 a1_7 = some r) : Snd Tryd.prog C0 19 [.one (.str a0), .agg [.int .i64 a1_0, .int .i64 a1_1, .int .i64 a1_2, .int .i64 a1_3, .int .i64 a1_4, .int .i64 a1_5, .int .i64 a1_6, .int .i64 a1_7]] r :=
  snd_ev (C := impl_HardestGoal.cfg) cfg0 mix rfl rfl rfl rfl rfl (.cons impl_hardest.ok .nil) .nil rfl Tryd.func19 (by kernel_rfl) (by kernel_rfl) rfl ((impl_HardestGoal.run n a0 a1_0 a1_1 a1_2 a1_3 a1_4 a1_5 a1_6 a1_7).trans h)

def impl_HardestGoal.stub : Stub
  | [.one (.str q), .agg [.int .i64 x, .int .i64 y, .int .i64 t, .int .i64 n, .int .i64 e, .int .i64 s, .int .i64 w, .int .i64 b]] => .gd (decide (q.size < LIM)) (.ret [.agg [.str (Sp.onS (Sp.hdB q ⟨x, y, ⟨t, n, e, s, w, b⟩⟩) q), .int .i64 (Sp.onI (Sp.hdB q ⟨x, y, ⟨t, n, e, s, w, b⟩⟩) x), .int .i64 (Sp.onI (Sp.hdB q ⟨x, y, ⟨t, n, e, s, w, b⟩⟩) y), .int .i64 (Sp.onI (Sp.hdB q ⟨x, y, ⟨t, n, e, s, w, b⟩⟩) t), .int .i64 (Sp.onI (Sp.hdB q ⟨x, y, ⟨t, n, e, s, w, b⟩⟩) n), .int .i64 (Sp.onI (Sp.hdB q ⟨x, y, ⟨t, n, e, s, w, b⟩⟩) e), .int .i64 (Sp.onI (Sp.hdB q ⟨x, y, ⟨t, n, e, s, w, b⟩⟩) s), .int .i64 (Sp.onI (Sp.hdB q ⟨x, y, ⟨t, n, e, s, w, b⟩⟩) w), .int .i64 (Sp.onI (Sp.hdB q ⟨x, y, ⟨t, n, e, s, w, b⟩⟩) b), .int .i64 (Sp.onI (Sp.hdB q ⟨x, y, ⟨t, n, e, s, w, b⟩⟩) (Sp.hdG q ⟨x, y, ⟨t, n, e, s, w, b⟩⟩).x), .int .i64 (Sp.onI (Sp.hdB q ⟨x, y, ⟨t, n, e, s, w, b⟩⟩) (Sp.hdG q ⟨x, y, ⟨t, n, e, s, w, b⟩⟩).y), .int .i64 (Sp.onI (Sp.hdB q ⟨x, y, ⟨t, n, e, s, w, b⟩⟩) (Sp.hdG q ⟨x, y, ⟨t, n, e, s, w, b⟩⟩).t)], .one (.int .i64 (Sp.onI (Sp.hdB q ⟨x, y, ⟨t, n, e, s, w, b⟩⟩) (Sp.hdM q ⟨x, y, ⟨t, n, e, s, w, b⟩⟩))), .one (.bool (Sp.hdB q ⟨x, y, ⟨t, n, e, s, w, b⟩⟩))])
  | _ => .fail
theorem impl_HardestGoal.ok : StubOk Tryd.prog C0 19 impl_HardestGoal.stub := by
  intro args res h
  unfold impl_HardestGoal.stub at h
  split at h
  · rename_i q x y t n e s w b
    obtain ⟨hs, h0⟩ := gd_out h
    cases h0
    unfold LIM at hs
    refine impl_HardestGoal.ev (n := 0) ?_
    unfold impl_HardestGoal.res
    rw [hs]; rfl
  · cases h
/-! laws_FnExactHardestGoal -/
noncomputable def laws_FnExactHardestGoal.cfg : Cfg := { C0 with keep := fun _ => none, nb := 0, M := tabM [(18, laws_toState.stub), (20, laws_eqPuzzle.stub), (17, spec_HardestGoal.stub), (19, impl_HardestGoal.stub)], MM := tabB [] }
noncomputable def laws_FnExactHardestGoal.res (n : Nat) (a0 : ByteArray) (a1_0 : Int) (a1_1 : Int) (a1_2 : Int) (a1_3 : Int) (a1_4 : Int) (a1_5 : Int) (a1_6 : Int) (a1_7 : Int) : Option (List Q) :=
  bif decide ((↑(ByteArray.size a0) : Int) > (1048576 : Int)) then some [Q.one (D.bool true)] else bif decide (ByteArray.size a0 < (17179869184 : Nat)) then bif decide (onS (hdB a0 (Sta.mk a1_0 a1_1 (Die.mk a1_2 a1_3 a1_4 a1_5 a1_6 a1_7))) a0 = onS (hdB a0 (Sta.mk a1_0 a1_1 (Die.mk a1_2 a1_3 a1_4 a1_5 a1_6 a1_7))) a0 ∧ onI (hdB a0 (Sta.mk a1_0 a1_1 (Die.mk a1_2 a1_3 a1_4 a1_5 a1_6 a1_7))) a1_0 = onI (hdB a0 (Sta.mk a1_0 a1_1 (Die.mk a1_2 a1_3 a1_4 a1_5 a1_6 a1_7))) a1_0 ∧ onI (hdB a0 (Sta.mk a1_0 a1_1 (Die.mk a1_2 a1_3 a1_4 a1_5 a1_6 a1_7))) a1_1 = onI (hdB a0 (Sta.mk a1_0 a1_1 (Die.mk a1_2 a1_3 a1_4 a1_5 a1_6 a1_7))) a1_1 ∧ onI (hdB a0 (Sta.mk a1_0 a1_1 (Die.mk a1_2 a1_3 a1_4 a1_5 a1_6 a1_7))) a1_2 = onI (hdB a0 (Sta.mk a1_0 a1_1 (Die.mk a1_2 a1_3 a1_4 a1_5 a1_6 a1_7))) a1_2 ∧ onI (hdB a0 (Sta.mk a1_0 a1_1 (Die.mk a1_2 a1_3 a1_4 a1_5 a1_6 a1_7))) a1_3 = onI (hdB a0 (Sta.mk a1_0 a1_1 (Die.mk a1_2 a1_3 a1_4 a1_5 a1_6 a1_7))) a1_3 ∧ onI (hdB a0 (Sta.mk a1_0 a1_1 (Die.mk a1_2 a1_3 a1_4 a1_5 a1_6 a1_7))) a1_4 = onI (hdB a0 (Sta.mk a1_0 a1_1 (Die.mk a1_2 a1_3 a1_4 a1_5 a1_6 a1_7))) a1_4 ∧ onI (hdB a0 (Sta.mk a1_0 a1_1 (Die.mk a1_2 a1_3 a1_4 a1_5 a1_6 a1_7))) a1_5 = onI (hdB a0 (Sta.mk a1_0 a1_1 (Die.mk a1_2 a1_3 a1_4 a1_5 a1_6 a1_7))) a1_5 ∧ onI (hdB a0 (Sta.mk a1_0 a1_1 (Die.mk a1_2 a1_3 a1_4 a1_5 a1_6 a1_7))) a1_6 = onI (hdB a0 (Sta.mk a1_0 a1_1 (Die.mk a1_2 a1_3 a1_4 a1_5 a1_6 a1_7))) a1_6 ∧ onI (hdB a0 (Sta.mk a1_0 a1_1 (Die.mk a1_2 a1_3 a1_4 a1_5 a1_6 a1_7))) a1_7 = onI (hdB a0 (Sta.mk a1_0 a1_1 (Die.mk a1_2 a1_3 a1_4 a1_5 a1_6 a1_7))) a1_7 ∧ onI (hdB a0 (Sta.mk a1_0 a1_1 (Die.mk a1_2 a1_3 a1_4 a1_5 a1_6 a1_7))) (Gl.x (hdG a0 (Sta.mk a1_0 a1_1 (Die.mk a1_2 a1_3 a1_4 a1_5 a1_6 a1_7)))) = onI (hdB a0 (Sta.mk a1_0 a1_1 (Die.mk a1_2 a1_3 a1_4 a1_5 a1_6 a1_7))) (Gl.x (hdG a0 (Sta.mk a1_0 a1_1 (Die.mk a1_2 a1_3 a1_4 a1_5 a1_6 a1_7)))) ∧ onI (hdB a0 (Sta.mk a1_0 a1_1 (Die.mk a1_2 a1_3 a1_4 a1_5 a1_6 a1_7))) (Gl.y (hdG a0 (Sta.mk a1_0 a1_1 (Die.mk a1_2 a1_3 a1_4 a1_5 a1_6 a1_7)))) = onI (hdB a0 (Sta.mk a1_0 a1_1 (Die.mk a1_2 a1_3 a1_4 a1_5 a1_6 a1_7))) (Gl.y (hdG a0 (Sta.mk a1_0 a1_1 (Die.mk a1_2 a1_3 a1_4 a1_5 a1_6 a1_7)))) ∧ onI (hdB a0 (Sta.mk a1_0 a1_1 (Die.mk a1_2 a1_3 a1_4 a1_5 a1_6 a1_7))) (Gl.t (hdG a0 (Sta.mk a1_0 a1_1 (Die.mk a1_2 a1_3 a1_4 a1_5 a1_6 a1_7)))) = onI (hdB a0 (Sta.mk a1_0 a1_1 (Die.mk a1_2 a1_3 a1_4 a1_5 a1_6 a1_7))) (Gl.t (hdG a0 (Sta.mk a1_0 a1_1 (Die.mk a1_2 a1_3 a1_4 a1_5 a1_6 a1_7))))) then bif onI (hdB a0 (Sta.mk a1_0 a1_1 (Die.mk a1_2 a1_3 a1_4 a1_5 a1_6 a1_7))) (hdM a0 (Sta.mk a1_0 a1_1 (Die.mk a1_2 a1_3 a1_4 a1_5 a1_6 a1_7))) != onI (hdB a0 (Sta.mk a1_0 a1_1 (Die.mk a1_2 a1_3 a1_4 a1_5 a1_6 a1_7))) (hdM a0 (Sta.mk a1_0 a1_1 (Die.mk a1_2 a1_3 a1_4 a1_5 a1_6 a1_7))) then some [Q.one (D.bool false)] else bif !hdB a0 (Sta.mk a1_0 a1_1 (Die.mk a1_2 a1_3 a1_4 a1_5 a1_6 a1_7)) == hdB a0 (Sta.mk a1_0 a1_1 (Die.mk a1_2 a1_3 a1_4 a1_5 a1_6 a1_7)) then some [Q.one (D.bool false)] else some [Q.one (D.bool true)] else none else none
theorem laws_FnExactHardestGoal.run (n : Nat) (a0 : ByteArray) (a1_0 : Int) (a1_1 : Int) (a1_2 : Int) (a1_3 : Int) (a1_4 : Int) (a1_5 : Int) (a1_6 : Int) (a1_7 : Int) :
    run1 laws_FnExactHardestGoal.cfg [RK.one LK.bool] n Tryd.f5 [Q.one (D.str a0), Q.agg [D.int IntKind.i64 a1_0, D.int IntKind.i64 a1_1, D.int IntKind.i64 a1_2, D.int IntKind.i64 a1_3, D.int IntKind.i64 a1_4, D.int IntKind.i64 a1_5, D.int IntKind.i64 a1_6, D.int IntKind.i64 a1_7]] = laws_FnExactHardestGoal.res n a0 a1_0 a1_1 a1_2 a1_3 a1_4 a1_5 a1_6 a1_7 := by kernel_rfl
theorem laws_FnExactHardestGoal.ev {n : Nat} {a0 : ByteArray} {a1_0 : Int} {a1_1 : Int} {a1_2 : Int} {a1_3 : Int} {a1_4 : Int} {a1_5 : Int} {a1_6 : Int} {a1_7 : Int} {r : List Q} (h : laws_FnExactHardestGoal.res n a0 a1_0 a1_1 a1_2 a1_3 a1_4 a1_5 a1_6 a1_7 = some r) : Snd Tryd.prog C0 5 [.one (.str a0), .agg [.int .i64 a1_0, .int .i64 a1_1, .int .i64 a1_2, .int .i64 a1_3, .int .i64 a1_4, .int .i64 a1_5, .int .i64 a1_6, .int .i64 a1_7]] r :=
  snd_ev (C := laws_FnExactHardestGoal.cfg) cfg0 mix rfl rfl rfl rfl rfl (.cons laws_toState.ok (.cons laws_eqPuzzle.ok (.cons spec_HardestGoal.ok (.cons impl_HardestGoal.ok .nil)))) .nil rfl Tryd.func5 (by kernel_rfl) (by kernel_rfl) rfl ((laws_FnExactHardestGoal.run n a0 a1_0 a1_1 a1_2 a1_3 a1_4 a1_5 a1_6 a1_7).trans h)

theorem laws_FnExactHardestGoal.law (q : ByteArray) (x y t n e s w b : Int) : Snd Tryd.prog C0 5 [.one (.str q), .agg [.int .i64 x, .int .i64 y, .int .i64 t, .int .i64 n, .int .i64 e, .int .i64 s, .int .i64 w, .int .i64 b]] [.one (.bool true)] := by
  refine laws_FnExactHardestGoal.ev (n := 0) ?_
  unfold laws_FnExactHardestGoal.res
  by_cases hl : ((q.size : Nat) : Int) > 1048576
  · simp only [hl, decide_true, cond_true]
  · have h1 : q.size < 17179869184 := by omega
    simp only [hl, h1, decide_true, decide_false, cond_true, cond_false, and_self, Bool.not_true, beq_self_eq_true, bne_self_eq_false]
end Go.Proofs.EV.PL
set_option linter.unusedVariables false
set_option linter.unusedSimpArgs false
set_option maxHeartbeats 4000000
/-! Needless walls. -/
namespace Go.Proofs.EV.PL
open Go Go.Proofs Go.Proofs.EV Sp
theorem u8C_set46 (l : List UInt8) (i : Nat) : setRow 1 (u8C.encs l) i 0 [D.int .u8 46] = u8C.encs (l.set i 46) := u8C_set l i 46
/-! spec_NeedlessWalls -/
noncomputable def spec_NeedlessWalls.cfg : Cfg := { C0 with keep := fun | 7 => some [1, 5, 7, 9, 32, 33, 34] | _ => none, nb := 0, M := tabM [(37, spec_puStates.stub), (47, spec_boRead.stub), (48, spec_boText.stub)], MM := tabB [] }
noncomputable def spec_NeedlessWalls.l7 (n : Nat) (m7 : Nat) (i0 : Int) (l1 : List (List D)) (i2 : Int) (i3 : Int) (s4 : ByteArray) (i5 : Int) (i6 : Int) (i7 : Int) (i8 : Int) (i9 : Int) (i10 : Int) (i11 : Int) (i12 : Int) (i13 : Int) (i14 : Int) (i15 : Int) (i16 : Int) (i17 : Int) (l18 : List (List D)) (l19 : List (List D)) : Option (List Q) :=
  loopAt spec_NeedlessWalls.cfg [RK.own (1 : Nat), RK.one LK.bool] n Tryd.f21 [1, 1, 1, 1, 1, 0, 1, 0] [] m7 (St.mk [V.undef, V.rp (0 : Nat) (0 : Nat), V.undef, V.undef, V.undef, V.one true (D.int IntKind.i64 i0), V.undef, V.rp (1 : Nat) (0 : Nat), V.undef, V.rw (2 : Nat), V.undef, V.undef, V.undef, V.undef, V.undef, V.undef, V.undef, V.undef, V.undef, V.undef, V.undef, V.undef, V.undef, V.undef, V.undef, V.undef, V.undef, V.undef, V.undef, V.undef, V.undef, V.undef, V.one true (D.sl (1 : Nat) l1), V.one true (D.int IntKind.i64 i2), V.one true (D.int IntKind.i64 i3), V.undef, V.undef, V.undef, V.undef, V.undef, V.undef, V.undef, V.undef, V.undef, V.undef, V.undef, V.undef, V.undef, V.undef, V.undef, V.undef, V.undef, V.undef, V.undef, V.undef, V.undef, V.undef, V.undef, V.undef, V.undef, V.undef, V.undef, V.undef, V.undef, V.undef, V.undef, V.undef, V.undef, V.undef, V.undef, V.undef, V.undef, V.undef, V.undef, V.undef, V.undef] [Ob.box [V.one true (D.str s4), V.one true (D.int IntKind.i64 i5), V.one true (D.int IntKind.i64 i6), V.one true (D.int IntKind.i64 i7), V.one true (D.int IntKind.i64 i8), V.one true (D.int IntKind.i64 i9), V.one true (D.int IntKind.i64 i10), V.one true (D.int IntKind.i64 i11), V.one true (D.int IntKind.i64 i12), V.one true (D.int IntKind.i64 i13), V.one true (D.int IntKind.i64 i14), V.one true (D.int IntKind.i64 i15)], Ob.box [V.one true (D.int IntKind.i64 i16), V.one true (D.int IntKind.i64 i17), V.one true (D.sl (1 : Nat) l18)], Ob.row false (1 : Nat) l19])
theorem spec_NeedlessWalls.l7_eq (n : Nat) (m7 : Nat) (i0 : Int) (l1 : List (List D)) (i2 : Int) (i3 : Int) (s4 : ByteArray) (i5 : Int) (i6 : Int) (i7 : Int) (i8 : Int) (i9 : Int) (i10 : Int) (i11 : Int) (i12 : Int) (i13 : Int) (i14 : Int) (i15 : Int) (i16 : Int) (i17 : Int) (l18 : List (List D)) (l19 : List (List D)) :
    spec_NeedlessWalls.l7 n (m7 + 1) i0 l1 i2 i3 s4 i5 i6 i7 i8 i9 i10 i11 i12 i13 i14 i15 i16 i17 l18 l19 = bif decide (i3 < i2) then bif decide ((0 : Int) ≤ i3) then bif decide (i3 < (↑(List.length l1) : Int)) then Option.bind (Option.bind (some (cellD l1 (Int.toNat i3) (0 : Nat))) (D.int? IntKind.u8)) fun (i1 : Int) => bif i1 != (35 : Int) then spec_NeedlessWalls.l7 n m7 i0 l1 i2 (IntKind.wrap IntKind.i64 (i3 + (1 : Int))) s4 i5 i6 i7 i8 i9 i10 i11 i12 i13 i14 i15 i16 i17 l18 l19 else bif decide ((0 : Nat) + List.length l18 ≤ (17179869184 : Nat)) then bif decide ((0 : Int) ≤ i3) then bif decide (i3 < (↑(List.length ([] ++ l18)) : Int)) then Option.bind (Cod.decs u8C (setRow (1 : Nat) ([] ++ l18) (Int.toNat i3) (0 : Nat) [D.int IntKind.u8 (46 : Int)])) fun (l2 : List UInt8) => bif inR i16 (0 : Int) (7 : Int) then bif inR i17 (0 : Int) (7 : Int) then bif decide (List.length l2 = Int.toNat i16 * Int.toNat i17) then bif puB (mkB (jn (chunk (Int.toNat i16) (Int.toNat i17) l2))) (Sta.mk i5 i6 (Die.mk i7 i8 i9 i10 i11 i12)) i13 i14 i15 then bif puF (mkB (jn (chunk (Int.toNat i16) (Int.toNat i17) l2))) (Sta.mk i5 i6 (Die.mk i7 i8 i9 i10 i11 i12)) i13 i14 i15 == i0 then bif decide (List.length l19 + (1 : Nat) ≤ (17179869184 : Nat)) then spec_NeedlessWalls.l7 n m7 i0 l1 i2 (IntKind.wrap IntKind.i64 (i3 + (1 : Int))) s4 i5 i6 i7 i8 i9 i10 i11 i12 i13 i14 i15 i16 i17 l18 (l19 ++ [[D.int IntKind.i64 i3]]) else none else spec_NeedlessWalls.l7 n m7 i0 l1 i2 (IntKind.wrap IntKind.i64 (i3 + (1 : Int))) s4 i5 i6 i7 i8 i9 i10 i11 i12 i13 i14 i15 i16 i17 l18 l19 else spec_NeedlessWalls.l7 n m7 i0 l1 i2 (IntKind.wrap IntKind.i64 (i3 + (1 : Int))) s4 i5 i6 i7 i8 i9 i10 i11 i12 i13 i14 i15 i16 i17 l18 l19 else none else none else none else none else none else none else none else none else some [Q.one (D.sl (1 : Nat) l19), Q.one (D.bool true)] := by kernel_rfl
noncomputable def spec_NeedlessWalls.res (n : Nat) (a0_0 : ByteArray) (a0_1 : Int) (a0_2 : Int) (a0_3 : Int) (a0_4 : Int) (a0_5 : Int) (a0_6 : Int) (a0_7 : Int) (a0_8 : Int) (a0_9 : Int) (a0_10 : Int) (a0_11 : Int) : Option (List Q) :=
  bif !puB a0_0 (Sta.mk a0_1 a0_2 (Die.mk a0_3 a0_4 a0_5 a0_6 a0_7 a0_8)) a0_9 a0_10 a0_11 then some [Q.one (D.sl (1 : Nat) []), Q.one (D.bool false)] else spec_NeedlessWalls.l7 n n (puF a0_0 (Sta.mk a0_1 a0_2 (Die.mk a0_3 a0_4 a0_5 a0_6 a0_7 a0_8)) a0_9 a0_10 a0_11) (Cod.encs u8C (boC brd a0_0)) (↑(List.length (Cod.encs u8C (boC brd a0_0))) : Int) (0 : Int) a0_0 a0_1 a0_2 a0_3 a0_4 a0_5 a0_6 a0_7 a0_8 a0_9 a0_10 a0_11 (↑(boW brd a0_0) : Int) (↑(boH brd a0_0) : Int) (Cod.encs u8C (boC brd a0_0)) []
theorem spec_NeedlessWalls.run (n : Nat) (a0_0 : ByteArray) (a0_1 : Int) (a0_2 : Int) (a0_3 : Int) (a0_4 : Int) (a0_5 : Int) (a0_6 : Int) (a0_7 : Int) (a0_8 : Int) (a0_9 : Int) (a0_10 : Int) (a0_11 : Int) :
    run1 spec_NeedlessWalls.cfg [RK.own (1 : Nat), RK.one LK.bool] n Tryd.f21 [Q.agg [D.str a0_0, D.int IntKind.i64 a0_1, D.int IntKind.i64 a0_2, D.int IntKind.i64 a0_3, D.int IntKind.i64 a0_4, D.int IntKind.i64 a0_5, D.int IntKind.i64 a0_6, D.int IntKind.i64 a0_7, D.int IntKind.i64 a0_8, D.int IntKind.i64 a0_9, D.int IntKind.i64 a0_10, D.int IntKind.i64 a0_11]] = spec_NeedlessWalls.res n a0_0 a0_1 a0_2 a0_3 a0_4 a0_5 a0_6 a0_7 a0_8 a0_9 a0_10 a0_11 := by kernel_rfl
theorem spec_NeedlessWalls.ev {n : Nat} {a0_0 : ByteArray} {a0_1 : Int} {a0_2 : Int} {a0_3 : Int} {a0_4 : Int} {a0_5 : Int} {a0_6 : Int} {a0_7 : Int} {a0_8 : Int} {a0_9 : Int} {a0_10 : Int} {a0_11 : Int} {r : List Q} (h : spec_NeedlessWalls.res n a0_0 a0_1 a0_2 a0_3 a0_4 a0_5 a0_6 a0_7 a0_8 a0_9 a0_10 a0_11 = some r) : Snd Tryd.prog C0 21 [.agg [.str a0_0, .int .i64 a0_1, .int .i64 a0_2, .int .i64 a0_3, .int .i64 a0_4, .int .i64 a0_5, .int .i64 a0_6, .int .i64 a0_7, .int .i64 a0_8, .int .i64 a0_9, .int .i64 a0_10, .int .i64 a0_11]] r :=
  snd_ev (C := spec_NeedlessWalls.cfg) cfg0 mix rfl rfl rfl rfl rfl (.cons spec_puStates.ok (.cons spec_boRead.ok (.cons spec_boText.ok .nil))) .nil rfl Tryd.func21 (by kernel_rfl) (by kernel_rfl) rfl ((spec_NeedlessWalls.run n a0_0 a0_1 a0_2 a0_3 a0_4 a0_5 a0_6 a0_7 a0_8 a0_9 a0_10 a0_11).trans h)

theorem spec_NeedlessWalls.l7_run {n : Nat} {q : ByteArray} {s : Sta} {px py pt k : Int} (hw : wOf (rws q) ≤ 7) (hh : (rws q).length ≤ 7) (hl : (rws q).flatten.length = wOf (rws q) * (rws q).length) :
    ∀ (d i m : Nat) (out : List Int), i + d = (rws q).flatten.length → d < m → out.length ≤ i →
    spec_NeedlessWalls.l7 n m k (u8C.encs (rws q).flatten) (((rws q).flatten.length : Nat) : Int) (i : Int) q s.x s.y s.d.t s.d.n s.d.e s.d.s s.d.w s.d.b px py pt ((wOf (rws q) : Nat) : Int) (((rws q).length : Nat) : Int) (u8C.encs (rws q).flatten) (intC.encs out) = some [Q.one (.sl 1 (intC.encs (out ++ wallL q s px py pt k d i))), Q.one (.bool true)] := by
  have hlen : (rws q).flatten.length ≤ 49 := by
    have := Nat.mul_le_mul hw hh
    omega
  intro d
  induction d with
  | zero =>
    intro i m out hi hm ho
    obtain ⟨m, rfl⟩ : ∃ m', m = m' + 1 := ⟨m - 1, by omega⟩
    have h1 : ¬ (i : Int) < (((rws q).flatten.length : Nat) : Int) := by omega
    rw [spec_NeedlessWalls.l7_eq]
    simp only [h1, decide_false, cond_false]
    rw [wallL, List.append_nil]
  | succ d ih =>
    intro i m out hi hm ho
    obtain ⟨m, rfl⟩ : ∃ m', m = m' + 1 := ⟨m - 1, by omega⟩
    have hlt : i < (rws q).flatten.length := by omega
    have h1 : (i : Int) < (((rws q).flatten.length : Nat) : Int) := by omega
    have h2 : 0 + (rws q).flatten.length ≤ 17179869184 := by omega
    have h3 : out.length + 1 ≤ 17179869184 := by omega
    have hd : u8C.decs (u8C.encs ((rws q).flatten.set i 46)) = some ((rws q).flatten.set i 46) := Cod.decs_encs (by rw [List.length_set]; unfold LIM; omega)
    have hl2 : ((rws q).flatten.set i 46).length = wOf (rws q) * (rws q).length := by rw [List.length_set, hl]
    have hg : (rws q).flatten.getD i 0 = (rws q).flatten[i] := by rw [List.getD_eq_getElem?_getD, List.getElem?_eq_getElem hlt]; rfl
    have hwq : mkB (jn (chunk (wOf (rws q)) (rws q).length ((rws q).flatten.set i 46))) = wallQ q i := rfl
    have s1 := ih (i + 1) m out (by omega) (by omega) (by omega)
    have s2 := ih (i + 1) m (out ++ [(i : Int)]) (by omega) (by omega) (by rw [List.length_append, List.length_singleton]; omega)
    rw [spec_NeedlessWalls.l7_eq, wallL]
    simp only [h1, h2, h3, Cod.encs_len, Int.natCast_nonneg, Int.toNat_natCast, decide_true, cond_true, u8C_cell hlt, Option.bind_some, List.nil_append, u8C_set46, hd, inr_nat hw, inr_nat hh, hl2, hwq, intC_snoc, wrap_succ (show i ≤ LIM by unfold LIM; omega), ine, ieq, s1, s2]
    rw [show (Sta.mk s.x s.y (Die.mk s.d.t s.d.n s.d.e s.d.s s.d.w s.d.b)) = s from rfl]
    unfold wallB
    rw [hg, solF_puB]
    cases decide (((rws q).flatten[i].toNat : Int) = 35) with
    | false => rfl
    | true =>
      simp only [Bool.not_true, cond_false, Bool.true_and]
      cases hp : puB (wallQ q i) s px py pt with
      | false => rfl
      | true =>
        rw [solF_len _ _ _ _ _ hp]
        simp only [cond_true, Bool.true_and]
        cases decide (puF (wallQ q i) s px py pt = k) with
        | false => rfl
        | true =>
          simp only [cond_true, List.append_assoc, List.singleton_append]
def spec_NeedlessWalls.stub : Stub
  | [.agg [.str q, .int .i64 x, .int .i64 y, .int .i64 t, .int .i64 n, .int .i64 e, .int .i64 s, .int .i64 w, .int .i64 b, .int .i64 px, .int .i64 py, .int .i64 pt]] => .ret [.one (.sl 1 (intC.encs (Sp.wallO q ⟨x, y, ⟨t, n, e, s, w, b⟩⟩ px py pt))), .one (.bool (Sp.isSO (Sp.solF q ⟨x, y, ⟨t, n, e, s, w, b⟩⟩ px py pt)))]
  | _ => .fail
theorem spec_NeedlessWalls.ok : StubOk Tryd.prog C0 21 spec_NeedlessWalls.stub := by
  intro args res h
  unfold spec_NeedlessWalls.stub at h
  split at h
  · rename_i q x y t n e s w b px py pt
    cases h
    obtain ⟨N, hN⟩ : ∃ N, 64 ≤ N := ⟨64, Nat.le_refl _⟩
    refine spec_NeedlessWalls.ev (n := N) ?_
    unfold spec_NeedlessWalls.res wallO
    rw [solF_puB]
    cases hp : puB q ⟨x, y, ⟨t, n, e, s, w, b⟩⟩ px py pt with
    | false => rfl
    | true =>
      obtain ⟨hz, _⟩ := puB_out hp
      obtain ⟨ho, _, _⟩ := puz_ok hz
      obtain ⟨hb, _, _, _, _⟩ := okSt_out ho
      obtain ⟨e1, e2, e3, e4, e5, e6, e7⟩ := bo_ok hb
      obtain ⟨k1, k2, k3, k4⟩ := isBo_fine hb
      have hfl := flat_len k1
      have hm := Nat.mul_le_mul k3.2 k2.2
      rw [solF_len _ _ _ _ _ hp, e1, e2, e3]
      simp only [Bool.not_true, cond_false, cond_true, Cod.encs_len]
      have key := spec_NeedlessWalls.l7_run (n := N) (s := ⟨x, y, ⟨t, n, e, s, w, b⟩⟩) (px := px) (py := py) (pt := pt) (k := puF q ⟨x, y, ⟨t, n, e, s, w, b⟩⟩ px py pt) k3.2 k2.2 hfl (rws q).flatten.length 0 N [] (by omega) (by omega) (by simp)
      rw [List.nil_append] at key
      exact key
  · cases h
/-! impl_NeedlessWalls -/
noncomputable def impl_NeedlessWalls.cfg : Cfg := { C0 with keep := fun | 7 => some [1, 4, 6, 8, 9, 35, 36] | 10 => some [1, 4, 6, 8, 9, 10, 35, 36, 39, 40] | _ => none, nb := 0, M := tabM [(38, impl_Puzzle_length.stub), (49, impl_board.stub), (50, impl_grid_at.stub)], MM := tabB [] }
noncomputable def impl_NeedlessWalls.l7 (n : Nat) (m7 : Nat) (i0 : Int) (i1 : Int) (i2 : Int) (i3 : Int) (s4 : ByteArray) (i5 : Int) (i6 : Int) (i7 : Int) (i8 : Int) (i9 : Int) (i10 : Int) (i11 : Int) (i12 : Int) (i13 : Int) (i14 : Int) (i15 : Int) (l16 : List (List D)) (l17 : List (List D)) : Option (List Q) :=
  loopAt impl_NeedlessWalls.cfg [RK.own (1 : Nat), RK.one LK.bool] n Tryd.f22 [1, 1, 1, 1, 1, 0, 1, 0] [] m7 (St.mk [V.undef, V.rp (0 : Nat) (0 : Nat), V.undef, V.undef, V.one true (D.int IntKind.i64 i0), V.undef, V.rw (1 : Nat), V.undef, V.rw (2 : Nat), V.one true (D.int IntKind.i64 i1), V.undef, V.undef, V.undef, V.undef, V.undef, V.undef, V.undef, V.undef, V.undef, V.undef, V.undef, V.undef, V.undef, V.undef, V.undef, V.undef, V.undef, V.undef, V.undef, V.undef, V.undef, V.undef, V.undef, V.undef, V.undef, V.one true (D.int IntKind.i64 i2), V.one true (D.int IntKind.i64 i3), V.undef, V.undef, V.undef, V.undef, V.undef, V.undef, V.undef, V.undef, V.undef, V.undef, V.undef, V.undef, V.undef, V.undef, V.undef, V.undef, V.undef, V.undef, V.undef, V.undef, V.undef, V.undef, V.undef, V.undef, V.undef, V.undef, V.undef, V.undef, V.undef, V.undef, V.undef, V.undef, V.undef, V.undef, V.undef, V.undef, V.undef, V.undef, V.undef, V.undef, V.undef, V.undef, V.undef, V.undef, V.undef, V.undef, V.undef, V.undef] [Ob.box [V.one true (D.str s4), V.one true (D.int IntKind.i64 i5), V.one true (D.int IntKind.i64 i6), V.one true (D.int IntKind.i64 i7), V.one true (D.int IntKind.i64 i8), V.one true (D.int IntKind.i64 i9), V.one true (D.int IntKind.i64 i10), V.one true (D.int IntKind.i64 i11), V.one true (D.int IntKind.i64 i12), V.one true (D.int IntKind.i64 i13), V.one true (D.int IntKind.i64 i14), V.one true (D.int IntKind.i64 i15)], Ob.row false (1 : Nat) l16, Ob.row false (1 : Nat) l17])
noncomputable def impl_NeedlessWalls.l10 (n : Nat) (m7 : Nat) (m10 : Nat) (i0 : Int) (i1 : Int) (i2 : Int) (i3 : Int) (i4 : Int) (i5 : Int) (i6 : Int) (s7 : ByteArray) (i8 : Int) (i9 : Int) (i10 : Int) (i11 : Int) (i12 : Int) (i13 : Int) (i14 : Int) (i15 : Int) (i16 : Int) (i17 : Int) (i18 : Int) (l19 : List (List D)) (l20 : List (List D)) : Option (List Q) :=
  loopAt impl_NeedlessWalls.cfg [RK.own (1 : Nat), RK.one LK.bool] n Tryd.f22 [1, 1, 1, 1, 1, 0, 1, 0, 0, 1, 1, 0, 0, 1, 1, 0] [m7] m10 (St.mk [V.undef, V.rp (0 : Nat) (0 : Nat), V.undef, V.undef, V.one true (D.int IntKind.i64 i0), V.undef, V.rw (1 : Nat), V.undef, V.rw (2 : Nat), V.one true (D.int IntKind.i64 i1), V.one true (D.int IntKind.i64 i2), V.undef, V.undef, V.undef, V.undef, V.undef, V.undef, V.undef, V.undef, V.undef, V.undef, V.undef, V.undef, V.undef, V.undef, V.undef, V.undef, V.undef, V.undef, V.undef, V.undef, V.undef, V.undef, V.undef, V.undef, V.one true (D.int IntKind.i64 i3), V.one true (D.int IntKind.i64 i4), V.undef, V.undef, V.one true (D.int IntKind.i64 i5), V.one true (D.int IntKind.i64 i6), V.undef, V.undef, V.undef, V.undef, V.undef, V.undef, V.undef, V.undef, V.undef, V.undef, V.undef, V.undef, V.undef, V.undef, V.undef, V.undef, V.undef, V.undef, V.undef, V.undef, V.undef, V.undef, V.undef, V.undef, V.undef, V.undef, V.undef, V.undef, V.undef, V.undef, V.undef, V.undef, V.undef, V.undef, V.undef, V.undef, V.undef, V.undef, V.undef, V.undef, V.undef, V.undef, V.undef, V.undef] [Ob.box [V.one true (D.str s7), V.one true (D.int IntKind.i64 i8), V.one true (D.int IntKind.i64 i9), V.one true (D.int IntKind.i64 i10), V.one true (D.int IntKind.i64 i11), V.one true (D.int IntKind.i64 i12), V.one true (D.int IntKind.i64 i13), V.one true (D.int IntKind.i64 i14), V.one true (D.int IntKind.i64 i15), V.one true (D.int IntKind.i64 i16), V.one true (D.int IntKind.i64 i17), V.one true (D.int IntKind.i64 i18)], Ob.row false (1 : Nat) l19, Ob.row false (1 : Nat) l20])
theorem impl_NeedlessWalls.l7_eq (n : Nat) (m7 : Nat) (i0 : Int) (i1 : Int) (i2 : Int) (i3 : Int) (s4 : ByteArray) (i5 : Int) (i6 : Int) (i7 : Int) (i8 : Int) (i9 : Int) (i10 : Int) (i11 : Int) (i12 : Int) (i13 : Int) (i14 : Int) (i15 : Int) (l16 : List (List D)) (l17 : List (List D)) :
    impl_NeedlessWalls.l7 n (m7 + 1) i0 i1 i2 i3 s4 i5 i6 i7 i8 i9 i10 i11 i12 i13 i14 i15 l16 l17 = bif decide (i3 < i2) then impl_NeedlessWalls.l10 n m7 n i0 i1 i3 i2 i3 i1 (0 : Int) s4 i5 i6 i7 i8 i9 i10 i11 i12 i13 i14 i15 l16 l17 else some [Q.one (D.sl (1 : Nat) l17), Q.one (D.bool true)] := by kernel_rfl
theorem impl_NeedlessWalls.l10_eq (n : Nat) (m7 : Nat) (m10 : Nat) (i0 : Int) (i1 : Int) (i2 : Int) (i3 : Int) (i4 : Int) (i5 : Int) (i6 : Int) (s7 : ByteArray) (i8 : Int) (i9 : Int) (i10 : Int) (i11 : Int) (i12 : Int) (i13 : Int) (i14 : Int) (i15 : Int) (i16 : Int) (i17 : Int) (i18 : Int) (l19 : List (List D)) (l20 : List (List D)) :
    impl_NeedlessWalls.l10 n m7 (m10 + 1) i0 i1 i2 i3 i4 i5 i6 s7 i8 i9 i10 i11 i12 i13 i14 i15 i16 i17 i18 l19 l20 = bif decide (i6 < i5) then Option.bind (Cod.decs strC l19) fun (l2 : List ByteArray) => bif unif (lb l2) then bif decide (List.length l2 ≤ (17179869184 : Nat)) then bif decide (wOf (lb l2) ≤ (17179869184 : Nat)) then bif atZ (lb l2) i6 i2 != (35 : Int) then impl_NeedlessWalls.l10 n m7 m10 i0 i1 i2 i3 i4 i5 (IntKind.wrap IntKind.i64 (i6 + (1 : Int))) s7 i8 i9 i10 i11 i12 i13 i14 i15 i16 i17 i18 l19 l20 else bif decide (ByteArray.size s7 ≤ (17179869184 : Nat)) then bif decide ((0 : Int) ≤ IntKind.wrap IntKind.i64 (IntKind.wrap IntKind.i64 (i2 * IntKind.wrap IntKind.i64 (i1 + (1 : Int))) + i6)) then bif decide (IntKind.wrap IntKind.i64 (IntKind.wrap IntKind.i64 (i2 * IntKind.wrap IntKind.i64 (i1 + (1 : Int))) + i6) < (↑(List.length (strRow s7)) : Int)) then Option.bind (Option.map (fun (l : List UInt8) => ByteArray.mk (List.toArray l)) (rowStr? (setRow (1 : Nat) (strRow s7) (Int.toNat (IntKind.wrap IntKind.i64 (IntKind.wrap IntKind.i64 (i2 * IntKind.wrap IntKind.i64 (i1 + (1 : Int))) + i6))) (0 : Nat) [D.int IntKind.u8 (46 : Int)]))) fun (s3 : ByteArray) => bif decide (ByteArray.size s3 < (17179869184 : Nat)) then bif isSO (solF s3 (Sta.mk i8 i9 (Die.mk i10 i11 i12 i13 i14 i15)) i16 i17 i18) then bif lenO (solF s3 (Sta.mk i8 i9 (Die.mk i10 i11 i12 i13 i14 i15)) i16 i17 i18) == i0 then bif decide (List.length l20 + (1 : Nat) ≤ (17179869184 : Nat)) then impl_NeedlessWalls.l10 n m7 m10 i0 i1 i2 i3 i4 i5 (IntKind.wrap IntKind.i64 (i6 + (1 : Int))) s7 i8 i9 i10 i11 i12 i13 i14 i15 i16 i17 i18 l19 (l20 ++ [[D.int IntKind.i64 (IntKind.wrap IntKind.i64 (IntKind.wrap IntKind.i64 (i2 * i1) + i6))]]) else none else impl_NeedlessWalls.l10 n m7 m10 i0 i1 i2 i3 i4 i5 (IntKind.wrap IntKind.i64 (i6 + (1 : Int))) s7 i8 i9 i10 i11 i12 i13 i14 i15 i16 i17 i18 l19 l20 else impl_NeedlessWalls.l10 n m7 m10 i0 i1 i2 i3 i4 i5 (IntKind.wrap IntKind.i64 (i6 + (1 : Int))) s7 i8 i9 i10 i11 i12 i13 i14 i15 i16 i17 i18 l19 l20 else none else none else none else none else none else none else none else impl_NeedlessWalls.l7 n m7 i0 i1 i3 (IntKind.wrap IntKind.i64 (i4 + (1 : Int))) s7 i8 i9 i10 i11 i12 i13 i14 i15 i16 i17 i18 l19 l20 := by kernel_rfl
noncomputable def impl_NeedlessWalls.res (n : Nat) (a0_0 : ByteArray) (a0_1 : Int) (a0_2 : Int) (a0_3 : Int) (a0_4 : Int) (a0_5 : Int) (a0_6 : Int) (a0_7 : Int) (a0_8 : Int) (a0_9 : Int) (a0_10 : Int) (a0_11 : Int) : Option (List Q) :=
  bif decide (ByteArray.size a0_0 < (17179869184 : Nat)) then bif !isSO (solF a0_0 (Sta.mk a0_1 a0_2 (Die.mk a0_3 a0_4 a0_5 a0_6 a0_7 a0_8)) a0_9 a0_10 a0_11) then some [Q.one (D.sl (1 : Nat) []), Q.one (D.bool false)] else bif decide (ByteArray.size a0_0 < (17179869184 : Nat)) then bif decide ((0 : Int) < (↑(List.length (Cod.encs strC (gridI brd a0_0))) : Int)) then Option.bind (Option.bind (some (cellD (Cod.encs strC (gridI brd a0_0)) (Int.toNat (0 : Int)) (0 : Nat))) D.str?) fun (s1 : ByteArray) => impl_NeedlessWalls.l7 n n (lenO (solF a0_0 (Sta.mk a0_1 a0_2 (Die.mk a0_3 a0_4 a0_5 a0_6 a0_7 a0_8)) a0_9 a0_10 a0_11)) (↑(ByteArray.size s1) : Int) (↑(List.length (Cod.encs strC (gridI brd a0_0))) : Int) (0 : Int) a0_0 a0_1 a0_2 a0_3 a0_4 a0_5 a0_6 a0_7 a0_8 a0_9 a0_10 a0_11 (Cod.encs strC (gridI brd a0_0)) [] else none else none else none
theorem impl_NeedlessWalls.run (n : Nat) (a0_0 : ByteArray) (a0_1 : Int) (a0_2 : Int) (a0_3 : Int) (a0_4 : Int) (a0_5 : Int) (a0_6 : Int) (a0_7 : Int) (a0_8 : Int) (a0_9 : Int) (a0_10 : Int) (a0_11 : Int) :
    run1 impl_NeedlessWalls.cfg [RK.own (1 : Nat), RK.one LK.bool] n Tryd.f22 [Q.agg [D.str a0_0, D.int IntKind.i64 a0_1, D.int IntKind.i64 a0_2, D.int IntKind.i64 a0_3, D.int IntKind.i64 a0_4, D.int IntKind.i64 a0_5, D.int IntKind.i64 a0_6, D.int IntKind.i64 a0_7, D.int IntKind.i64 a0_8, D.int IntKind.i64 a0_9, D.int IntKind.i64 a0_10, D.int IntKind.i64 a0_11]] = impl_NeedlessWalls.res n a0_0 a0_1 a0_2 a0_3 a0_4 a0_5 a0_6 a0_7 a0_8 a0_9 a0_10 a0_11 := by kernel_rfl
theorem impl_NeedlessWalls.ev {n : Nat} {a0_0 : ByteArray} {a0_1 : Int} {a0_2 : Int} {a0_3 : Int} {a0_4 : Int} {a0_5 : Int} {a0_6 : Int} {a0_7 : Int} {a0_8 : Int} {a0_9 : Int} {a0_10 : Int} {a0_11 : Int} {r : List Q} (h : impl_NeedlessWalls.res n a0_0 a0_1 a0_2 a0_3 a0_4 a0_5 a0_6 a0_7 a0_8 a0_9 a0_10 a0_11 = some r) : Snd Tryd.prog C0 22 [.agg [.str a0_0, .int .i64 a0_1, .int .i64 a0_2, .int .i64 a0_3, .int .i64 a0_4, .int .i64 a0_5, .int .i64 a0_6, .int .i64 a0_7, .int .i64 a0_8, .int .i64 a0_9, .int .i64 a0_10, .int .i64 a0_11]] r :=
  snd_ev (C := impl_NeedlessWalls.cfg) cfg0 mix rfl rfl rfl rfl rfl (.cons impl_Puzzle_length.ok (.cons impl_board.ok (.cons impl_grid_at.ok .nil))) .nil rfl Tryd.func22 (by kernel_rfl) (by kernel_rfl) rfl ((impl_NeedlessWalls.run n a0_0 a0_1 a0_2 a0_3 a0_4 a0_5 a0_6 a0_7 a0_8 a0_9 a0_10 a0_11).trans h)

theorem wrap_ix {y w x : Nat} (hy : y ≤ 7) (hw : w ≤ 7) (hx : x ≤ 7) : IntKind.wrap .i64 (IntKind.wrap .i64 ((y : Int) * IntKind.wrap .i64 ((w : Int) + 1)) + (x : Int)) = ((y * (w + 1) + x : Nat) : Int) ∧ IntKind.wrap .i64 (IntKind.wrap .i64 ((y : Int) * (w : Int)) + (x : Int)) = ((y * w + x : Nat) : Int) := by
  have h1 : y * (w + 1) ≤ 7 * 8 := Nat.mul_le_mul hy (by omega)
  have h2 : y * w ≤ 7 * 7 := Nat.mul_le_mul hy hw
  have e1 : IntKind.wrap .i64 ((w : Int) + 1) = ((w + 1 : Nat) : Int) := by rw [wrap_in (by omega) (by omega)]; omega
  have e2 : (y : Int) * ((w + 1 : Nat) : Int) = ((y * (w + 1) : Nat) : Int) := by push_cast; rfl
  have e3 : (y : Int) * (w : Int) = ((y * w : Nat) : Int) := by push_cast; rfl
  have e4 : IntKind.wrap .i64 ((y * (w + 1) : Nat) : Int) = ((y * (w + 1) : Nat) : Int) := wrap_in (by omega) (by omega)
  have e5 : IntKind.wrap .i64 ((y * w : Nat) : Int) = ((y * w : Nat) : Int) := wrap_in (by omega) (by omega)
  rw [e1, e2, e3, e4, e5]
  refine ⟨?_, ?_⟩ <;> rw [wrap_in (by omega) (by omega)] <;> omega
section
variable {n : Nat} {q : ByteArray} {s : Sta} {px py pt k : Int} {l : List ByteArray}
theorem impl_NeedlessWalls.l10_run {m7 : Nat} (hu : unif (rws q) = true) (hw : wOf (rws q) ≤ 7) (hh : (rws q).length ≤ 7) (hq : q.size ≤ 42) (hld : strC.decs (strC.encs l) = some l) (hlb : lb l = rws q) (hll : l.length = (rws q).length) {y : Nat} (hy : y < (rws q).length) :
    ∀ (d x m : Nat) (out : List Int), x + d = wOf (rws q) → d < m → out.length ≤ y * wOf (rws q) + x →
    impl_NeedlessWalls.l10 n m7 m k ((wOf (rws q) : Nat) : Int) (y : Int) (((rws q).length : Nat) : Int) (y : Int) ((wOf (rws q) : Nat) : Int) (x : Int) q s.x s.y s.d.t s.d.n s.d.e s.d.s s.d.w s.d.b px py pt (strC.encs l) (intC.encs out) = impl_NeedlessWalls.l7 n m7 k ((wOf (rws q) : Nat) : Int) (((rws q).length : Nat) : Int) ((y + 1 : Nat) : Int) q s.x s.y s.d.t s.d.n s.d.e s.d.s s.d.w s.d.b px py pt (strC.encs l) (intC.encs (out ++ wallL q s px py pt k d (y * wOf (rws q) + x))) := by
  have hm : y * wOf (rws q) ≤ 7 * 7 := Nat.mul_le_mul (by omega) hw
  intro d
  induction d with
  | zero =>
    intro x m out hi hm ho
    obtain ⟨m, rfl⟩ : ∃ m', m = m' + 1 := ⟨m - 1, by omega⟩
    have h1 : ¬ (x : Int) < ((wOf (rws q) : Nat) : Int) := by omega
    rw [impl_NeedlessWalls.l10_eq]
    simp only [h1, decide_false, cond_false, wrap_succ (show y ≤ LIM by unfold LIM; omega)]
    rw [wallL, List.append_nil]
  | succ d ih =>
    intro x m out hi hm2 ho
    obtain ⟨m, rfl⟩ : ∃ m', m = m' + 1 := ⟨m - 1, by omega⟩
    have hx : x < wOf (rws q) := by omega
    have h1 : (x : Int) < ((wOf (rws q) : Nat) : Int) := by omega
    have h2 : l.length ≤ 17179869184 := by omega
    have h3 : wOf (rws q) ≤ 17179869184 := by omega
    have h4 : q.size ≤ 17179869184 := by omega
    have h5 : out.length + 1 ≤ 17179869184 := by omega
    obtain ⟨w1, w2⟩ := wrap_ix (show y ≤ 7 by omega) hw (show x ≤ 7 by omega)
    obtain ⟨t1, t2⟩ := wallQ_text hu hy hx
    have h6 : ((y * (wOf (rws q) + 1) + x : Nat) : Int) < (((bl q).length : Nat) : Int) := by omega
    have hat : atZ (rws q) (x : Int) (y : Int) = (((rws q).flatten.getD (y * wOf (rws q) + x) 0).toNat : Int) := by
      have g1 : inR (y : Int) 0 (((rws q).length : Int) - 1) = true := by
        unfold inR
        rw [Bool.and_eq_true, decide_eq_true_eq, decide_eq_true_eq]; omega
      have g2 : inR (x : Int) 0 ((wOf (rws q) : Int) - 1) = true := by
        unfold inR
        rw [Bool.and_eq_true, decide_eq_true_eq, decide_eq_true_eq]; omega
      unfold atZ
      rw [g1, g2, flat_get' hu hy hx]; rfl
    have hsz : (wallQ q (y * wOf (rws q) + x)).size < 17179869184 := by
      rw [← t1, mkB_size, List.length_set, bl_len]; omega
    have t3 : (ByteArray.mk (List.toArray ((bl q).set (y * (wOf (rws q) + 1) + x) 46))) = wallQ q (y * wOf (rws q) + x) := t1
    have s1 := ih (x + 1) m out (by omega) (by omega) (by omega)
    have s2 := ih (x + 1) m (out ++ [((y * wOf (rws q) + x : Nat) : Int)]) (by omega) (by omega) (by rw [List.length_append, List.length_singleton]; omega)
    rw [show y * wOf (rws q) + (x + 1) = y * wOf (rws q) + x + 1 by omega] at s1 s2
    rw [impl_NeedlessWalls.l10_eq, wallL]
    simp only [h1, hld, hlb, hu, h2, h3, h4, h5, h6, hat, strRow_u8, Cod.encs_len, Int.natCast_nonneg, Int.toNat_natCast, decide_true, cond_true, Option.bind_some, Option.map_some, w1, w2, u8C_set46, rowStr_u8, t3, hsz, intC_snoc, wrap_succ (show x ≤ LIM by unfold LIM; omega), ine, ieq, s1, s2]
    rw [show (Sta.mk s.x s.y (Die.mk s.d.t s.d.n s.d.e s.d.s s.d.w s.d.b)) = s from rfl]
    unfold wallB
    cases decide ((((rws q).flatten.getD (y * wOf (rws q) + x) 0).toNat : Int) = 35) with
    | false => rfl
    | true =>
      simp only [Bool.not_true, cond_false, Bool.true_and]
      cases isSO (solF (wallQ q (y * wOf (rws q) + x)) s px py pt) with
      | false => rfl
      | true =>
        simp only [cond_true, Bool.true_and]
        cases decide (lenO (solF (wallQ q (y * wOf (rws q) + x)) s px py pt) = k) with
        | false => rfl
        | true =>
          simp only [cond_true, List.append_assoc, List.singleton_append]
theorem impl_NeedlessWalls.l7_run (hn : 64 ≤ n) (hu : unif (rws q) = true) (hw : wOf (rws q) ≤ 7) (hh : (rws q).length ≤ 7) (hq : q.size ≤ 42) (hld : strC.decs (strC.encs l) = some l) (hlb : lb l = rws q) (hll : l.length = (rws q).length) :
    ∀ (d y m : Nat) (out : List Int), y + d = (rws q).length → d < m → out.length ≤ y * wOf (rws q) →
    impl_NeedlessWalls.l7 n m k ((wOf (rws q) : Nat) : Int) (((rws q).length : Nat) : Int) (y : Int) q s.x s.y s.d.t s.d.n s.d.e s.d.s s.d.w s.d.b px py pt (strC.encs l) (intC.encs out) = some [Q.one (.sl 1 (intC.encs (out ++ wallL q s px py pt k (d * wOf (rws q)) (y * wOf (rws q))))), Q.one (.bool true)] := by
  intro d
  induction d with
  | zero =>
    intro y m out hi hm ho
    obtain ⟨m, rfl⟩ : ∃ m', m = m' + 1 := ⟨m - 1, by omega⟩
    have h1 : ¬ (y : Int) < (((rws q).length : Nat) : Int) := by omega
    rw [impl_NeedlessWalls.l7_eq]
    simp only [h1, decide_false, cond_false]
    rw [Nat.zero_mul, wallL, List.append_nil]
  | succ d ih =>
    intro y m out hi hm ho
    obtain ⟨m, rfl⟩ : ∃ m', m = m' + 1 := ⟨m - 1, by omega⟩
    have hy : y < (rws q).length := by omega
    have h1 : (y : Int) < (((rws q).length : Nat) : Int) := by omega
    have hwl := wallL_len q s px py pt k (wOf (rws q)) (y * wOf (rws q))
    have step := ih (y + 1) m (out ++ wallL q s px py pt k (wOf (rws q)) (y * wOf (rws q))) (by omega) (by omega) (by rw [List.length_append, Nat.add_mul]; omega)
    rw [impl_NeedlessWalls.l7_eq]
    simp only [h1, decide_true, cond_true]
    refine Eq.trans (impl_NeedlessWalls.l10_run (m7 := m) hu hw hh hq hld hlb hll hy (wOf (rws q)) 0 n out (by omega) (by omega) (by omega)) ?_
    rw [show y * wOf (rws q) + 0 = y * wOf (rws q) from rfl, step]
    rw [show (d + 1) * wOf (rws q) = wOf (rws q) + d * wOf (rws q) by rw [Nat.add_mul]; omega, wallL_add, List.append_assoc, show (y + 1) * wOf (rws q) = y * wOf (rws q) + wOf (rws q) by rw [Nat.add_mul]; omega]
end
theorem head_size : ∀ {l : List ByteArray} (h : 0 < l.length), l[0].size = wOf (lb l)
  | [], h => by simp at h
  | a :: l, _ => rfl
def impl_NeedlessWalls.stub : Stub
  | [.agg [.str q, .int .i64 x, .int .i64 y, .int .i64 t, .int .i64 n, .int .i64 e, .int .i64 s, .int .i64 w, .int .i64 b, .int .i64 px, .int .i64 py, .int .i64 pt]] => .gd (decide (q.size < LIM)) (.ret [.one (.sl 1 (intC.encs (Sp.wallO q ⟨x, y, ⟨t, n, e, s, w, b⟩⟩ px py pt))), .one (.bool (Sp.isSO (Sp.solF q ⟨x, y, ⟨t, n, e, s, w, b⟩⟩ px py pt)))])
  | _ => .fail
theorem impl_NeedlessWalls.ok : StubOk Tryd.prog C0 22 impl_NeedlessWalls.stub := by
  intro args res h
  unfold impl_NeedlessWalls.stub at h
  split at h
  · rename_i q x y t n e s w b px py pt
    obtain ⟨hs, h0⟩ := gd_out h
    cases h0
    unfold LIM at hs
    obtain ⟨N, hN⟩ : ∃ N, 64 ≤ N := ⟨64, Nat.le_refl _⟩
    refine impl_NeedlessWalls.ev (n := N) ?_
    unfold impl_NeedlessWalls.res wallO
    rw [hs]
    cases hp : isSO (solF q ⟨x, y, ⟨t, n, e, s, w, b⟩⟩ px py pt) with
    | false => rfl
    | true =>
      obtain ⟨ho, _, _⟩ := puz_ok (solF_ok hp)
      obtain ⟨hb, _, _, _, _⟩ := okSt_out ho
      obtain ⟨g1, g2, g3, g4, g5, g6⟩ := Sp.gr_ok hb
      obtain ⟨k1, k2, k3, k4⟩ := isBo_fine hb
      have hfl := flat_len k1
      have h0 : 0 < (gridI brd q).length := by omega
      have h1 : (0 : Int) < (((rws q).length : Nat) : Int) := by omega
      have hcell := strC_cell h0
      have hsz : (gridI brd q)[0].size = wOf (rws q) := by
        rw [← g1]
        exact head_size h0
      have key := impl_NeedlessWalls.l7_run (n := N) (s := ⟨x, y, ⟨t, n, e, s, w, b⟩⟩) (px := px) (py := py) (pt := pt) (k := lenO (solF q ⟨x, y, ⟨t, n, e, s, w, b⟩⟩ px py pt)) hN g2 k3.2 k2.2 (isBo_size hb) g5 g1 g6 (rws q).length 0 N [] (by omega) (by omega) (by simp)
      rw [List.nil_append, Nat.zero_mul, show (rws q).length * wOf (rws q) = (rws q).flatten.length by rw [hfl, Nat.mul_comm]] at key
      simp only [Bool.not_true, cond_false, cond_true, Cod.encs_len, h1, decide_true, show Int.toNat 0 = 0 from rfl, hcell, Option.bind_some, hsz, g6]
      exact key
  · cases h
/-! laws_eqIntS -/
noncomputable def laws_eqIntS.cfg : Cfg := { C0 with keep := fun | 4 => some [0, 1, 5] | _ => none, nb := 0, M := tabM [], MM := tabB [] }
noncomputable def laws_eqIntS.l4 (n : Nat) (m4 : Nat) (l0 : List (List D)) (l1 : List (List D)) (i2 : Int) : Option (List Q) :=
  loopAt laws_eqIntS.cfg [RK.one LK.bool] n Tryd.f23 [1, 1, 0, 1, 0] [] m4 (St.mk [V.one false (D.sl (1 : Nat) l0), V.one false (D.sl (1 : Nat) l1), V.undef, V.undef, V.undef, V.one true (D.int IntKind.i64 i2), V.undef, V.undef, V.undef, V.undef, V.undef, V.undef, V.undef, V.undef, V.undef, V.undef, V.undef, V.undef, V.undef, V.undef, V.undef, V.undef, V.undef, V.undef, V.undef, V.undef] [])
theorem laws_eqIntS.l4_eq (n : Nat) (m4 : Nat) (l0 : List (List D)) (l1 : List (List D)) (i2 : Int) :
    laws_eqIntS.l4 n (m4 + 1) l0 l1 i2 = bif decide (i2 < (↑(List.length l0) : Int)) then bif decide ((0 : Int) ≤ i2) then bif decide (i2 < (↑(List.length l0) : Int)) then Option.bind (Option.bind (some (cellD l0 (Int.toNat i2) (0 : Nat))) (D.int? IntKind.i64)) fun (i1 : Int) => bif decide ((0 : Int) ≤ i2) then bif decide (i2 < (↑(List.length l1) : Int)) then Option.bind (Option.bind (some (cellD l1 (Int.toNat i2) (0 : Nat))) (D.int? IntKind.i64)) fun (i2_1 : Int) => bif i1 != i2_1 then some [Q.one (D.bool false)] else laws_eqIntS.l4 n m4 l0 l1 (IntKind.wrap IntKind.i64 (i2 + (1 : Int))) else none else none else none else none else some [Q.one (D.bool true)] := by kernel_rfl
noncomputable def laws_eqIntS.res (n : Nat) (a0 : List (List D)) (a1 : List (List D)) : Option (List Q) :=
  bif (↑(List.length a0) : Int) != (↑(List.length a1) : Int) then some [Q.one (D.bool false)] else laws_eqIntS.l4 n n a0 a1 (0 : Int)
theorem laws_eqIntS.run (n : Nat) (a0 : List (List D)) (a1 : List (List D)) :
    run1 laws_eqIntS.cfg [RK.one LK.bool] n Tryd.f23 [Q.one (D.sl (1 : Nat) a0), Q.one (D.sl (1 : Nat) a1)] = laws_eqIntS.res n a0 a1 := by kernel_rfl
theorem laws_eqIntS.ev {n : Nat} {a0 : List (List D)} {a1 : List (List D)} {r : List Q} (h : laws_eqIntS.res n a0 a1 = some r) : Snd Tryd.prog C0 23 [.one (.sl 1 a0), .one (.sl 1 a1)] r :=
  snd_ev (C := laws_eqIntS.cfg) cfg0 mix rfl rfl rfl rfl rfl .nil .nil rfl Tryd.func23 (by kernel_rfl) (by kernel_rfl) rfl ((laws_eqIntS.run n a0 a1).trans h)

theorem laws_eqIntS.l4_run {n : Nat} {l : List Int} (hl : l.length ≤ LIM) : ∀ (d i m : Nat), i + d = l.length → d < m →
    laws_eqIntS.l4 n m (intC.encs l) (intC.encs l) (i : Int) = some [Q.one (.bool true)] := by
  intro d
  induction d with
  | zero =>
    intro i m hi hm
    obtain ⟨m, rfl⟩ : ∃ m', m = m' + 1 := ⟨m - 1, by omega⟩
    have h1 : ¬ (i : Int) < ((l.length : Nat) : Int) := by omega
    rw [laws_eqIntS.l4_eq]
    simp only [Cod.encs_len, h1, decide_false, cond_false]
  | succ d ih =>
    intro i m hi hm
    obtain ⟨m, rfl⟩ : ∃ m', m = m' + 1 := ⟨m - 1, by omega⟩
    have hlt : i < l.length := by omega
    have h1 : (i : Int) < ((l.length : Nat) : Int) := by omega
    rw [laws_eqIntS.l4_eq]
    simp only [Cod.encs_len, h1, Int.natCast_nonneg, Int.toNat_natCast, decide_true, cond_true, intC_at hlt, Option.bind_some, bne_self_eq_false, cond_false, wrap_succ (show i ≤ LIM by omega)]
    exact ih (i + 1) m (by omega) (by omega)
def laws_eqIntS.stub : Stub
  | [.one (.sl 1 es), .one (.sl 1 es')] => .any (intC.decs es) fun l => .any (intC.decs es') fun l' => .gd (decide (l = l')) (.ret [.one (.bool true)])
  | _ => .fail
theorem laws_eqIntS.ok : StubOk Tryd.prog C0 23 laws_eqIntS.stub := by
  intro args res h
  unfold laws_eqIntS.stub at h
  split at h
  · rename_i es es'
    obtain ⟨l, h1, h0⟩ := any_out h
    obtain ⟨l', h2, h0⟩ := any_out h0
    obtain ⟨h3, h0⟩ := gd_out h0
    cases h0
    obtain ⟨rfl, hl⟩ := Cod.decs_inv h1
    obtain ⟨rfl, hl'⟩ := Cod.decs_inv h2
    obtain rfl := of_decide_eq_true h3
    refine laws_eqIntS.ev (n := l.length + 1) ?_
    unfold laws_eqIntS.res
    simp only [bne_self_eq_false, cond_false]
    exact laws_eqIntS.l4_run (n := l.length + 1) hl l.length 0 (l.length + 1) (by omega) (by omega)
  · cases h
/-! laws_markIntS -/
noncomputable def laws_markIntS.cfg : Cfg := { C0 with keep := fun | 2 => some [0, 1, 5] | _ => none, nb := 1, M := tabM [], MM := tabB [] }
noncomputable def laws_markIntS.l2 (n : Nat) (m2 : Nat) (i0 : Int) (i1 : Int) (l2 : List (List D)) : Option (List V × List Ob) :=
  loopAtB laws_markIntS.cfg n Tryd.f24 [1, 0, 1, 0] [] m2 (St.mk [V.rw (0 : Nat), V.one true (D.int IntKind.i64 i0), V.undef, V.undef, V.undef, V.one true (D.int IntKind.i64 i1), V.undef, V.undef, V.undef, V.undef, V.undef, V.undef, V.undef, V.undef, V.undef, V.undef, V.undef, V.undef, V.undef] [Ob.row false (1 : Nat) l2])
theorem laws_markIntS.l2_eq (n : Nat) (m2 : Nat) (i0 : Int) (i1 : Int) (l2 : List (List D)) :
    laws_markIntS.l2 n (m2 + 1) i0 i1 l2 = bif decide (i1 < (↑(List.length l2) : Int)) then bif decide ((0 : Int) ≤ i1) then bif decide (i1 < (↑(List.length l2) : Int)) then laws_markIntS.l2 n m2 (IntKind.wrap IntKind.i64 (i0 + (1 : Int))) (IntKind.wrap IntKind.i64 (i1 + (1 : Int))) (setRow (1 : Nat) l2 (Int.toNat i1) (0 : Nat) [D.int IntKind.i64 i0]) else none else none else some ([V.one true (D.int IntKind.i64 i0)], [Ob.row false (1 : Nat) l2]) := by kernel_rfl
noncomputable def laws_markIntS.res (n : Nat) (es : List (List D)) (k : Int) : Option (List V × List Ob) :=
  laws_markIntS.l2 n n k (0 : Int) es
theorem laws_markIntS.run (n : Nat) (es : List (List D)) (k : Int) :
    (fun p : List V × List Ob => runB laws_markIntS.cfg n Tryd.f24 p.1 p.2) ([V.rw (0 : Nat), V.one true (D.int IntKind.i64 k)], [Ob.row false (1 : Nat) es]) = laws_markIntS.res n es k := by kernel_rfl
theorem laws_markIntS.ev {n : Nat} {es : List (List D)} {k : Int} {r : List V} {o : List Ob} (h : laws_markIntS.res n es k = some (r, o)) : SndB Tryd.prog C0 24 [.rw 0, .one true (.int .i64 k)] [.row false 1 es] r o :=
  sndB_ev (C := laws_markIntS.cfg) cfg0 mix rfl rfl rfl rfl rfl .nil .nil Tryd.func24 (by kernel_rfl) (by kernel_rfl) rfl ((laws_markIntS.run n es k).trans h)

theorem laws_markIntS.l2_run {n : Nat} {l : List Int} (hl : l.length ≤ 100) : ∀ (d i m : Nat), i + d = l.length → d < m →
    laws_markIntS.l2 n m ((1 + i : Nat) : Int) (i : Int) (intC.encs (marksZ i ++ l.drop i)) = some ([V.one true (.int .i64 (mkE l.length))], [Ob.row false 1 (intC.encs (marksZ l.length))]) := by
  intro d
  induction d with
  | zero =>
    intro i m hi hm
    obtain ⟨m, rfl⟩ : ∃ m', m = m' + 1 := ⟨m - 1, by omega⟩
    obtain rfl : i = l.length := by omega
    have h1 : ¬ (l.length : Int) < l.length := by omega
    rw [laws_markIntS.l2_eq, List.drop_length, List.append_nil]
    simp only [Cod.encs_len, marksZ_len, h1, decide_false, cond_false]
    rfl
  | succ d ih =>
    intro i m hi hm
    obtain ⟨m, rfl⟩ : ∃ m', m = m' + 1 := ⟨m - 1, by omega⟩
    have hlen : (marksZ i ++ l.drop i).length = l.length := by rw [List.length_append, marksZ_len, List.length_drop]; omega
    have h1 : (i : Int) < l.length := by omega
    have e2 : (marksZ i ++ l.drop i).set i ((1 + i : Nat) : Int) = marksZ (i + 1) ++ l.drop (i + 1) := by
      rw [List.set_append_right _ _ (by rw [marksZ_len]; exact Nat.le_refl _), marksZ_len, Nat.sub_self, List.drop_eq_getElem_cons (by omega), List.set_cons_zero, marksZ_succ, List.append_assoc]
      rfl
    rw [laws_markIntS.l2_eq]
    simp only [Cod.encs_len, hlen, h1, decide_true, cond_true, Int.natCast_nonneg, Int.toNat_natCast, wrap_mk (show 1 + i ≤ LIM + 10 by unfold LIM; omega), wrap_succ (show i ≤ LIM by unfold LIM; omega), intC_set, e2]
    rw [show 1 + i + 1 = 1 + (i + 1) by omega]
    exact ih (i + 1) m (by omega) (by omega)
def laws_markIntS.stub : StubB
  | [.rw 0, .one true (.int .i64 k)], [.row false 1 es] => .any (intC.decs es) fun l => .gd (decide (k = 1)) (.gd (decide (l.length ≤ 100)) (.ret ([.one true (.int .i64 (Sp.mkE l.length))], [.row false 1 (intC.encs (Sp.marksZ l.length))])))
  | _, _ => .fail
theorem laws_markIntS.ok : StubBOk Tryd.prog C0 24 laws_markIntS.stub := by
  intro args objs res objs' h
  unfold laws_markIntS.stub at h
  split at h
  · obtain ⟨l, h1, h0⟩ := any_out h
    obtain ⟨rfl, hl⟩ := Cod.decs_inv h1
    obtain ⟨h2, h0⟩ := gd_out h0
    obtain ⟨h3, h4⟩ := gd_out h0
    obtain rfl := of_decide_eq_true h2
    have h3 := of_decide_eq_true h3
    cases h4
    refine laws_markIntS.ev (n := l.length + 1) ?_
    exact laws_markIntS.l2_run (n := l.length + 1) h3 l.length 0 (l.length + 1) (by omega) (by omega)
  · cases h
/-! laws_heldIntS -/
noncomputable def laws_heldIntS.cfg : Cfg := { C0 with keep := fun | 2 => some [0, 1, 5] | _ => none, nb := 0, M := tabM [], MM := tabB [] }
noncomputable def laws_heldIntS.l2 (n : Nat) (m2 : Nat) (l0 : List (List D)) (i1 : Int) (i2 : Int) : Option (List Q) :=
  loopAt laws_heldIntS.cfg [RK.one (LK.int IntKind.i64)] n Tryd.f25 [1, 0, 1, 0] [] m2 (St.mk [V.one false (D.sl (1 : Nat) l0), V.one true (D.int IntKind.i64 i1), V.undef, V.undef, V.undef, V.one true (D.int IntKind.i64 i2), V.undef, V.undef, V.undef, V.undef, V.undef, V.undef, V.undef, V.undef, V.undef, V.undef, V.undef, V.undef, V.undef, V.undef, V.undef] [])
theorem laws_heldIntS.l2_eq (n : Nat) (m2 : Nat) (l0 : List (List D)) (i1 : Int) (i2 : Int) :
    laws_heldIntS.l2 n (m2 + 1) l0 i1 i2 = bif decide (i2 < (↑(List.length l0) : Int)) then bif decide ((0 : Int) ≤ i2) then bif decide (i2 < (↑(List.length l0) : Int)) then Option.bind (Option.bind (some (cellD l0 (Int.toNat i2) (0 : Nat))) (D.int? IntKind.i64)) fun (i1_1 : Int) => bif i1_1 != i1 then some [Q.one (D.int IntKind.i64 (-1 : Int))] else laws_heldIntS.l2 n m2 l0 (IntKind.wrap IntKind.i64 (i1 + (1 : Int))) (IntKind.wrap IntKind.i64 (i2 + (1 : Int))) else none else none else some [Q.one (D.int IntKind.i64 i1)] := by kernel_rfl
noncomputable def laws_heldIntS.res (n : Nat) (a0 : List (List D)) (a1 : Int) : Option (List Q) :=
  laws_heldIntS.l2 n n a0 a1 (0 : Int)
theorem laws_heldIntS.run (n : Nat) (a0 : List (List D)) (a1 : Int) :
    run1 laws_heldIntS.cfg [RK.one (LK.int IntKind.i64)] n Tryd.f25 [Q.one (D.sl (1 : Nat) a0), Q.one (D.int IntKind.i64 a1)] = laws_heldIntS.res n a0 a1 := by kernel_rfl
theorem laws_heldIntS.ev {n : Nat} {a0 : List (List D)} {a1 : Int} {r : List Q} (h : laws_heldIntS.res n a0 a1 = some r) : Snd Tryd.prog C0 25 [.one (.sl 1 a0), .one (.int .i64 a1)] r :=
  snd_ev (C := laws_heldIntS.cfg) cfg0 mix rfl rfl rfl rfl rfl .nil .nil rfl Tryd.func25 (by kernel_rfl) (by kernel_rfl) rfl ((laws_heldIntS.run n a0 a1).trans h)

theorem laws_heldIntS.l2_run {n N : Nat} (hl : N ≤ 100) : ∀ (d i m : Nat), i + d = N → d < m →
    laws_heldIntS.l2 n m (intC.encs (marksZ N)) ((1 + i : Nat) : Int) (i : Int) = some [Q.one (.int .i64 (mkE N))] := by
  intro d
  induction d with
  | zero =>
    intro i m hi hm
    obtain ⟨m, rfl⟩ : ∃ m', m = m' + 1 := ⟨m - 1, by omega⟩
    obtain rfl : i = N := by omega
    have h1 : ¬ (i : Int) < (i : Int) := by omega
    rw [laws_heldIntS.l2_eq]
    simp only [Cod.encs_len, marksZ_len, h1, decide_false, cond_false]
    rfl
  | succ d ih =>
    intro i m hi hm
    obtain ⟨m, rfl⟩ : ∃ m', m = m' + 1 := ⟨m - 1, by omega⟩
    have hlt : i < (marksZ N).length := by rw [marksZ_len]; omega
    have h1 : (i : Int) < (N : Int) := by omega
    rw [laws_heldIntS.l2_eq]
    simp only [Cod.encs_len, marksZ_len, h1, decide_true, cond_true, Int.natCast_nonneg, Int.toNat_natCast, intC_at hlt, marksZ_get hlt, Option.bind_some, bne_self_eq_false, cond_false, wrap_mk (show 1 + i ≤ LIM + 10 by unfold LIM; omega), wrap_succ (show i ≤ LIM by unfold LIM; omega)]
    rw [show 1 + i + 1 = 1 + (i + 1) by omega]
    exact ih (i + 1) m (by omega) (by omega)
def laws_heldIntS.stub : Stub
  | [.one (.sl 1 es), .one (.int .i64 k)] => .any (intC.decs es) fun l => .gd (decide (k = 1)) (.gd (decide (l.length ≤ 100)) (.gd (Sp.isMarksZ l) (.ret [.one (.int .i64 (Sp.mkE l.length))])))
  | _ => .fail
theorem laws_heldIntS.ok : StubOk Tryd.prog C0 25 laws_heldIntS.stub := by
  intro args res h
  unfold laws_heldIntS.stub at h
  split at h
  · obtain ⟨l, h1, h0⟩ := any_out h
    obtain ⟨rfl, hl⟩ := Cod.decs_inv h1
    obtain ⟨h2, ha⟩ := gd_out h0
    obtain ⟨h3, hb⟩ := gd_out ha
    obtain ⟨h4, hc⟩ := gd_out hb
    cases hc
    obtain rfl := of_decide_eq_true h2
    have h3 := of_decide_eq_true h3
    have h4 := of_decide_eq_true h4
    refine laws_heldIntS.ev (n := l.length + 1) ?_
    unfold laws_heldIntS.res
    have key := laws_heldIntS.l2_run (n := l.length + 1) (N := l.length) h3 l.length 0 (l.length + 1) (by omega) (by omega)
    rw [← h4] at key
    exact key
  · cases h
/-! laws_FnExactNeedlessWalls -/
noncomputable def laws_FnExactNeedlessWalls.cfg : Cfg := { C0 with keep := fun _ => none, nb := 0, M := tabM [(11, laws_szPuzzle.stub), (13, laws_toPuzzle.stub), (21, spec_NeedlessWalls.stub), (22, impl_NeedlessWalls.stub), (23, laws_eqIntS.stub), (25, laws_heldIntS.stub)], MM := tabB [(24, laws_markIntS.stub)] }
noncomputable def laws_FnExactNeedlessWalls.res (n : Nat) (a0_0 : ByteArray) (a0_1 : Int) (a0_2 : Int) (a0_3 : Int) (a0_4 : Int) (a0_5 : Int) (a0_6 : Int) (a0_7 : Int) (a0_8 : Int) (a0_9 : Int) (a0_10 : Int) (a0_11 : Int) : Option (List Q) :=
  bif decide (ByteArray.size a0_0 ≤ (9223372036854775807 : Nat)) then bif decide ((bif decide (ByteArray.size a0_0 ≤ (1048576 : Nat)) then (1048576 : Int) - (↑(ByteArray.size a0_0) : Int) else (-1 : Int)) < (0 : Int)) then some [Q.one (D.bool true)] else bif decide (ByteArray.size a0_0 < (17179869184 : Nat)) then Option.bind (Cod.decs intC (Cod.encs intC (wallO a0_0 (Sta.mk a0_1 a0_2 (Die.mk a0_3 a0_4 a0_5 a0_6 a0_7 a0_8)) a0_9 a0_10 a0_11))) fun (l1 : List Int) => Option.bind (Cod.decs intC (Cod.encs intC (wallO a0_0 (Sta.mk a0_1 a0_2 (Die.mk a0_3 a0_4 a0_5 a0_6 a0_7 a0_8)) a0_9 a0_10 a0_11))) fun (l2 : List Int) => bif decide (l1 = l2) then bif !isSO (solF a0_0 (Sta.mk a0_1 a0_2 (Die.mk a0_3 a0_4 a0_5 a0_6 a0_7 a0_8)) a0_9 a0_10 a0_11) == isSO (solF a0_0 (Sta.mk a0_1 a0_2 (Die.mk a0_3 a0_4 a0_5 a0_6 a0_7 a0_8)) a0_9 a0_10 a0_11) then some [Q.one (D.bool false)] else Option.bind (Cod.decs intC (Cod.encs intC (wallO a0_0 (Sta.mk a0_1 a0_2 (Die.mk a0_3 a0_4 a0_5 a0_6 a0_7 a0_8)) a0_9 a0_10 a0_11))) fun (l3 : List Int) => bif decide (List.length l3 ≤ (100 : Nat)) then Option.bind (Cod.decs intC (Cod.encs intC (marksZ (List.length l3)))) fun (l4 : List Int) => bif decide (List.length l4 ≤ (100 : Nat)) then bif isMarksZ l4 then bif mkE (List.length l4) != mkE (List.length l3) then some [Q.one (D.bool false)] else bif decide (ByteArray.size a0_0 < (17179869184 : Nat)) then Option.bind (Cod.decs intC (Cod.encs intC (wallO a0_0 (Sta.mk a0_1 a0_2 (Die.mk a0_3 a0_4 a0_5 a0_6 a0_7 a0_8)) a0_9 a0_10 a0_11))) fun (l5 : List Int) => Option.bind (Cod.decs intC (Cod.encs intC (wallO a0_0 (Sta.mk a0_1 a0_2 (Die.mk a0_3 a0_4 a0_5 a0_6 a0_7 a0_8)) a0_9 a0_10 a0_11))) fun (l6 : List Int) => bif decide (l5 = l6) then bif !isSO (solF a0_0 (Sta.mk a0_1 a0_2 (Die.mk a0_3 a0_4 a0_5 a0_6 a0_7 a0_8)) a0_9 a0_10 a0_11) == isSO (solF a0_0 (Sta.mk a0_1 a0_2 (Die.mk a0_3 a0_4 a0_5 a0_6 a0_7 a0_8)) a0_9 a0_10 a0_11) then some [Q.one (D.bool false)] else Option.bind (Cod.decs intC (Cod.encs intC (marksZ (List.length l3)))) fun (l7 : List Int) => bif decide (List.length l7 ≤ (100 : Nat)) then bif isMarksZ l7 then bif mkE (List.length l7) != mkE (List.length l3) then some [Q.one (D.bool false)] else some [Q.one (D.bool true)] else none else none else none else none else none else none else none else none else none else none
theorem laws_FnExactNeedlessWalls.run (n : Nat) (a0_0 : ByteArray) (a0_1 : Int) (a0_2 : Int) (a0_3 : Int) (a0_4 : Int) (a0_5 : Int) (a0_6 : Int) (a0_7 : Int) (a0_8 : Int) (a0_9 : Int) (a0_10 : Int) (a0_11 : Int) :
    run1 laws_FnExactNeedlessWalls.cfg [RK.one LK.bool] n Tryd.f6 [Q.agg [D.str a0_0, D.int IntKind.i64 a0_1, D.int IntKind.i64 a0_2, D.int IntKind.i64 a0_3, D.int IntKind.i64 a0_4, D.int IntKind.i64 a0_5, D.int IntKind.i64 a0_6, D.int IntKind.i64 a0_7, D.int IntKind.i64 a0_8, D.int IntKind.i64 a0_9, D.int IntKind.i64 a0_10, D.int IntKind.i64 a0_11]] = laws_FnExactNeedlessWalls.res n a0_0 a0_1 a0_2 a0_3 a0_4 a0_5 a0_6 a0_7 a0_8 a0_9 a0_10 a0_11 := by kernel_rfl
theorem laws_FnExactNeedlessWalls.ev {n : Nat} {a0_0 : ByteArray} {a0_1 : Int} {a0_2 : Int} {a0_3 : Int} {a0_4 : Int} {a0_5 : Int} {a0_6 : Int} {a0_7 : Int} {a0_8 : Int} {a0_9 : Int} {a0_10 : Int} {a0_11 : Int} {r : List Q} (h : laws_FnExactNeedlessWalls.res n a0_0 a0_1 a0_2 a0_3 a0_4 a0_5 a0_6 a0_7 a0_8 a0_9 a0_10 a0_11 = some r) : Snd Tryd.prog C0 6 [.agg [.str a0_0, .int .i64 a0_1, .int .i64 a0_2, .int .i64 a0_3, .int .i64 a0_4, .int .i64 a0_5, .int .i64 a0_6, .int .i64 a0_7, .int .i64 a0_8, .int .i64 a0_9, .int .i64 a0_10, .int .i64 a0_11]] r :=
  snd_ev (C := laws_FnExactNeedlessWalls.cfg) cfg0 mix rfl rfl rfl rfl rfl (.cons laws_szPuzzle.ok (.cons laws_toPuzzle.ok (.cons spec_NeedlessWalls.ok (.cons impl_NeedlessWalls.ok (.cons laws_eqIntS.ok (.cons laws_heldIntS.ok .nil)))))) (.cons laws_markIntS.ok .nil) rfl Tryd.func6 (by kernel_rfl) (by kernel_rfl) rfl ((laws_FnExactNeedlessWalls.run n a0_0 a0_1 a0_2 a0_3 a0_4 a0_5 a0_6 a0_7 a0_8 a0_9 a0_10 a0_11).trans h)

theorem laws_FnExactNeedlessWalls.law (q : ByteArray) (hq : q.size ≤ 9223372036854775807) (x y t n e s w b px py pt : Int) : Snd Tryd.prog C0 6 [.agg [.str q, .int .i64 x, .int .i64 y, .int .i64 t, .int .i64 n, .int .i64 e, .int .i64 s, .int .i64 w, .int .i64 b, .int .i64 px, .int .i64 py, .int .i64 pt]] [.one (.bool true)] := by
  refine laws_FnExactNeedlessWalls.ev (n := 0) ?_
  have h100 := wallO_len q ⟨x, y, ⟨t, n, e, s, w, b⟩⟩ px py pt
  have h100' : (wallO q ⟨x, y, ⟨t, n, e, s, w, b⟩⟩ px py pt).length ≤ 100 := by omega
  have hf : (wallO q ⟨x, y, ⟨t, n, e, s, w, b⟩⟩ px py pt).length ≤ LIM := by unfold LIM; omega
  have hm : (marksZ (wallO q ⟨x, y, ⟨t, n, e, s, w, b⟩⟩ px py pt).length).length ≤ LIM := by rw [marksZ_len]; exact hf
  unfold laws_FnExactNeedlessWalls.res
  simp only [hq, decide_true, cond_true, szNeg]
  by_cases hs : q.size ≤ 1048576
  · have h1 : q.size < 17179869184 := by omega
    have hneg : ¬ mkE (wallO q ⟨x, y, ⟨t, n, e, s, w, b⟩⟩ px py pt).length < 0 := by unfold mkE; omega
    simp only [hs, h1, h100', hneg, Cod.decs_encs hf, Cod.decs_encs hm, Option.bind_some, decide_true, decide_false, cond_true, Bool.not_true, cond_false, isMarksZ_marks, marksZ_len, beq_self_eq_true, bne_self_eq_false]
  · simp only [hs, decide_false, Bool.not_false, cond_true, cond_false]
end Go.Proofs.EV.PL
