import Derived.Test.YtjldgcppleibgaaDoorPlA
set_option linter.unusedVariables false
set_option linter.unusedSimpArgs false
/-! What rolls make of a state. -/
namespace Go.Proofs.EV.PL
open Go Go.Proofs Go.Proofs.EV Sp
def spec_boRoll_i.stub : Stub
  | [.agg [.int .i64 gw, .int .i64 gh, .sl 1 es], .agg [.int .i64 x, .int .i64 y, .int .i64 t, .int .i64 n, .int .i64 e, .int .i64 s, .int .i64 w, .int .i64 b], .one (.int .i64 k)] => .any (u8C.decs es) fun cs => .gd (Sp.inR gw 0 7) (.gd (Sp.inR gh 0 7) (.gd (decide (cs.length = gw.toNat * gh.toNat)) (.gd (Sp.inR x 0 6) (.gd (Sp.inR y 0 6) (.any (Sp.rollO ⟨x, y, ⟨t, n, e, s, w, b⟩⟩ k) fun u => .ite (Sp.flC gw gh cs u.x u.y) (.ret [.agg [.int .i64 u.x, .int .i64 u.y, .int .i64 u.d.t, .int .i64 u.d.n, .int .i64 u.d.e, .int .i64 u.d.s, .int .i64 u.d.w, .int .i64 u.d.b], .one (.bool true)]) (.ret [.agg [.int .i64 0, .int .i64 0, .int .i64 0, .int .i64 0, .int .i64 0, .int .i64 0, .int .i64 0, .int .i64 0], .one (.bool false)]))))))
  | _ => .fail
theorem ite_out {b : Bool} {p q : HM (List Q)} {res : List Q} (h : (HM.ite b p q).out = some res) : cond b p.out q.out = some res := h
theorem spec_boRoll_i.ok : StubOk Tryd.prog C0 97 spec_boRoll_i.stub := by
  intro args res h
  refine spec_boRoll.ok args res ?_
  unfold spec_boRoll_i.stub at h
  split at h
  · rename_i gw gh es x y t n e s w b k
    obtain ⟨cs, h1, h0⟩ := any_out h
    obtain ⟨h2, h0⟩ := gd_out h0
    obtain ⟨h3, h0⟩ := gd_out h0
    obtain ⟨h4, h0⟩ := gd_out h0
    obtain ⟨h5, h0⟩ := gd_out h0
    obtain ⟨h6, h0⟩ := gd_out h0
    obtain ⟨u, h7, h0⟩ := any_out h0
    obtain rfl : _ = u := Option.some.inj h7
    have h0 := ite_out h0
    show (HM.any (u8C.decs es) _).out = _
    simp only [HM.out, h1, Option.bind_some, h2, h3, h4, h5, h6, cond_true]
    simp only [rollK] at h0
    cases hp : flC gw gh cs (nxX x k) (nxY y k) <;> rw [hp] at h0 <;> exact h0
  · cases h
def impl_grid_roll_i.stub : Stub
  | [.one (.sl 1 es), .agg [.int .i64 x, .int .i64 y, .int .i64 t, .int .i64 n, .int .i64 e, .int .i64 s, .int .i64 w, .int .i64 b], .one (.int .u8 c)] => .any (strC.decs es) fun l => .gd (Sp.unif (Sp.lb l)) (.gd (Sp.smallR l) (.gd (Sp.inR x 0 6) (.gd (Sp.inR y 0 6) (.any (Sp.mvO ⟨x, y, ⟨t, n, e, s, w, b⟩⟩ c) fun u => .ret [.agg [.int .i64 u.x, .int .i64 u.y, .int .i64 u.d.t, .int .i64 u.d.n, .int .i64 u.d.e, .int .i64 u.d.s, .int .i64 u.d.w, .int .i64 u.d.b], .one (.bool (Sp.isFl (Sp.lb l) u.x u.y))]))))
  | _ => .fail
theorem impl_grid_roll_i.ok : StubOk Tryd.prog C0 86 impl_grid_roll_i.stub := by
  intro args res h
  refine impl_grid_roll.ok args res ?_
  unfold impl_grid_roll_i.stub at h
  split at h
  · rename_i es x y t n e s w b c
    obtain ⟨l, h1, h0⟩ := any_out h
    obtain ⟨h2, h0⟩ := gd_out h0
    obtain ⟨h3, h0⟩ := gd_out h0
    obtain ⟨h5, h0⟩ := gd_out h0
    obtain ⟨h6, h0⟩ := gd_out h0
    obtain ⟨u, h7, h0⟩ := any_out h0
    obtain rfl : _ = u := Option.some.inj h7
    show (HM.any (strC.decs es) _).out = _
    simp only [HM.out, h1, Option.bind_some, h2, h3, h5, h6, cond_true]
    exact h0
  · cases h
/-! spec_wyCode -/
noncomputable def spec_wyCode.cfg : Cfg := { C0 with keep := fun | 3 => some [5, 18, 19, 20] | _ => none, nb := 0, M := tabM [(109, spec_diFaces.stub)], MM := tabB [] }
noncomputable def spec_wyCode.l3 (n : Nat) (m3 : Nat) (i0 : Int) (i1 : Int) (i2 : Int) (l3 : List (List D)) : Option (List Q) :=
  loopAt spec_wyCode.cfg [RK.one (LK.int IntKind.i64)] n Tryd.f96 [1, 1, 0, 1, 0] [] m3 (St.mk [V.undef, V.undef, V.undef, V.undef, V.undef, V.one true (D.int IntKind.i64 i0), V.undef, V.undef, V.undef, V.undef, V.undef, V.undef, V.undef, V.undef, V.undef, V.undef, V.undef, V.undef, V.rw (0 : Nat), V.one true (D.int IntKind.i64 i1), V.one true (D.int IntKind.i64 i2), V.undef, V.undef, V.undef, V.undef, V.undef, V.undef, V.undef, V.undef, V.undef] [Ob.row false (1 : Nat) l3])
theorem spec_wyCode.l3_eq (n : Nat) (m3 : Nat) (i0 : Int) (i1 : Int) (i2 : Int) (l3 : List (List D)) :
    spec_wyCode.l3 n (m3 + 1) i0 i1 i2 l3 = bif decide (i2 < i1) then bif decide ((0 : Int) ≤ i2) then bif decide (i2 < (↑(List.length l3) : Int)) then Option.bind (Option.bind (some (cellD l3 (Int.toNat i2) (0 : Nat))) (D.int? IntKind.i64)) fun (i1_1 : Int) => spec_wyCode.l3 n m3 (IntKind.wrap IntKind.i64 (IntKind.wrap IntKind.i64 ((10 : Int) * i0) + i1_1)) i1 (IntKind.wrap IntKind.i64 (i2 + (1 : Int))) l3 else none else none else some [Q.one (D.int IntKind.i64 i0)] := by kernel_rfl
noncomputable def spec_wyCode.res (n : Nat) (a0_0 : Int) (a0_1 : Int) (a0_2 : List (List D)) (a1_0 : Int) (a1_1 : Int) (a1_2 : Int) (a1_3 : Int) (a1_4 : Int) (a1_5 : Int) (a1_6 : Int) (a1_7 : Int) : Option (List Q) :=
  spec_wyCode.l3 n n (IntKind.wrap IntKind.i64 (IntKind.wrap IntKind.i64 (a1_1 * a0_0) + a1_0)) (6 : Int) (0 : Int) [[D.int IntKind.i64 a1_2], [D.int IntKind.i64 a1_3], [D.int IntKind.i64 a1_4], [D.int IntKind.i64 a1_5], [D.int IntKind.i64 a1_6], [D.int IntKind.i64 a1_7]]
theorem spec_wyCode.run (n : Nat) (a0_0 : Int) (a0_1 : Int) (a0_2 : List (List D)) (a1_0 : Int) (a1_1 : Int) (a1_2 : Int) (a1_3 : Int) (a1_4 : Int) (a1_5 : Int) (a1_6 : Int) (a1_7 : Int) :
    run1 spec_wyCode.cfg [RK.one (LK.int IntKind.i64)] n Tryd.f96 [Q.agg [D.int IntKind.i64 a0_0, D.int IntKind.i64 a0_1, D.sl (1 : Nat) a0_2], Q.agg [D.int IntKind.i64 a1_0, D.int IntKind.i64 a1_1, D.int IntKind.i64 a1_2, D.int IntKind.i64 a1_3, D.int IntKind.i64 a1_4, D.int IntKind.i64 a1_5, D.int IntKind.i64 a1_6, D.int IntKind.i64 a1_7]] = spec_wyCode.res n a0_0 a0_1 a0_2 a1_0 a1_1 a1_2 a1_3 a1_4 a1_5 a1_6 a1_7 := by kernel_rfl
theorem spec_wyCode.ev {n : Nat} {a0_0 : Int} {a0_1 : Int} {a0_2 : List (List D)} {a1_0 : Int} {a1_1 : Int} {a1_2 : Int} {a1_3 : Int} {a1_4 : Int} {a1_5 : Int} {a1_6 : Int} {a1_7 : Int} {r : List Q} (h : spec_wyCode.res n a0_0 a0_1 a0_2 a1_0 a1_1 a1_2 a1_3 a1_4 a1_5 a1_6 a1_7 = some r) : Snd Tryd.prog C0 96 [.agg [.int .i64 a0_0, .int .i64 a0_1, .sl 1 a0_2], .agg [.int .i64 a1_0, .int .i64 a1_1, .int .i64 a1_2, .int .i64 a1_3, .int .i64 a1_4, .int .i64 a1_5, .int .i64 a1_6, .int .i64 a1_7]] r :=
  snd_ev (C := spec_wyCode.cfg) cfg0 mix rfl rfl rfl rfl rfl (.cons spec_diFaces.ok .nil) .nil rfl Tryd.func96 (by kernel_rfl) (by kernel_rfl) rfl ((spec_wyCode.run n a0_0 a0_1 a0_2 a1_0 a1_1 a1_2 a1_3 a1_4 a1_5 a1_6 a1_7).trans h)

def spec_wyCode.stub : Stub
  | [.agg [.int .i64 gw, .int .i64 gh, .sl 1 es], .agg [.int .i64 x, .int .i64 y, .int .i64 t, .int .i64 n, .int .i64 e, .int .i64 s, .int .i64 w, .int .i64 b]] => .gd (Sp.inR gw 0 7) (.gd (Sp.inR x 0 6) (.gd (Sp.inR y 0 6) (.gd (Sp.Die.good ⟨t, n, e, s, w, b⟩) (.ret [.one (.int .i64 (Sp.codeN gw.toNat ⟨x, y, ⟨t, n, e, s, w, b⟩⟩ : Nat))]))))
  | _ => .fail
theorem spec_wyCode.l3_run {n : Nat} : ∀ (rest done : List Int) (m : Nat) (a : Nat), done.length + rest.length = 6 → rest.length < m → a < 100 * 10 ^ done.length → (∀ z ∈ rest, inR z 0 9 = true) →
    spec_wyCode.l3 n m (a : Int) 6 (done.length : Int) (intC.encs (done ++ rest)) = some [Q.one (.int .i64 (rest.foldl (fun c f => 10 * c + f.toNat) a : Nat))]
  | [], done, m, a, hl, hm, _, _ => by
    obtain ⟨m, rfl⟩ : ∃ m', m = m' + 1 := ⟨m - 1, by simp at hm; omega⟩
    have h1 : ¬ (done.length : Int) < 6 := by simp at hl; omega
    rw [spec_wyCode.l3_eq]
    simp only [h1, decide_false, cond_false, List.foldl_nil]
  | z :: rest, done, m, a, hl, hm, ha, hz => by
    obtain ⟨m, rfl⟩ : ∃ m', m = m' + 1 := ⟨m - 1, by simp at hm; omega⟩
    rw [List.length_cons] at hl hm
    have h1 : (done.length : Int) < 6 := by omega
    have hlt : done.length < (done ++ z :: rest).length := by simp
    have h2 : (done.length : Int) < (((done ++ z :: rest).length : Nat) : Int) := by omega
    have hget : (done ++ z :: rest)[done.length] = z := by
      rw [List.getElem_append_right (by simp)]
      simp
    obtain ⟨z0, z9⟩ := inR_out (hz z List.mem_cons_self)
    have hp : 10 ^ done.length ≤ 10 ^ 5 := Nat.pow_le_pow_right (by omega) (by omega)
    have hb : 10 * a + z.toNat < 100 * 10 ^ (done.length + 1) := by
      rw [Nat.pow_succ]
      omega
    have w1 : IntKind.wrap .i64 (10 * (a : Int)) = 10 * (a : Int) := wrap_in (by omega) (by omega)
    have w2 : IntKind.wrap .i64 (10 * (a : Int) + z) = ((10 * a + z.toNat : Nat) : Int) := by rw [wrap_in (by omega) (by omega)]; omega
    have step := spec_wyCode.l3_run (n := n) rest (done ++ [z]) m (10 * a + z.toNat) (by simp; omega) (by omega) (by rw [List.length_append, List.length_singleton]; exact hb) (fun y hy => hz y (List.mem_cons_of_mem _ hy))
    rw [List.length_append, List.length_singleton, List.append_assoc, List.singleton_append] at step
    rw [spec_wyCode.l3_eq]
    simp only [h1, h2, Cod.encs_len, Int.natCast_nonneg, Int.toNat_natCast, decide_true, cond_true, Option.bind_some, intC_at hlt, hget, wrap_succ (show done.length ≤ LIM by unfold LIM; omega), w1, w2, List.foldl_cons]
    exact step
theorem spec_wyCode.ok : StubOk Tryd.prog C0 96 spec_wyCode.stub := by
  intro args res h
  unfold spec_wyCode.stub at h
  split at h
  · rename_i gw gh es x y t n e s w b
    obtain ⟨h1, h0⟩ := gd_out h
    obtain ⟨h2, h0⟩ := gd_out h0
    obtain ⟨h3, h0⟩ := gd_out h0
    obtain ⟨h4, h0⟩ := gd_out h0
    cases h0
    obtain ⟨N, hN⟩ : ∃ N, 64 ≤ N := ⟨64, Nat.le_refl _⟩
    refine spec_wyCode.ev (n := N) ?_
    unfold spec_wyCode.res
    obtain ⟨w0, w7⟩ := inR_out h1
    obtain ⟨x0, x6⟩ := inR_out h2
    obtain ⟨y0, y6⟩ := inR_out h3
    obtain ⟨G, rfl⟩ := Int.eq_ofNat_of_zero_le w0
    obtain ⟨X, rfl⟩ := Int.eq_ofNat_of_zero_le x0
    obtain ⟨Y, rfl⟩ := Int.eq_ofNat_of_zero_le y0
    have hm : Y * G ≤ 6 * 7 := Nat.mul_le_mul (by omega) (by omega)
    have e1 : (Y : Int) * (G : Int) = ((Y * G : Nat) : Int) := by push_cast; rfl
    have w1 : IntKind.wrap .i64 (IntKind.wrap .i64 ((Y : Int) * (G : Int)) + (X : Int)) = ((Y * G + X : Nat) : Int) := by
      have e2 : IntKind.wrap .i64 ((Y * G : Nat) : Int) = ((Y * G : Nat) : Int) := wrap_in (by omega) (by omega)
      rw [e1, e2, wrap_in (by omega) (by omega)]
      omega
    have key := spec_wyCode.l3_run (n := N) [t, n, e, s, w, b] [] N (Y * G + X) rfl (by simp; omega) (by simp; omega) (faces_in h4)
    rw [w1]
    exact key
  · cases h
/-! spec_wyPlace -/
noncomputable def spec_wyPlace.cfg : Cfg := { C0 with keep := fun | 2 => some [1, 7, 8, 9] | _ => none, nb := 0, M := tabM [], MM := tabB [] }
noncomputable def spec_wyPlace.l2 (n : Nat) (m2 : Nat) (i0 : Int) (l1 : List (List D)) (i2 : Int) (i3 : Int) : Option (List Q) :=
  loopAt spec_wyPlace.cfg [RK.one (LK.int IntKind.i64)] n Tryd.f98 [1, 0, 1, 0] [] m2 (St.mk [V.undef, V.one true (D.int IntKind.i64 i0), V.undef, V.undef, V.undef, V.undef, V.undef, V.one false (D.sl (1 : Nat) l1), V.one true (D.int IntKind.i64 i2), V.one true (D.int IntKind.i64 i3), V.undef, V.undef, V.undef, V.undef, V.undef, V.undef, V.undef, V.undef, V.undef] [])
theorem spec_wyPlace.l2_eq (n : Nat) (m2 : Nat) (i0 : Int) (l1 : List (List D)) (i2 : Int) (i3 : Int) :
    spec_wyPlace.l2 n (m2 + 1) i0 l1 i2 i3 = bif decide (i3 < i2) then bif decide ((0 : Int) ≤ i3) then bif decide (i3 < (↑(List.length l1) : Int)) then Option.bind (Option.bind (some (cellD l1 (Int.toNat i3) (0 : Nat))) (D.int? IntKind.i64)) fun (i1 : Int) => bif i1 == i0 then some [Q.one (D.int IntKind.i64 i3)] else spec_wyPlace.l2 n m2 i0 l1 i2 (IntKind.wrap IntKind.i64 (i3 + (1 : Int))) else none else none else some [Q.one (D.int IntKind.i64 (-1 : Int))] := by kernel_rfl
noncomputable def spec_wyPlace.res (n : Nat) (a0 : List (List D)) (a1 : Int) : Option (List Q) :=
  spec_wyPlace.l2 n n a1 a0 (↑(List.length a0) : Int) (0 : Int)
theorem spec_wyPlace.run (n : Nat) (a0 : List (List D)) (a1 : Int) :
    run1 spec_wyPlace.cfg [RK.one (LK.int IntKind.i64)] n Tryd.f98 [Q.one (D.sl (1 : Nat) a0), Q.one (D.int IntKind.i64 a1)] = spec_wyPlace.res n a0 a1 := by kernel_rfl
theorem spec_wyPlace.ev {n : Nat} {a0 : List (List D)} {a1 : Int} {r : List Q} (h : spec_wyPlace.res n a0 a1 = some r) : Snd Tryd.prog C0 98 [.one (.sl 1 a0), .one (.int .i64 a1)] r :=
  snd_ev (C := spec_wyPlace.cfg) cfg0 mix rfl rfl rfl rfl rfl .nil .nil rfl Tryd.func98 (by kernel_rfl) (by kernel_rfl) rfl ((spec_wyPlace.run n a0 a1).trans h)

theorem spec_wyPlace.l2_run {n : Nat} {v : Int} {L : List Int} (hL : L.length ≤ LIM) : ∀ (d i m : Nat), i + d = L.length → d < m →
    spec_wyPlace.l2 n m v (intC.encs L) ((L.length : Nat) : Int) (i : Int) = some [Q.one (.int .i64 (ixO ((ixOf v (L.drop i)).map (· + i))))] := by
  intro d
  induction d with
  | zero =>
    intro i m hi hm
    obtain ⟨m, rfl⟩ : ∃ m', m = m' + 1 := ⟨m - 1, by omega⟩
    have h1 : ¬ (i : Int) < ((L.length : Nat) : Int) := by omega
    rw [spec_wyPlace.l2_eq, List.drop_of_length_le (by omega)]
    simp only [h1, decide_false, cond_false]
    rfl
  | succ d ih =>
    intro i m hi hm
    obtain ⟨m, rfl⟩ : ∃ m', m = m' + 1 := ⟨m - 1, by omega⟩
    have hlt : i < L.length := by omega
    have h1 : (i : Int) < ((L.length : Nat) : Int) := by omega
    have step := ih (i + 1) m (by omega) (by omega)
    rw [spec_wyPlace.l2_eq, List.drop_eq_getElem_cons hlt, ixOf]
    simp only [h1, Cod.encs_len, Int.natCast_nonneg, Int.toNat_natCast, decide_true, cond_true, intC_at hlt, Option.bind_some, wrap_succ (show i ≤ LIM by omega), step, ieq]
    cases decide (L[i] = v) with
    | true =>
      simp only [cond_true, Option.map_some, Nat.zero_add]
      rfl
    | false =>
      simp only [cond_false, Option.map_map]
      congr 4
      cases ixOf v (L.drop (i + 1)) with
      | none => rfl
      | some j =>
        show ((j + (i + 1) : Nat) : Int) = ((j + 1 + i : Nat) : Int)
        omega
def spec_wyPlace.stub : Stub
  | [.one (.sl 1 es), .one (.int .i64 n)] => .any (intC.decs es) fun l => .ret [.one (.int .i64 (Sp.ixO (Sp.ixOf n l)))]
  | _ => .fail
theorem spec_wyPlace.ok : StubOk Tryd.prog C0 98 spec_wyPlace.stub := by
  intro args res h
  unfold spec_wyPlace.stub at h
  split at h
  · rename_i es v
    obtain ⟨l, h1, h0⟩ := any_out h
    obtain ⟨rfl, hl⟩ := Cod.decs_inv h1
    cases h0
    refine spec_wyPlace.ev (n := l.length + 1) ?_
    unfold spec_wyPlace.res
    rw [Cod.encs_len]
    have key := spec_wyPlace.l2_run (n := l.length + 1) (v := v) hl l.length 0 (l.length + 1) (by omega) (by omega)
    rw [List.drop_zero] at key
    refine Eq.trans key ?_
    congr 4
    cases ixOf v l <;> rfl
  · cases h
/-! spec_wyAll -/
noncomputable def spec_wyAll.cfg : Cfg := { C0 with keep := fun | 4 => some [2, 5, 6, 7] | 7 => some [2, 5, 6, 7, 8] | _ => none, nb := 0, M := tabM [(97, spec_boRoll_i.stub), (96, spec_wyCode.stub), (98, spec_wyPlace.stub)], MM := tabB [] }
noncomputable def spec_wyAll.l4 (n : Nat) (m4 : Nat) (i0 : Int) (i1 : Int) (i2 : Int) (l3 : List (List D)) (l4 : List (List D)) (l5 : List (List D)) : Option (List Q) :=
  loopAt spec_wyAll.cfg [RK.own (16 : Nat)] n Tryd.f71 [1, 1, 1, 0, 1, 0] [] m4 (St.mk [V.undef, V.undef, V.rp (0 : Nat) (0 : Nat), V.undef, V.undef, V.rw (1 : Nat), V.rw (2 : Nat), V.one true (D.int IntKind.i64 i0), V.undef, V.undef, V.undef, V.undef, V.undef, V.undef, V.undef, V.undef, V.undef, V.undef, V.undef, V.undef, V.undef, V.undef, V.undef, V.undef, V.undef, V.undef, V.undef, V.undef, V.undef, V.undef, V.undef, V.undef, V.undef, V.undef, V.undef, V.undef, V.undef, V.undef, V.undef, V.undef, V.undef, V.undef, V.undef, V.undef, V.undef, V.undef, V.undef, V.undef, V.undef, V.undef, V.undef, V.undef, V.undef, V.undef, V.undef, V.undef, V.undef, V.undef, V.undef, V.undef, V.undef, V.undef, V.undef, V.undef, V.undef, V.undef, V.undef, V.undef, V.undef, V.undef, V.undef, V.undef, V.undef, V.undef, V.undef, V.undef, V.undef, V.undef, V.undef, V.undef, V.undef, V.undef, V.undef, V.undef, V.undef, V.undef, V.undef, V.undef, V.undef, V.undef, V.undef, V.undef, V.undef, V.undef, V.undef, V.undef, V.undef, V.undef, V.undef, V.undef, V.undef, V.undef, V.undef, V.undef, V.undef, V.undef, V.undef, V.undef, V.undef] [Ob.box [V.one true (D.int IntKind.i64 i1), V.one true (D.int IntKind.i64 i2), V.one false (D.sl (1 : Nat) l3)], Ob.row false (16 : Nat) l4, Ob.row false (1 : Nat) l5])
noncomputable def spec_wyAll.l7 (n : Nat) (m4 : Nat) (m7 : Nat) (i0 : Int) (i1 : Int) (i2 : Int) (i3 : Int) (l4 : List (List D)) (l5 : List (List D)) (l6 : List (List D)) : Option (List Q) :=
  loopAt spec_wyAll.cfg [RK.own (16 : Nat)] n Tryd.f71 [1, 1, 1, 0, 1, 0, 0, 1, 0, 0, 1, 0] [m4] m7 (St.mk [V.undef, V.undef, V.rp (0 : Nat) (0 : Nat), V.undef, V.undef, V.rw (1 : Nat), V.rw (2 : Nat), V.one true (D.int IntKind.i64 i0), V.one true (D.int IntKind.i64 i1), V.undef, V.undef, V.undef, V.undef, V.undef, V.undef, V.undef, V.undef, V.undef, V.undef, V.undef, V.undef, V.undef, V.undef, V.undef, V.undef, V.undef, V.undef, V.undef, V.undef, V.undef, V.undef, V.undef, V.undef, V.undef, V.undef, V.undef, V.undef, V.undef, V.undef, V.undef, V.undef, V.undef, V.undef, V.undef, V.undef, V.undef, V.undef, V.undef, V.undef, V.undef, V.undef, V.undef, V.undef, V.undef, V.undef, V.undef, V.undef, V.undef, V.undef, V.undef, V.undef, V.undef, V.undef, V.undef, V.undef, V.undef, V.undef, V.undef, V.undef, V.undef, V.undef, V.undef, V.undef, V.undef, V.undef, V.undef, V.undef, V.undef, V.undef, V.undef, V.undef, V.undef, V.undef, V.undef, V.undef, V.undef, V.undef, V.undef, V.undef, V.undef, V.undef, V.undef, V.undef, V.undef, V.undef, V.undef, V.undef, V.undef, V.undef, V.undef, V.undef, V.undef, V.undef, V.undef, V.undef, V.undef, V.undef, V.undef, V.undef] [Ob.box [V.one true (D.int IntKind.i64 i2), V.one true (D.int IntKind.i64 i3), V.one false (D.sl (1 : Nat) l4)], Ob.row false (16 : Nat) l5, Ob.row false (1 : Nat) l6])
theorem spec_wyAll.l4_eq (n : Nat) (m4 : Nat) (i0 : Int) (i1 : Int) (i2 : Int) (l3 : List (List D)) (l4 : List (List D)) (l5 : List (List D)) :
    spec_wyAll.l4 n (m4 + 1) i0 i1 i2 l3 l4 l5 = bif decide (i0 < (↑(List.length l4) : Int)) then spec_wyAll.l7 n m4 n i0 (0 : Int) i1 i2 l3 l4 l5 else some [Q.one (D.sl (16 : Nat) l4)] := by kernel_rfl
theorem spec_wyAll.l7_eq (n : Nat) (m4 : Nat) (m7 : Nat) (i0 : Int) (i1 : Int) (i2 : Int) (i3 : Int) (l4 : List (List D)) (l5 : List (List D)) (l6 : List (List D)) :
    spec_wyAll.l7 n m4 (m7 + 1) i0 i1 i2 i3 l4 l5 l6 = bif decide (i1 < (4 : Int)) then bif decide ((0 : Int) ≤ i0) then bif decide (i0 < (↑(List.length l5) : Int)) then bif decide ((0 : Int) ≤ i1) then bif decide (i1 < (4 : Int)) then bif decide ((12 : Nat) + Int.toNat i1 * (1 : Nat) + (1 : Nat) ≤ (16 : Nat)) then bif decide ((0 : Int) ≤ i0) then bif decide (i0 < (↑(List.length (setRow (16 : Nat) l5 (Int.toNat i0) ((12 : Nat) + Int.toNat i1 * (1 : Nat)) [D.int IntKind.i64 (-1 : Int)])) : Int)) then Option.bind (Option.bind (some (cellD (setRow (16 : Nat) l5 (Int.toNat i0) ((12 : Nat) + Int.toNat i1 * (1 : Nat)) [D.int IntKind.i64 (-1 : Int)]) (Int.toNat i0) (0 : Nat))) (D.int? IntKind.i64)) fun (i1_1 : Int) => Option.bind (Option.bind (some (cellD (setRow (16 : Nat) l5 (Int.toNat i0) ((12 : Nat) + Int.toNat i1 * (1 : Nat)) [D.int IntKind.i64 (-1 : Int)]) (Int.toNat i0) (1 : Nat))) (D.int? IntKind.i64)) fun (i2_1 : Int) => Option.bind (Option.bind (some (cellD (setRow (16 : Nat) l5 (Int.toNat i0) ((12 : Nat) + Int.toNat i1 * (1 : Nat)) [D.int IntKind.i64 (-1 : Int)]) (Int.toNat i0) (2 : Nat))) (D.int? IntKind.i64)) fun (i3_1 : Int) => Option.bind (Option.bind (some (cellD (setRow (16 : Nat) l5 (Int.toNat i0) ((12 : Nat) + Int.toNat i1 * (1 : Nat)) [D.int IntKind.i64 (-1 : Int)]) (Int.toNat i0) (3 : Nat))) (D.int? IntKind.i64)) fun (i4 : Int) => Option.bind (Option.bind (some (cellD (setRow (16 : Nat) l5 (Int.toNat i0) ((12 : Nat) + Int.toNat i1 * (1 : Nat)) [D.int IntKind.i64 (-1 : Int)]) (Int.toNat i0) (4 : Nat))) (D.int? IntKind.i64)) fun (i5 : Int) => Option.bind (Option.bind (some (cellD (setRow (16 : Nat) l5 (Int.toNat i0) ((12 : Nat) + Int.toNat i1 * (1 : Nat)) [D.int IntKind.i64 (-1 : Int)]) (Int.toNat i0) (5 : Nat))) (D.int? IntKind.i64)) fun (i6 : Int) => Option.bind (Option.bind (some (cellD (setRow (16 : Nat) l5 (Int.toNat i0) ((12 : Nat) + Int.toNat i1 * (1 : Nat)) [D.int IntKind.i64 (-1 : Int)]) (Int.toNat i0) (6 : Nat))) (D.int? IntKind.i64)) fun (i7 : Int) => Option.bind (Option.bind (some (cellD (setRow (16 : Nat) l5 (Int.toNat i0) ((12 : Nat) + Int.toNat i1 * (1 : Nat)) [D.int IntKind.i64 (-1 : Int)]) (Int.toNat i0) (7 : Nat))) (D.int? IntKind.i64)) fun (i8 : Int) => Option.bind (Cod.decs u8C l4) fun (l9 : List UInt8) => bif inR i2 (0 : Int) (7 : Int) then bif inR i3 (0 : Int) (7 : Int) then bif decide (List.length l9 = Int.toNat i2 * Int.toNat i3) then bif inR i1_1 (0 : Int) (6 : Int) then bif inR i2_1 (0 : Int) (6 : Int) then bif flC i2 i3 l9 (Sta.x (rollK (Sta.mk i1_1 i2_1 (Die.mk i3_1 i4 i5 i6 i7 i8)) i1)) (Sta.y (rollK (Sta.mk i1_1 i2_1 (Die.mk i3_1 i4 i5 i6 i7 i8)) i1)) then bif inR i2 (0 : Int) (7 : Int) then bif inR (Sta.x (rollK (Sta.mk i1_1 i2_1 (Die.mk i3_1 i4 i5 i6 i7 i8)) i1)) (0 : Int) (6 : Int) then bif inR (Sta.y (rollK (Sta.mk i1_1 i2_1 (Die.mk i3_1 i4 i5 i6 i7 i8)) i1)) (0 : Int) (6 : Int) then bif Die.good (Die.mk (Die.t (Sta.d (rollK (Sta.mk i1_1 i2_1 (Die.mk i3_1 i4 i5 i6 i7 i8)) i1))) (Die.n (Sta.d (rollK (Sta.mk i1_1 i2_1 (Die.mk i3_1 i4 i5 i6 i7 i8)) i1))) (Die.e (Sta.d (rollK (Sta.mk i1_1 i2_1 (Die.mk i3_1 i4 i5 i6 i7 i8)) i1))) (Die.s (Sta.d (rollK (Sta.mk i1_1 i2_1 (Die.mk i3_1 i4 i5 i6 i7 i8)) i1))) (Die.w (Sta.d (rollK (Sta.mk i1_1 i2_1 (Die.mk i3_1 i4 i5 i6 i7 i8)) i1))) (Die.b (Sta.d (rollK (Sta.mk i1_1 i2_1 (Die.mk i3_1 i4 i5 i6 i7 i8)) i1)))) then Option.bind (Cod.decs intC l6) fun (l10 : List Int) => bif decide (ixO (ixOf (↑(codeN (Int.toNat i2) (Sta.mk (Sta.x (rollK (Sta.mk i1_1 i2_1 (Die.mk i3_1 i4 i5 i6 i7 i8)) i1)) (Sta.y (rollK (Sta.mk i1_1 i2_1 (Die.mk i3_1 i4 i5 i6 i7 i8)) i1)) (Die.mk (Die.t (Sta.d (rollK (Sta.mk i1_1 i2_1 (Die.mk i3_1 i4 i5 i6 i7 i8)) i1))) (Die.n (Sta.d (rollK (Sta.mk i1_1 i2_1 (Die.mk i3_1 i4 i5 i6 i7 i8)) i1))) (Die.e (Sta.d (rollK (Sta.mk i1_1 i2_1 (Die.mk i3_1 i4 i5 i6 i7 i8)) i1))) (Die.s (Sta.d (rollK (Sta.mk i1_1 i2_1 (Die.mk i3_1 i4 i5 i6 i7 i8)) i1))) (Die.w (Sta.d (rollK (Sta.mk i1_1 i2_1 (Die.mk i3_1 i4 i5 i6 i7 i8)) i1))) (Die.b (Sta.d (rollK (Sta.mk i1_1 i2_1 (Die.mk i3_1 i4 i5 i6 i7 i8)) i1)))))) : Int) l10) < (0 : Int)) then bif decide ((0 : Int) ≤ i0) then bif decide (i0 < (↑(List.length (setRow (16 : Nat) l5 (Int.toNat i0) ((12 : Nat) + Int.toNat i1 * (1 : Nat)) [D.int IntKind.i64 (-1 : Int)])) : Int)) then Option.bind (Option.bind (some (cellD (setRow (16 : Nat) l5 (Int.toNat i0) ((12 : Nat) + Int.toNat i1 * (1 : Nat)) [D.int IntKind.i64 (-1 : Int)]) (Int.toNat i0) (8 : Nat))) (D.int? IntKind.i64)) fun (i11 : Int) => bif decide (List.length (setRow (16 : Nat) l5 (Int.toNat i0) ((12 : Nat) + Int.toNat i1 * (1 : Nat)) [D.int IntKind.i64 (-1 : Int)]) + (1 : Nat) ≤ (17179869184 : Nat)) then bif inR i2 (0 : Int) (7 : Int) then bif inR (Sta.x (rollK (Sta.mk i1_1 i2_1 (Die.mk i3_1 i4 i5 i6 i7 i8)) i1)) (0 : Int) (6 : Int) then bif inR (Sta.y (rollK (Sta.mk i1_1 i2_1 (Die.mk i3_1 i4 i5 i6 i7 i8)) i1)) (0 : Int) (6 : Int) then bif Die.good (Die.mk (Die.t (Sta.d (rollK (Sta.mk i1_1 i2_1 (Die.mk i3_1 i4 i5 i6 i7 i8)) i1))) (Die.n (Sta.d (rollK (Sta.mk i1_1 i2_1 (Die.mk i3_1 i4 i5 i6 i7 i8)) i1))) (Die.e (Sta.d (rollK (Sta.mk i1_1 i2_1 (Die.mk i3_1 i4 i5 i6 i7 i8)) i1))) (Die.s (Sta.d (rollK (Sta.mk i1_1 i2_1 (Die.mk i3_1 i4 i5 i6 i7 i8)) i1))) (Die.w (Sta.d (rollK (Sta.mk i1_1 i2_1 (Die.mk i3_1 i4 i5 i6 i7 i8)) i1))) (Die.b (Sta.d (rollK (Sta.mk i1_1 i2_1 (Die.mk i3_1 i4 i5 i6 i7 i8)) i1)))) then bif decide (List.length l6 + (1 : Nat) ≤ (17179869184 : Nat)) then bif decide ((↑(List.length (setRow (16 : Nat) l5 (Int.toNat i0) ((12 : Nat) + Int.toNat i1 * (1 : Nat)) [D.int IntKind.i64 (-1 : Int)])) : Int) < (↑(List.length (setRow (16 : Nat) l5 (Int.toNat i0) ((12 : Nat) + Int.toNat i1 * (1 : Nat)) [D.int IntKind.i64 (-1 : Int)] ++ [[D.int IntKind.i64 (Sta.x (rollK (Sta.mk i1_1 i2_1 (Die.mk i3_1 i4 i5 i6 i7 i8)) i1)), D.int IntKind.i64 (Sta.y (rollK (Sta.mk i1_1 i2_1 (Die.mk i3_1 i4 i5 i6 i7 i8)) i1)), D.int IntKind.i64 (Die.t (Sta.d (rollK (Sta.mk i1_1 i2_1 (Die.mk i3_1 i4 i5 i6 i7 i8)) i1))), D.int IntKind.i64 (Die.n (Sta.d (rollK (Sta.mk i1_1 i2_1 (Die.mk i3_1 i4 i5 i6 i7 i8)) i1))), D.int IntKind.i64 (Die.e (Sta.d (rollK (Sta.mk i1_1 i2_1 (Die.mk i3_1 i4 i5 i6 i7 i8)) i1))), D.int IntKind.i64 (Die.s (Sta.d (rollK (Sta.mk i1_1 i2_1 (Die.mk i3_1 i4 i5 i6 i7 i8)) i1))), D.int IntKind.i64 (Die.w (Sta.d (rollK (Sta.mk i1_1 i2_1 (Die.mk i3_1 i4 i5 i6 i7 i8)) i1))), D.int IntKind.i64 (Die.b (Sta.d (rollK (Sta.mk i1_1 i2_1 (Die.mk i3_1 i4 i5 i6 i7 i8)) i1))), D.int IntKind.i64 (IntKind.wrap IntKind.i64 (i11 + (1 : Int))), D.int IntKind.i64 (0 : Int), D.int IntKind.i64 i0, D.int IntKind.i64 i1, D.int IntKind.i64 (0 : Int), D.int IntKind.i64 (0 : Int), D.int IntKind.i64 (0 : Int), D.int IntKind.i64 (0 : Int)]])) : Int)) then Option.bind (Option.bind (some (cellD (setRow (16 : Nat) l5 (Int.toNat i0) ((12 : Nat) + Int.toNat i1 * (1 : Nat)) [D.int IntKind.i64 (-1 : Int)] ++ [[D.int IntKind.i64 (Sta.x (rollK (Sta.mk i1_1 i2_1 (Die.mk i3_1 i4 i5 i6 i7 i8)) i1)), D.int IntKind.i64 (Sta.y (rollK (Sta.mk i1_1 i2_1 (Die.mk i3_1 i4 i5 i6 i7 i8)) i1)), D.int IntKind.i64 (Die.t (Sta.d (rollK (Sta.mk i1_1 i2_1 (Die.mk i3_1 i4 i5 i6 i7 i8)) i1))), D.int IntKind.i64 (Die.n (Sta.d (rollK (Sta.mk i1_1 i2_1 (Die.mk i3_1 i4 i5 i6 i7 i8)) i1))), D.int IntKind.i64 (Die.e (Sta.d (rollK (Sta.mk i1_1 i2_1 (Die.mk i3_1 i4 i5 i6 i7 i8)) i1))), D.int IntKind.i64 (Die.s (Sta.d (rollK (Sta.mk i1_1 i2_1 (Die.mk i3_1 i4 i5 i6 i7 i8)) i1))), D.int IntKind.i64 (Die.w (Sta.d (rollK (Sta.mk i1_1 i2_1 (Die.mk i3_1 i4 i5 i6 i7 i8)) i1))), D.int IntKind.i64 (Die.b (Sta.d (rollK (Sta.mk i1_1 i2_1 (Die.mk i3_1 i4 i5 i6 i7 i8)) i1))), D.int IntKind.i64 (IntKind.wrap IntKind.i64 (i11 + (1 : Int))), D.int IntKind.i64 (0 : Int), D.int IntKind.i64 i0, D.int IntKind.i64 i1, D.int IntKind.i64 (0 : Int), D.int IntKind.i64 (0 : Int), D.int IntKind.i64 (0 : Int), D.int IntKind.i64 (0 : Int)]]) (Int.toNat (↑(List.length (setRow (16 : Nat) l5 (Int.toNat i0) ((12 : Nat) + Int.toNat i1 * (1 : Nat)) [D.int IntKind.i64 (-1 : Int)])) : Int)) (8 : Nat))) (D.int? IntKind.i64)) fun (i12 : Int) => bif decide ((0 : Int) ≤ i0) then bif decide (i0 < (↑(List.length (setRow (16 : Nat) l5 (Int.toNat i0) ((12 : Nat) + Int.toNat i1 * (1 : Nat)) [D.int IntKind.i64 (-1 : Int)] ++ [[D.int IntKind.i64 (Sta.x (rollK (Sta.mk i1_1 i2_1 (Die.mk i3_1 i4 i5 i6 i7 i8)) i1)), D.int IntKind.i64 (Sta.y (rollK (Sta.mk i1_1 i2_1 (Die.mk i3_1 i4 i5 i6 i7 i8)) i1)), D.int IntKind.i64 (Die.t (Sta.d (rollK (Sta.mk i1_1 i2_1 (Die.mk i3_1 i4 i5 i6 i7 i8)) i1))), D.int IntKind.i64 (Die.n (Sta.d (rollK (Sta.mk i1_1 i2_1 (Die.mk i3_1 i4 i5 i6 i7 i8)) i1))), D.int IntKind.i64 (Die.e (Sta.d (rollK (Sta.mk i1_1 i2_1 (Die.mk i3_1 i4 i5 i6 i7 i8)) i1))), D.int IntKind.i64 (Die.s (Sta.d (rollK (Sta.mk i1_1 i2_1 (Die.mk i3_1 i4 i5 i6 i7 i8)) i1))), D.int IntKind.i64 (Die.w (Sta.d (rollK (Sta.mk i1_1 i2_1 (Die.mk i3_1 i4 i5 i6 i7 i8)) i1))), D.int IntKind.i64 (Die.b (Sta.d (rollK (Sta.mk i1_1 i2_1 (Die.mk i3_1 i4 i5 i6 i7 i8)) i1))), D.int IntKind.i64 (IntKind.wrap IntKind.i64 (i11 + (1 : Int))), D.int IntKind.i64 (0 : Int), D.int IntKind.i64 i0, D.int IntKind.i64 i1, D.int IntKind.i64 (0 : Int), D.int IntKind.i64 (0 : Int), D.int IntKind.i64 (0 : Int), D.int IntKind.i64 (0 : Int)]])) : Int)) then Option.bind (Option.bind (some (cellD (setRow (16 : Nat) l5 (Int.toNat i0) ((12 : Nat) + Int.toNat i1 * (1 : Nat)) [D.int IntKind.i64 (-1 : Int)] ++ [[D.int IntKind.i64 (Sta.x (rollK (Sta.mk i1_1 i2_1 (Die.mk i3_1 i4 i5 i6 i7 i8)) i1)), D.int IntKind.i64 (Sta.y (rollK (Sta.mk i1_1 i2_1 (Die.mk i3_1 i4 i5 i6 i7 i8)) i1)), D.int IntKind.i64 (Die.t (Sta.d (rollK (Sta.mk i1_1 i2_1 (Die.mk i3_1 i4 i5 i6 i7 i8)) i1))), D.int IntKind.i64 (Die.n (Sta.d (rollK (Sta.mk i1_1 i2_1 (Die.mk i3_1 i4 i5 i6 i7 i8)) i1))), D.int IntKind.i64 (Die.e (Sta.d (rollK (Sta.mk i1_1 i2_1 (Die.mk i3_1 i4 i5 i6 i7 i8)) i1))), D.int IntKind.i64 (Die.s (Sta.d (rollK (Sta.mk i1_1 i2_1 (Die.mk i3_1 i4 i5 i6 i7 i8)) i1))), D.int IntKind.i64 (Die.w (Sta.d (rollK (Sta.mk i1_1 i2_1 (Die.mk i3_1 i4 i5 i6 i7 i8)) i1))), D.int IntKind.i64 (Die.b (Sta.d (rollK (Sta.mk i1_1 i2_1 (Die.mk i3_1 i4 i5 i6 i7 i8)) i1))), D.int IntKind.i64 (IntKind.wrap IntKind.i64 (i11 + (1 : Int))), D.int IntKind.i64 (0 : Int), D.int IntKind.i64 i0, D.int IntKind.i64 i1, D.int IntKind.i64 (0 : Int), D.int IntKind.i64 (0 : Int), D.int IntKind.i64 (0 : Int), D.int IntKind.i64 (0 : Int)]]) (Int.toNat i0) (8 : Nat))) (D.int? IntKind.i64)) fun (i13 : Int) => bif i12 == IntKind.wrap IntKind.i64 (i13 + (1 : Int)) then bif decide ((↑(List.length (setRow (16 : Nat) l5 (Int.toNat i0) ((12 : Nat) + Int.toNat i1 * (1 : Nat)) [D.int IntKind.i64 (-1 : Int)])) : Int) < (↑(List.length (setRow (16 : Nat) l5 (Int.toNat i0) ((12 : Nat) + Int.toNat i1 * (1 : Nat)) [D.int IntKind.i64 (-1 : Int)] ++ [[D.int IntKind.i64 (Sta.x (rollK (Sta.mk i1_1 i2_1 (Die.mk i3_1 i4 i5 i6 i7 i8)) i1)), D.int IntKind.i64 (Sta.y (rollK (Sta.mk i1_1 i2_1 (Die.mk i3_1 i4 i5 i6 i7 i8)) i1)), D.int IntKind.i64 (Die.t (Sta.d (rollK (Sta.mk i1_1 i2_1 (Die.mk i3_1 i4 i5 i6 i7 i8)) i1))), D.int IntKind.i64 (Die.n (Sta.d (rollK (Sta.mk i1_1 i2_1 (Die.mk i3_1 i4 i5 i6 i7 i8)) i1))), D.int IntKind.i64 (Die.e (Sta.d (rollK (Sta.mk i1_1 i2_1 (Die.mk i3_1 i4 i5 i6 i7 i8)) i1))), D.int IntKind.i64 (Die.s (Sta.d (rollK (Sta.mk i1_1 i2_1 (Die.mk i3_1 i4 i5 i6 i7 i8)) i1))), D.int IntKind.i64 (Die.w (Sta.d (rollK (Sta.mk i1_1 i2_1 (Die.mk i3_1 i4 i5 i6 i7 i8)) i1))), D.int IntKind.i64 (Die.b (Sta.d (rollK (Sta.mk i1_1 i2_1 (Die.mk i3_1 i4 i5 i6 i7 i8)) i1))), D.int IntKind.i64 (IntKind.wrap IntKind.i64 (i11 + (1 : Int))), D.int IntKind.i64 (0 : Int), D.int IntKind.i64 i0, D.int IntKind.i64 i1, D.int IntKind.i64 (0 : Int), D.int IntKind.i64 (0 : Int), D.int IntKind.i64 (0 : Int), D.int IntKind.i64 (0 : Int)]])) : Int)) then Option.bind (Option.bind (some (cellD (setRow (16 : Nat) l5 (Int.toNat i0) ((12 : Nat) + Int.toNat i1 * (1 : Nat)) [D.int IntKind.i64 (-1 : Int)] ++ [[D.int IntKind.i64 (Sta.x (rollK (Sta.mk i1_1 i2_1 (Die.mk i3_1 i4 i5 i6 i7 i8)) i1)), D.int IntKind.i64 (Sta.y (rollK (Sta.mk i1_1 i2_1 (Die.mk i3_1 i4 i5 i6 i7 i8)) i1)), D.int IntKind.i64 (Die.t (Sta.d (rollK (Sta.mk i1_1 i2_1 (Die.mk i3_1 i4 i5 i6 i7 i8)) i1))), D.int IntKind.i64 (Die.n (Sta.d (rollK (Sta.mk i1_1 i2_1 (Die.mk i3_1 i4 i5 i6 i7 i8)) i1))), D.int IntKind.i64 (Die.e (Sta.d (rollK (Sta.mk i1_1 i2_1 (Die.mk i3_1 i4 i5 i6 i7 i8)) i1))), D.int IntKind.i64 (Die.s (Sta.d (rollK (Sta.mk i1_1 i2_1 (Die.mk i3_1 i4 i5 i6 i7 i8)) i1))), D.int IntKind.i64 (Die.w (Sta.d (rollK (Sta.mk i1_1 i2_1 (Die.mk i3_1 i4 i5 i6 i7 i8)) i1))), D.int IntKind.i64 (Die.b (Sta.d (rollK (Sta.mk i1_1 i2_1 (Die.mk i3_1 i4 i5 i6 i7 i8)) i1))), D.int IntKind.i64 (IntKind.wrap IntKind.i64 (i11 + (1 : Int))), D.int IntKind.i64 (0 : Int), D.int IntKind.i64 i0, D.int IntKind.i64 i1, D.int IntKind.i64 (0 : Int), D.int IntKind.i64 (0 : Int), D.int IntKind.i64 (0 : Int), D.int IntKind.i64 (0 : Int)]]) (Int.toNat (↑(List.length (setRow (16 : Nat) l5 (Int.toNat i0) ((12 : Nat) + Int.toNat i1 * (1 : Nat)) [D.int IntKind.i64 (-1 : Int)])) : Int)) (9 : Nat))) (D.int? IntKind.i64)) fun (i14 : Int) => bif decide ((0 : Int) ≤ i0) then bif decide (i0 < (↑(List.length (setRow (16 : Nat) l5 (Int.toNat i0) ((12 : Nat) + Int.toNat i1 * (1 : Nat)) [D.int IntKind.i64 (-1 : Int)] ++ [[D.int IntKind.i64 (Sta.x (rollK (Sta.mk i1_1 i2_1 (Die.mk i3_1 i4 i5 i6 i7 i8)) i1)), D.int IntKind.i64 (Sta.y (rollK (Sta.mk i1_1 i2_1 (Die.mk i3_1 i4 i5 i6 i7 i8)) i1)), D.int IntKind.i64 (Die.t (Sta.d (rollK (Sta.mk i1_1 i2_1 (Die.mk i3_1 i4 i5 i6 i7 i8)) i1))), D.int IntKind.i64 (Die.n (Sta.d (rollK (Sta.mk i1_1 i2_1 (Die.mk i3_1 i4 i5 i6 i7 i8)) i1))), D.int IntKind.i64 (Die.e (Sta.d (rollK (Sta.mk i1_1 i2_1 (Die.mk i3_1 i4 i5 i6 i7 i8)) i1))), D.int IntKind.i64 (Die.s (Sta.d (rollK (Sta.mk i1_1 i2_1 (Die.mk i3_1 i4 i5 i6 i7 i8)) i1))), D.int IntKind.i64 (Die.w (Sta.d (rollK (Sta.mk i1_1 i2_1 (Die.mk i3_1 i4 i5 i6 i7 i8)) i1))), D.int IntKind.i64 (Die.b (Sta.d (rollK (Sta.mk i1_1 i2_1 (Die.mk i3_1 i4 i5 i6 i7 i8)) i1))), D.int IntKind.i64 (IntKind.wrap IntKind.i64 (i11 + (1 : Int))), D.int IntKind.i64 (0 : Int), D.int IntKind.i64 i0, D.int IntKind.i64 i1, D.int IntKind.i64 (0 : Int), D.int IntKind.i64 (0 : Int), D.int IntKind.i64 (0 : Int), D.int IntKind.i64 (0 : Int)]])) : Int)) then Option.bind (Option.bind (some (cellD (setRow (16 : Nat) l5 (Int.toNat i0) ((12 : Nat) + Int.toNat i1 * (1 : Nat)) [D.int IntKind.i64 (-1 : Int)] ++ [[D.int IntKind.i64 (Sta.x (rollK (Sta.mk i1_1 i2_1 (Die.mk i3_1 i4 i5 i6 i7 i8)) i1)), D.int IntKind.i64 (Sta.y (rollK (Sta.mk i1_1 i2_1 (Die.mk i3_1 i4 i5 i6 i7 i8)) i1)), D.int IntKind.i64 (Die.t (Sta.d (rollK (Sta.mk i1_1 i2_1 (Die.mk i3_1 i4 i5 i6 i7 i8)) i1))), D.int IntKind.i64 (Die.n (Sta.d (rollK (Sta.mk i1_1 i2_1 (Die.mk i3_1 i4 i5 i6 i7 i8)) i1))), D.int IntKind.i64 (Die.e (Sta.d (rollK (Sta.mk i1_1 i2_1 (Die.mk i3_1 i4 i5 i6 i7 i8)) i1))), D.int IntKind.i64 (Die.s (Sta.d (rollK (Sta.mk i1_1 i2_1 (Die.mk i3_1 i4 i5 i6 i7 i8)) i1))), D.int IntKind.i64 (Die.w (Sta.d (rollK (Sta.mk i1_1 i2_1 (Die.mk i3_1 i4 i5 i6 i7 i8)) i1))), D.int IntKind.i64 (Die.b (Sta.d (rollK (Sta.mk i1_1 i2_1 (Die.mk i3_1 i4 i5 i6 i7 i8)) i1))), D.int IntKind.i64 (IntKind.wrap IntKind.i64 (i11 + (1 : Int))), D.int IntKind.i64 (0 : Int), D.int IntKind.i64 i0, D.int IntKind.i64 i1, D.int IntKind.i64 (0 : Int), D.int IntKind.i64 (0 : Int), D.int IntKind.i64 (0 : Int), D.int IntKind.i64 (0 : Int)]]) (Int.toNat i0) (9 : Nat))) (D.int? IntKind.i64)) fun (i15 : Int) => bif decide ((↑(List.length (setRow (16 : Nat) l5 (Int.toNat i0) ((12 : Nat) + Int.toNat i1 * (1 : Nat)) [D.int IntKind.i64 (-1 : Int)])) : Int) < (↑(List.length (setRow (16 : Nat) l5 (Int.toNat i0) ((12 : Nat) + Int.toNat i1 * (1 : Nat)) [D.int IntKind.i64 (-1 : Int)] ++ [[D.int IntKind.i64 (Sta.x (rollK (Sta.mk i1_1 i2_1 (Die.mk i3_1 i4 i5 i6 i7 i8)) i1)), D.int IntKind.i64 (Sta.y (rollK (Sta.mk i1_1 i2_1 (Die.mk i3_1 i4 i5 i6 i7 i8)) i1)), D.int IntKind.i64 (Die.t (Sta.d (rollK (Sta.mk i1_1 i2_1 (Die.mk i3_1 i4 i5 i6 i7 i8)) i1))), D.int IntKind.i64 (Die.n (Sta.d (rollK (Sta.mk i1_1 i2_1 (Die.mk i3_1 i4 i5 i6 i7 i8)) i1))), D.int IntKind.i64 (Die.e (Sta.d (rollK (Sta.mk i1_1 i2_1 (Die.mk i3_1 i4 i5 i6 i7 i8)) i1))), D.int IntKind.i64 (Die.s (Sta.d (rollK (Sta.mk i1_1 i2_1 (Die.mk i3_1 i4 i5 i6 i7 i8)) i1))), D.int IntKind.i64 (Die.w (Sta.d (rollK (Sta.mk i1_1 i2_1 (Die.mk i3_1 i4 i5 i6 i7 i8)) i1))), D.int IntKind.i64 (Die.b (Sta.d (rollK (Sta.mk i1_1 i2_1 (Die.mk i3_1 i4 i5 i6 i7 i8)) i1))), D.int IntKind.i64 (IntKind.wrap IntKind.i64 (i11 + (1 : Int))), D.int IntKind.i64 (0 : Int), D.int IntKind.i64 i0, D.int IntKind.i64 i1, D.int IntKind.i64 (0 : Int), D.int IntKind.i64 (0 : Int), D.int IntKind.i64 (0 : Int), D.int IntKind.i64 (0 : Int)]])) : Int)) then bif decide ((0 : Int) ≤ i0) then bif decide (i0 < (↑(List.length (setRow (16 : Nat) (setRow (16 : Nat) l5 (Int.toNat i0) ((12 : Nat) + Int.toNat i1 * (1 : Nat)) [D.int IntKind.i64 (-1 : Int)] ++ [[D.int IntKind.i64 (Sta.x (rollK (Sta.mk i1_1 i2_1 (Die.mk i3_1 i4 i5 i6 i7 i8)) i1)), D.int IntKind.i64 (Sta.y (rollK (Sta.mk i1_1 i2_1 (Die.mk i3_1 i4 i5 i6 i7 i8)) i1)), D.int IntKind.i64 (Die.t (Sta.d (rollK (Sta.mk i1_1 i2_1 (Die.mk i3_1 i4 i5 i6 i7 i8)) i1))), D.int IntKind.i64 (Die.n (Sta.d (rollK (Sta.mk i1_1 i2_1 (Die.mk i3_1 i4 i5 i6 i7 i8)) i1))), D.int IntKind.i64 (Die.e (Sta.d (rollK (Sta.mk i1_1 i2_1 (Die.mk i3_1 i4 i5 i6 i7 i8)) i1))), D.int IntKind.i64 (Die.s (Sta.d (rollK (Sta.mk i1_1 i2_1 (Die.mk i3_1 i4 i5 i6 i7 i8)) i1))), D.int IntKind.i64 (Die.w (Sta.d (rollK (Sta.mk i1_1 i2_1 (Die.mk i3_1 i4 i5 i6 i7 i8)) i1))), D.int IntKind.i64 (Die.b (Sta.d (rollK (Sta.mk i1_1 i2_1 (Die.mk i3_1 i4 i5 i6 i7 i8)) i1))), D.int IntKind.i64 (IntKind.wrap IntKind.i64 (i11 + (1 : Int))), D.int IntKind.i64 (0 : Int), D.int IntKind.i64 i0, D.int IntKind.i64 i1, D.int IntKind.i64 (0 : Int), D.int IntKind.i64 (0 : Int), D.int IntKind.i64 (0 : Int), D.int IntKind.i64 (0 : Int)]]) (Int.toNat (↑(List.length (setRow (16 : Nat) l5 (Int.toNat i0) ((12 : Nat) + Int.toNat i1 * (1 : Nat)) [D.int IntKind.i64 (-1 : Int)])) : Int)) (9 : Nat) [D.int IntKind.i64 (IntKind.wrap IntKind.i64 (i14 + i15))])) : Int)) then bif decide ((0 : Int) ≤ i1) then bif decide (i1 < (4 : Int)) then bif decide ((12 : Nat) + Int.toNat i1 * (1 : Nat) + (1 : Nat) ≤ (16 : Nat)) then spec_wyAll.l7 n m4 m7 i0 (IntKind.wrap IntKind.i64 (i1 + (1 : Int))) i2 i3 l4 (setRow (16 : Nat) (setRow (16 : Nat) (setRow (16 : Nat) l5 (Int.toNat i0) ((12 : Nat) + Int.toNat i1 * (1 : Nat)) [D.int IntKind.i64 (-1 : Int)] ++ [[D.int IntKind.i64 (Sta.x (rollK (Sta.mk i1_1 i2_1 (Die.mk i3_1 i4 i5 i6 i7 i8)) i1)), D.int IntKind.i64 (Sta.y (rollK (Sta.mk i1_1 i2_1 (Die.mk i3_1 i4 i5 i6 i7 i8)) i1)), D.int IntKind.i64 (Die.t (Sta.d (rollK (Sta.mk i1_1 i2_1 (Die.mk i3_1 i4 i5 i6 i7 i8)) i1))), D.int IntKind.i64 (Die.n (Sta.d (rollK (Sta.mk i1_1 i2_1 (Die.mk i3_1 i4 i5 i6 i7 i8)) i1))), D.int IntKind.i64 (Die.e (Sta.d (rollK (Sta.mk i1_1 i2_1 (Die.mk i3_1 i4 i5 i6 i7 i8)) i1))), D.int IntKind.i64 (Die.s (Sta.d (rollK (Sta.mk i1_1 i2_1 (Die.mk i3_1 i4 i5 i6 i7 i8)) i1))), D.int IntKind.i64 (Die.w (Sta.d (rollK (Sta.mk i1_1 i2_1 (Die.mk i3_1 i4 i5 i6 i7 i8)) i1))), D.int IntKind.i64 (Die.b (Sta.d (rollK (Sta.mk i1_1 i2_1 (Die.mk i3_1 i4 i5 i6 i7 i8)) i1))), D.int IntKind.i64 (IntKind.wrap IntKind.i64 (i11 + (1 : Int))), D.int IntKind.i64 (0 : Int), D.int IntKind.i64 i0, D.int IntKind.i64 i1, D.int IntKind.i64 (0 : Int), D.int IntKind.i64 (0 : Int), D.int IntKind.i64 (0 : Int), D.int IntKind.i64 (0 : Int)]]) (Int.toNat (↑(List.length (setRow (16 : Nat) l5 (Int.toNat i0) ((12 : Nat) + Int.toNat i1 * (1 : Nat)) [D.int IntKind.i64 (-1 : Int)])) : Int)) (9 : Nat) [D.int IntKind.i64 (IntKind.wrap IntKind.i64 (i14 + i15))]) (Int.toNat i0) ((12 : Nat) + Int.toNat i1 * (1 : Nat)) [D.int IntKind.i64 (↑(List.length (setRow (16 : Nat) l5 (Int.toNat i0) ((12 : Nat) + Int.toNat i1 * (1 : Nat)) [D.int IntKind.i64 (-1 : Int)])) : Int)]) (l6 ++ [[D.int IntKind.i64 (↑(codeN (Int.toNat i2) (Sta.mk (Sta.x (rollK (Sta.mk i1_1 i2_1 (Die.mk i3_1 i4 i5 i6 i7 i8)) i1)) (Sta.y (rollK (Sta.mk i1_1 i2_1 (Die.mk i3_1 i4 i5 i6 i7 i8)) i1)) (Die.mk (Die.t (Sta.d (rollK (Sta.mk i1_1 i2_1 (Die.mk i3_1 i4 i5 i6 i7 i8)) i1))) (Die.n (Sta.d (rollK (Sta.mk i1_1 i2_1 (Die.mk i3_1 i4 i5 i6 i7 i8)) i1))) (Die.e (Sta.d (rollK (Sta.mk i1_1 i2_1 (Die.mk i3_1 i4 i5 i6 i7 i8)) i1))) (Die.s (Sta.d (rollK (Sta.mk i1_1 i2_1 (Die.mk i3_1 i4 i5 i6 i7 i8)) i1))) (Die.w (Sta.d (rollK (Sta.mk i1_1 i2_1 (Die.mk i3_1 i4 i5 i6 i7 i8)) i1))) (Die.b (Sta.d (rollK (Sta.mk i1_1 i2_1 (Die.mk i3_1 i4 i5 i6 i7 i8)) i1)))))) : Int)]]) else none else none else none else none else none else none else none else none else none else bif decide ((0 : Int) ≤ i0) then bif decide (i0 < (↑(List.length (setRow (16 : Nat) l5 (Int.toNat i0) ((12 : Nat) + Int.toNat i1 * (1 : Nat)) [D.int IntKind.i64 (-1 : Int)] ++ [[D.int IntKind.i64 (Sta.x (rollK (Sta.mk i1_1 i2_1 (Die.mk i3_1 i4 i5 i6 i7 i8)) i1)), D.int IntKind.i64 (Sta.y (rollK (Sta.mk i1_1 i2_1 (Die.mk i3_1 i4 i5 i6 i7 i8)) i1)), D.int IntKind.i64 (Die.t (Sta.d (rollK (Sta.mk i1_1 i2_1 (Die.mk i3_1 i4 i5 i6 i7 i8)) i1))), D.int IntKind.i64 (Die.n (Sta.d (rollK (Sta.mk i1_1 i2_1 (Die.mk i3_1 i4 i5 i6 i7 i8)) i1))), D.int IntKind.i64 (Die.e (Sta.d (rollK (Sta.mk i1_1 i2_1 (Die.mk i3_1 i4 i5 i6 i7 i8)) i1))), D.int IntKind.i64 (Die.s (Sta.d (rollK (Sta.mk i1_1 i2_1 (Die.mk i3_1 i4 i5 i6 i7 i8)) i1))), D.int IntKind.i64 (Die.w (Sta.d (rollK (Sta.mk i1_1 i2_1 (Die.mk i3_1 i4 i5 i6 i7 i8)) i1))), D.int IntKind.i64 (Die.b (Sta.d (rollK (Sta.mk i1_1 i2_1 (Die.mk i3_1 i4 i5 i6 i7 i8)) i1))), D.int IntKind.i64 (IntKind.wrap IntKind.i64 (i11 + (1 : Int))), D.int IntKind.i64 (0 : Int), D.int IntKind.i64 i0, D.int IntKind.i64 i1, D.int IntKind.i64 (0 : Int), D.int IntKind.i64 (0 : Int), D.int IntKind.i64 (0 : Int), D.int IntKind.i64 (0 : Int)]])) : Int)) then bif decide ((0 : Int) ≤ i1) then bif decide (i1 < (4 : Int)) then bif decide ((12 : Nat) + Int.toNat i1 * (1 : Nat) + (1 : Nat) ≤ (16 : Nat)) then spec_wyAll.l7 n m4 m7 i0 (IntKind.wrap IntKind.i64 (i1 + (1 : Int))) i2 i3 l4 (setRow (16 : Nat) (setRow (16 : Nat) l5 (Int.toNat i0) ((12 : Nat) + Int.toNat i1 * (1 : Nat)) [D.int IntKind.i64 (-1 : Int)] ++ [[D.int IntKind.i64 (Sta.x (rollK (Sta.mk i1_1 i2_1 (Die.mk i3_1 i4 i5 i6 i7 i8)) i1)), D.int IntKind.i64 (Sta.y (rollK (Sta.mk i1_1 i2_1 (Die.mk i3_1 i4 i5 i6 i7 i8)) i1)), D.int IntKind.i64 (Die.t (Sta.d (rollK (Sta.mk i1_1 i2_1 (Die.mk i3_1 i4 i5 i6 i7 i8)) i1))), D.int IntKind.i64 (Die.n (Sta.d (rollK (Sta.mk i1_1 i2_1 (Die.mk i3_1 i4 i5 i6 i7 i8)) i1))), D.int IntKind.i64 (Die.e (Sta.d (rollK (Sta.mk i1_1 i2_1 (Die.mk i3_1 i4 i5 i6 i7 i8)) i1))), D.int IntKind.i64 (Die.s (Sta.d (rollK (Sta.mk i1_1 i2_1 (Die.mk i3_1 i4 i5 i6 i7 i8)) i1))), D.int IntKind.i64 (Die.w (Sta.d (rollK (Sta.mk i1_1 i2_1 (Die.mk i3_1 i4 i5 i6 i7 i8)) i1))), D.int IntKind.i64 (Die.b (Sta.d (rollK (Sta.mk i1_1 i2_1 (Die.mk i3_1 i4 i5 i6 i7 i8)) i1))), D.int IntKind.i64 (IntKind.wrap IntKind.i64 (i11 + (1 : Int))), D.int IntKind.i64 (0 : Int), D.int IntKind.i64 i0, D.int IntKind.i64 i1, D.int IntKind.i64 (0 : Int), D.int IntKind.i64 (0 : Int), D.int IntKind.i64 (0 : Int), D.int IntKind.i64 (0 : Int)]]) (Int.toNat i0) ((12 : Nat) + Int.toNat i1 * (1 : Nat)) [D.int IntKind.i64 (↑(List.length (setRow (16 : Nat) l5 (Int.toNat i0) ((12 : Nat) + Int.toNat i1 * (1 : Nat)) [D.int IntKind.i64 (-1 : Int)])) : Int)]) (l6 ++ [[D.int IntKind.i64 (↑(codeN (Int.toNat i2) (Sta.mk (Sta.x (rollK (Sta.mk i1_1 i2_1 (Die.mk i3_1 i4 i5 i6 i7 i8)) i1)) (Sta.y (rollK (Sta.mk i1_1 i2_1 (Die.mk i3_1 i4 i5 i6 i7 i8)) i1)) (Die.mk (Die.t (Sta.d (rollK (Sta.mk i1_1 i2_1 (Die.mk i3_1 i4 i5 i6 i7 i8)) i1))) (Die.n (Sta.d (rollK (Sta.mk i1_1 i2_1 (Die.mk i3_1 i4 i5 i6 i7 i8)) i1))) (Die.e (Sta.d (rollK (Sta.mk i1_1 i2_1 (Die.mk i3_1 i4 i5 i6 i7 i8)) i1))) (Die.s (Sta.d (rollK (Sta.mk i1_1 i2_1 (Die.mk i3_1 i4 i5 i6 i7 i8)) i1))) (Die.w (Sta.d (rollK (Sta.mk i1_1 i2_1 (Die.mk i3_1 i4 i5 i6 i7 i8)) i1))) (Die.b (Sta.d (rollK (Sta.mk i1_1 i2_1 (Die.mk i3_1 i4 i5 i6 i7 i8)) i1)))))) : Int)]]) else none else none else none else none else none else none else none else none else none else none else none else none else none else none else none else none else bif decide ((0 : Int) ≤ ixO (ixOf (↑(codeN (Int.toNat i2) (Sta.mk (Sta.x (rollK (Sta.mk i1_1 i2_1 (Die.mk i3_1 i4 i5 i6 i7 i8)) i1)) (Sta.y (rollK (Sta.mk i1_1 i2_1 (Die.mk i3_1 i4 i5 i6 i7 i8)) i1)) (Die.mk (Die.t (Sta.d (rollK (Sta.mk i1_1 i2_1 (Die.mk i3_1 i4 i5 i6 i7 i8)) i1))) (Die.n (Sta.d (rollK (Sta.mk i1_1 i2_1 (Die.mk i3_1 i4 i5 i6 i7 i8)) i1))) (Die.e (Sta.d (rollK (Sta.mk i1_1 i2_1 (Die.mk i3_1 i4 i5 i6 i7 i8)) i1))) (Die.s (Sta.d (rollK (Sta.mk i1_1 i2_1 (Die.mk i3_1 i4 i5 i6 i7 i8)) i1))) (Die.w (Sta.d (rollK (Sta.mk i1_1 i2_1 (Die.mk i3_1 i4 i5 i6 i7 i8)) i1))) (Die.b (Sta.d (rollK (Sta.mk i1_1 i2_1 (Die.mk i3_1 i4 i5 i6 i7 i8)) i1)))))) : Int) l10)) then bif decide (ixO (ixOf (↑(codeN (Int.toNat i2) (Sta.mk (Sta.x (rollK (Sta.mk i1_1 i2_1 (Die.mk i3_1 i4 i5 i6 i7 i8)) i1)) (Sta.y (rollK (Sta.mk i1_1 i2_1 (Die.mk i3_1 i4 i5 i6 i7 i8)) i1)) (Die.mk (Die.t (Sta.d (rollK (Sta.mk i1_1 i2_1 (Die.mk i3_1 i4 i5 i6 i7 i8)) i1))) (Die.n (Sta.d (rollK (Sta.mk i1_1 i2_1 (Die.mk i3_1 i4 i5 i6 i7 i8)) i1))) (Die.e (Sta.d (rollK (Sta.mk i1_1 i2_1 (Die.mk i3_1 i4 i5 i6 i7 i8)) i1))) (Die.s (Sta.d (rollK (Sta.mk i1_1 i2_1 (Die.mk i3_1 i4 i5 i6 i7 i8)) i1))) (Die.w (Sta.d (rollK (Sta.mk i1_1 i2_1 (Die.mk i3_1 i4 i5 i6 i7 i8)) i1))) (Die.b (Sta.d (rollK (Sta.mk i1_1 i2_1 (Die.mk i3_1 i4 i5 i6 i7 i8)) i1)))))) : Int) l10) < (↑(List.length (setRow (16 : Nat) l5 (Int.toNat i0) ((12 : Nat) + Int.toNat i1 * (1 : Nat)) [D.int IntKind.i64 (-1 : Int)])) : Int)) then Option.bind (Option.bind (some (cellD (setRow (16 : Nat) l5 (Int.toNat i0) ((12 : Nat) + Int.toNat i1 * (1 : Nat)) [D.int IntKind.i64 (-1 : Int)]) (Int.toNat (ixO (ixOf (↑(codeN (Int.toNat i2) (Sta.mk (Sta.x (rollK (Sta.mk i1_1 i2_1 (Die.mk i3_1 i4 i5 i6 i7 i8)) i1)) (Sta.y (rollK (Sta.mk i1_1 i2_1 (Die.mk i3_1 i4 i5 i6 i7 i8)) i1)) (Die.mk (Die.t (Sta.d (rollK (Sta.mk i1_1 i2_1 (Die.mk i3_1 i4 i5 i6 i7 i8)) i1))) (Die.n (Sta.d (rollK (Sta.mk i1_1 i2_1 (Die.mk i3_1 i4 i5 i6 i7 i8)) i1))) (Die.e (Sta.d (rollK (Sta.mk i1_1 i2_1 (Die.mk i3_1 i4 i5 i6 i7 i8)) i1))) (Die.s (Sta.d (rollK (Sta.mk i1_1 i2_1 (Die.mk i3_1 i4 i5 i6 i7 i8)) i1))) (Die.w (Sta.d (rollK (Sta.mk i1_1 i2_1 (Die.mk i3_1 i4 i5 i6 i7 i8)) i1))) (Die.b (Sta.d (rollK (Sta.mk i1_1 i2_1 (Die.mk i3_1 i4 i5 i6 i7 i8)) i1)))))) : Int) l10))) (8 : Nat))) (D.int? IntKind.i64)) fun (i16 : Int) => bif decide ((0 : Int) ≤ i0) then bif decide (i0 < (↑(List.length (setRow (16 : Nat) l5 (Int.toNat i0) ((12 : Nat) + Int.toNat i1 * (1 : Nat)) [D.int IntKind.i64 (-1 : Int)])) : Int)) then Option.bind (Option.bind (some (cellD (setRow (16 : Nat) l5 (Int.toNat i0) ((12 : Nat) + Int.toNat i1 * (1 : Nat)) [D.int IntKind.i64 (-1 : Int)]) (Int.toNat i0) (8 : Nat))) (D.int? IntKind.i64)) fun (i17 : Int) => bif i16 == IntKind.wrap IntKind.i64 (i17 + (1 : Int)) then bif decide ((0 : Int) ≤ ixO (ixOf (↑(codeN (Int.toNat i2) (Sta.mk (Sta.x (rollK (Sta.mk i1_1 i2_1 (Die.mk i3_1 i4 i5 i6 i7 i8)) i1)) (Sta.y (rollK (Sta.mk i1_1 i2_1 (Die.mk i3_1 i4 i5 i6 i7 i8)) i1)) (Die.mk (Die.t (Sta.d (rollK (Sta.mk i1_1 i2_1 (Die.mk i3_1 i4 i5 i6 i7 i8)) i1))) (Die.n (Sta.d (rollK (Sta.mk i1_1 i2_1 (Die.mk i3_1 i4 i5 i6 i7 i8)) i1))) (Die.e (Sta.d (rollK (Sta.mk i1_1 i2_1 (Die.mk i3_1 i4 i5 i6 i7 i8)) i1))) (Die.s (Sta.d (rollK (Sta.mk i1_1 i2_1 (Die.mk i3_1 i4 i5 i6 i7 i8)) i1))) (Die.w (Sta.d (rollK (Sta.mk i1_1 i2_1 (Die.mk i3_1 i4 i5 i6 i7 i8)) i1))) (Die.b (Sta.d (rollK (Sta.mk i1_1 i2_1 (Die.mk i3_1 i4 i5 i6 i7 i8)) i1)))))) : Int) l10)) then bif decide (ixO (ixOf (↑(codeN (Int.toNat i2) (Sta.mk (Sta.x (rollK (Sta.mk i1_1 i2_1 (Die.mk i3_1 i4 i5 i6 i7 i8)) i1)) (Sta.y (rollK (Sta.mk i1_1 i2_1 (Die.mk i3_1 i4 i5 i6 i7 i8)) i1)) (Die.mk (Die.t (Sta.d (rollK (Sta.mk i1_1 i2_1 (Die.mk i3_1 i4 i5 i6 i7 i8)) i1))) (Die.n (Sta.d (rollK (Sta.mk i1_1 i2_1 (Die.mk i3_1 i4 i5 i6 i7 i8)) i1))) (Die.e (Sta.d (rollK (Sta.mk i1_1 i2_1 (Die.mk i3_1 i4 i5 i6 i7 i8)) i1))) (Die.s (Sta.d (rollK (Sta.mk i1_1 i2_1 (Die.mk i3_1 i4 i5 i6 i7 i8)) i1))) (Die.w (Sta.d (rollK (Sta.mk i1_1 i2_1 (Die.mk i3_1 i4 i5 i6 i7 i8)) i1))) (Die.b (Sta.d (rollK (Sta.mk i1_1 i2_1 (Die.mk i3_1 i4 i5 i6 i7 i8)) i1)))))) : Int) l10) < (↑(List.length (setRow (16 : Nat) l5 (Int.toNat i0) ((12 : Nat) + Int.toNat i1 * (1 : Nat)) [D.int IntKind.i64 (-1 : Int)])) : Int)) then Option.bind (Option.bind (some (cellD (setRow (16 : Nat) l5 (Int.toNat i0) ((12 : Nat) + Int.toNat i1 * (1 : Nat)) [D.int IntKind.i64 (-1 : Int)]) (Int.toNat (ixO (ixOf (↑(codeN (Int.toNat i2) (Sta.mk (Sta.x (rollK (Sta.mk i1_1 i2_1 (Die.mk i3_1 i4 i5 i6 i7 i8)) i1)) (Sta.y (rollK (Sta.mk i1_1 i2_1 (Die.mk i3_1 i4 i5 i6 i7 i8)) i1)) (Die.mk (Die.t (Sta.d (rollK (Sta.mk i1_1 i2_1 (Die.mk i3_1 i4 i5 i6 i7 i8)) i1))) (Die.n (Sta.d (rollK (Sta.mk i1_1 i2_1 (Die.mk i3_1 i4 i5 i6 i7 i8)) i1))) (Die.e (Sta.d (rollK (Sta.mk i1_1 i2_1 (Die.mk i3_1 i4 i5 i6 i7 i8)) i1))) (Die.s (Sta.d (rollK (Sta.mk i1_1 i2_1 (Die.mk i3_1 i4 i5 i6 i7 i8)) i1))) (Die.w (Sta.d (rollK (Sta.mk i1_1 i2_1 (Die.mk i3_1 i4 i5 i6 i7 i8)) i1))) (Die.b (Sta.d (rollK (Sta.mk i1_1 i2_1 (Die.mk i3_1 i4 i5 i6 i7 i8)) i1)))))) : Int) l10))) (9 : Nat))) (D.int? IntKind.i64)) fun (i18 : Int) => bif decide ((0 : Int) ≤ i0) then bif decide (i0 < (↑(List.length (setRow (16 : Nat) l5 (Int.toNat i0) ((12 : Nat) + Int.toNat i1 * (1 : Nat)) [D.int IntKind.i64 (-1 : Int)])) : Int)) then Option.bind (Option.bind (some (cellD (setRow (16 : Nat) l5 (Int.toNat i0) ((12 : Nat) + Int.toNat i1 * (1 : Nat)) [D.int IntKind.i64 (-1 : Int)]) (Int.toNat i0) (9 : Nat))) (D.int? IntKind.i64)) fun (i19 : Int) => bif decide ((0 : Int) ≤ ixO (ixOf (↑(codeN (Int.toNat i2) (Sta.mk (Sta.x (rollK (Sta.mk i1_1 i2_1 (Die.mk i3_1 i4 i5 i6 i7 i8)) i1)) (Sta.y (rollK (Sta.mk i1_1 i2_1 (Die.mk i3_1 i4 i5 i6 i7 i8)) i1)) (Die.mk (Die.t (Sta.d (rollK (Sta.mk i1_1 i2_1 (Die.mk i3_1 i4 i5 i6 i7 i8)) i1))) (Die.n (Sta.d (rollK (Sta.mk i1_1 i2_1 (Die.mk i3_1 i4 i5 i6 i7 i8)) i1))) (Die.e (Sta.d (rollK (Sta.mk i1_1 i2_1 (Die.mk i3_1 i4 i5 i6 i7 i8)) i1))) (Die.s (Sta.d (rollK (Sta.mk i1_1 i2_1 (Die.mk i3_1 i4 i5 i6 i7 i8)) i1))) (Die.w (Sta.d (rollK (Sta.mk i1_1 i2_1 (Die.mk i3_1 i4 i5 i6 i7 i8)) i1))) (Die.b (Sta.d (rollK (Sta.mk i1_1 i2_1 (Die.mk i3_1 i4 i5 i6 i7 i8)) i1)))))) : Int) l10)) then bif decide (ixO (ixOf (↑(codeN (Int.toNat i2) (Sta.mk (Sta.x (rollK (Sta.mk i1_1 i2_1 (Die.mk i3_1 i4 i5 i6 i7 i8)) i1)) (Sta.y (rollK (Sta.mk i1_1 i2_1 (Die.mk i3_1 i4 i5 i6 i7 i8)) i1)) (Die.mk (Die.t (Sta.d (rollK (Sta.mk i1_1 i2_1 (Die.mk i3_1 i4 i5 i6 i7 i8)) i1))) (Die.n (Sta.d (rollK (Sta.mk i1_1 i2_1 (Die.mk i3_1 i4 i5 i6 i7 i8)) i1))) (Die.e (Sta.d (rollK (Sta.mk i1_1 i2_1 (Die.mk i3_1 i4 i5 i6 i7 i8)) i1))) (Die.s (Sta.d (rollK (Sta.mk i1_1 i2_1 (Die.mk i3_1 i4 i5 i6 i7 i8)) i1))) (Die.w (Sta.d (rollK (Sta.mk i1_1 i2_1 (Die.mk i3_1 i4 i5 i6 i7 i8)) i1))) (Die.b (Sta.d (rollK (Sta.mk i1_1 i2_1 (Die.mk i3_1 i4 i5 i6 i7 i8)) i1)))))) : Int) l10) < (↑(List.length (setRow (16 : Nat) l5 (Int.toNat i0) ((12 : Nat) + Int.toNat i1 * (1 : Nat)) [D.int IntKind.i64 (-1 : Int)])) : Int)) then bif decide ((0 : Int) ≤ i0) then bif decide (i0 < (↑(List.length (setRow (16 : Nat) (setRow (16 : Nat) l5 (Int.toNat i0) ((12 : Nat) + Int.toNat i1 * (1 : Nat)) [D.int IntKind.i64 (-1 : Int)]) (Int.toNat (ixO (ixOf (↑(codeN (Int.toNat i2) (Sta.mk (Sta.x (rollK (Sta.mk i1_1 i2_1 (Die.mk i3_1 i4 i5 i6 i7 i8)) i1)) (Sta.y (rollK (Sta.mk i1_1 i2_1 (Die.mk i3_1 i4 i5 i6 i7 i8)) i1)) (Die.mk (Die.t (Sta.d (rollK (Sta.mk i1_1 i2_1 (Die.mk i3_1 i4 i5 i6 i7 i8)) i1))) (Die.n (Sta.d (rollK (Sta.mk i1_1 i2_1 (Die.mk i3_1 i4 i5 i6 i7 i8)) i1))) (Die.e (Sta.d (rollK (Sta.mk i1_1 i2_1 (Die.mk i3_1 i4 i5 i6 i7 i8)) i1))) (Die.s (Sta.d (rollK (Sta.mk i1_1 i2_1 (Die.mk i3_1 i4 i5 i6 i7 i8)) i1))) (Die.w (Sta.d (rollK (Sta.mk i1_1 i2_1 (Die.mk i3_1 i4 i5 i6 i7 i8)) i1))) (Die.b (Sta.d (rollK (Sta.mk i1_1 i2_1 (Die.mk i3_1 i4 i5 i6 i7 i8)) i1)))))) : Int) l10))) (9 : Nat) [D.int IntKind.i64 (IntKind.wrap IntKind.i64 (i18 + i19))])) : Int)) then bif decide ((0 : Int) ≤ i1) then bif decide (i1 < (4 : Int)) then bif decide ((12 : Nat) + Int.toNat i1 * (1 : Nat) + (1 : Nat) ≤ (16 : Nat)) then spec_wyAll.l7 n m4 m7 i0 (IntKind.wrap IntKind.i64 (i1 + (1 : Int))) i2 i3 l4 (setRow (16 : Nat) (setRow (16 : Nat) (setRow (16 : Nat) l5 (Int.toNat i0) ((12 : Nat) + Int.toNat i1 * (1 : Nat)) [D.int IntKind.i64 (-1 : Int)]) (Int.toNat (ixO (ixOf (↑(codeN (Int.toNat i2) (Sta.mk (Sta.x (rollK (Sta.mk i1_1 i2_1 (Die.mk i3_1 i4 i5 i6 i7 i8)) i1)) (Sta.y (rollK (Sta.mk i1_1 i2_1 (Die.mk i3_1 i4 i5 i6 i7 i8)) i1)) (Die.mk (Die.t (Sta.d (rollK (Sta.mk i1_1 i2_1 (Die.mk i3_1 i4 i5 i6 i7 i8)) i1))) (Die.n (Sta.d (rollK (Sta.mk i1_1 i2_1 (Die.mk i3_1 i4 i5 i6 i7 i8)) i1))) (Die.e (Sta.d (rollK (Sta.mk i1_1 i2_1 (Die.mk i3_1 i4 i5 i6 i7 i8)) i1))) (Die.s (Sta.d (rollK (Sta.mk i1_1 i2_1 (Die.mk i3_1 i4 i5 i6 i7 i8)) i1))) (Die.w (Sta.d (rollK (Sta.mk i1_1 i2_1 (Die.mk i3_1 i4 i5 i6 i7 i8)) i1))) (Die.b (Sta.d (rollK (Sta.mk i1_1 i2_1 (Die.mk i3_1 i4 i5 i6 i7 i8)) i1)))))) : Int) l10))) (9 : Nat) [D.int IntKind.i64 (IntKind.wrap IntKind.i64 (i18 + i19))]) (Int.toNat i0) ((12 : Nat) + Int.toNat i1 * (1 : Nat)) [D.int IntKind.i64 (ixO (ixOf (↑(codeN (Int.toNat i2) (Sta.mk (Sta.x (rollK (Sta.mk i1_1 i2_1 (Die.mk i3_1 i4 i5 i6 i7 i8)) i1)) (Sta.y (rollK (Sta.mk i1_1 i2_1 (Die.mk i3_1 i4 i5 i6 i7 i8)) i1)) (Die.mk (Die.t (Sta.d (rollK (Sta.mk i1_1 i2_1 (Die.mk i3_1 i4 i5 i6 i7 i8)) i1))) (Die.n (Sta.d (rollK (Sta.mk i1_1 i2_1 (Die.mk i3_1 i4 i5 i6 i7 i8)) i1))) (Die.e (Sta.d (rollK (Sta.mk i1_1 i2_1 (Die.mk i3_1 i4 i5 i6 i7 i8)) i1))) (Die.s (Sta.d (rollK (Sta.mk i1_1 i2_1 (Die.mk i3_1 i4 i5 i6 i7 i8)) i1))) (Die.w (Sta.d (rollK (Sta.mk i1_1 i2_1 (Die.mk i3_1 i4 i5 i6 i7 i8)) i1))) (Die.b (Sta.d (rollK (Sta.mk i1_1 i2_1 (Die.mk i3_1 i4 i5 i6 i7 i8)) i1)))))) : Int) l10))]) l6 else none else none else none else none else none else none else none else none else none else none else none else bif decide ((0 : Int) ≤ i0) then bif decide (i0 < (↑(List.length (setRow (16 : Nat) l5 (Int.toNat i0) ((12 : Nat) + Int.toNat i1 * (1 : Nat)) [D.int IntKind.i64 (-1 : Int)])) : Int)) then bif decide ((0 : Int) ≤ i1) then bif decide (i1 < (4 : Int)) then bif decide ((12 : Nat) + Int.toNat i1 * (1 : Nat) + (1 : Nat) ≤ (16 : Nat)) then spec_wyAll.l7 n m4 m7 i0 (IntKind.wrap IntKind.i64 (i1 + (1 : Int))) i2 i3 l4 (setRow (16 : Nat) (setRow (16 : Nat) l5 (Int.toNat i0) ((12 : Nat) + Int.toNat i1 * (1 : Nat)) [D.int IntKind.i64 (-1 : Int)]) (Int.toNat i0) ((12 : Nat) + Int.toNat i1 * (1 : Nat)) [D.int IntKind.i64 (ixO (ixOf (↑(codeN (Int.toNat i2) (Sta.mk (Sta.x (rollK (Sta.mk i1_1 i2_1 (Die.mk i3_1 i4 i5 i6 i7 i8)) i1)) (Sta.y (rollK (Sta.mk i1_1 i2_1 (Die.mk i3_1 i4 i5 i6 i7 i8)) i1)) (Die.mk (Die.t (Sta.d (rollK (Sta.mk i1_1 i2_1 (Die.mk i3_1 i4 i5 i6 i7 i8)) i1))) (Die.n (Sta.d (rollK (Sta.mk i1_1 i2_1 (Die.mk i3_1 i4 i5 i6 i7 i8)) i1))) (Die.e (Sta.d (rollK (Sta.mk i1_1 i2_1 (Die.mk i3_1 i4 i5 i6 i7 i8)) i1))) (Die.s (Sta.d (rollK (Sta.mk i1_1 i2_1 (Die.mk i3_1 i4 i5 i6 i7 i8)) i1))) (Die.w (Sta.d (rollK (Sta.mk i1_1 i2_1 (Die.mk i3_1 i4 i5 i6 i7 i8)) i1))) (Die.b (Sta.d (rollK (Sta.mk i1_1 i2_1 (Die.mk i3_1 i4 i5 i6 i7 i8)) i1)))))) : Int) l10))]) l6 else none else none else none else none else none else none else none else none else none else none else none else none else none else spec_wyAll.l7 n m4 m7 i0 (IntKind.wrap IntKind.i64 (i1 + (1 : Int))) i2 i3 l4 (setRow (16 : Nat) l5 (Int.toNat i0) ((12 : Nat) + Int.toNat i1 * (1 : Nat)) [D.int IntKind.i64 (-1 : Int)]) l6 else none else none else none else none else none else none else none else none else none else none else none else none else spec_wyAll.l4 n m4 (IntKind.wrap IntKind.i64 (i0 + (1 : Int))) i2 i3 l4 l5 l6 := by kernel_rfl
noncomputable def spec_wyAll.res (n : Nat) (a0_0 : Int) (a0_1 : Int) (a0_2 : List (List D)) (a1_0 : Int) (a1_1 : Int) (a1_2 : Int) (a1_3 : Int) (a1_4 : Int) (a1_5 : Int) (a1_6 : Int) (a1_7 : Int) : Option (List Q) :=
  bif inR a0_0 (0 : Int) (7 : Int) then bif inR a1_0 (0 : Int) (6 : Int) then bif inR a1_1 (0 : Int) (6 : Int) then bif Die.good (Die.mk a1_2 a1_3 a1_4 a1_5 a1_6 a1_7) then spec_wyAll.l4 n n (0 : Int) a0_0 a0_1 a0_2 [[D.int IntKind.i64 a1_0, D.int IntKind.i64 a1_1, D.int IntKind.i64 a1_2, D.int IntKind.i64 a1_3, D.int IntKind.i64 a1_4, D.int IntKind.i64 a1_5, D.int IntKind.i64 a1_6, D.int IntKind.i64 a1_7, D.int IntKind.i64 (0 : Int), D.int IntKind.i64 (1 : Int), D.int IntKind.i64 (-1 : Int), D.int IntKind.i64 (0 : Int), D.int IntKind.i64 (0 : Int), D.int IntKind.i64 (0 : Int), D.int IntKind.i64 (0 : Int), D.int IntKind.i64 (0 : Int)]] [[D.int IntKind.i64 (↑(codeN (Int.toNat a0_0) (Sta.mk a1_0 a1_1 (Die.mk a1_2 a1_3 a1_4 a1_5 a1_6 a1_7))) : Int)]] else none else none else none else none
theorem spec_wyAll.run (n : Nat) (a0_0 : Int) (a0_1 : Int) (a0_2 : List (List D)) (a1_0 : Int) (a1_1 : Int) (a1_2 : Int) (a1_3 : Int) (a1_4 : Int) (a1_5 : Int) (a1_6 : Int) (a1_7 : Int) :
    run1 spec_wyAll.cfg [RK.own (16 : Nat)] n Tryd.f71 [Q.agg [D.int IntKind.i64 a0_0, D.int IntKind.i64 a0_1, D.sl (1 : Nat) a0_2], Q.agg [D.int IntKind.i64 a1_0, D.int IntKind.i64 a1_1, D.int IntKind.i64 a1_2, D.int IntKind.i64 a1_3, D.int IntKind.i64 a1_4, D.int IntKind.i64 a1_5, D.int IntKind.i64 a1_6, D.int IntKind.i64 a1_7]] = spec_wyAll.res n a0_0 a0_1 a0_2 a1_0 a1_1 a1_2 a1_3 a1_4 a1_5 a1_6 a1_7 := by kernel_rfl
theorem spec_wyAll.ev {n : Nat} {a0_0 : Int} {a0_1 : Int} {a0_2 : List (List D)} {a1_0 : Int} {a1_1 : Int} {a1_2 : Int} {a1_3 : Int} {a1_4 : Int} {a1_5 : Int} {a1_6 : Int} {a1_7 : Int} {r : List Q} (h : spec_wyAll.res n a0_0 a0_1 a0_2 a1_0 a1_1 a1_2 a1_3 a1_4 a1_5 a1_6 a1_7 = some r) : Snd Tryd.prog C0 71 [.agg [.int .i64 a0_0, .int .i64 a0_1, .sl 1 a0_2], .agg [.int .i64 a1_0, .int .i64 a1_1, .int .i64 a1_2, .int .i64 a1_3, .int .i64 a1_4, .int .i64 a1_5, .int .i64 a1_6, .int .i64 a1_7]] r :=
  snd_ev (C := spec_wyAll.cfg) cfg0 mix rfl rfl rfl rfl rfl (.cons spec_boRoll_i.ok (.cons spec_wyCode.ok (.cons spec_wyPlace.ok .nil))) .nil rfl Tryd.func71 (by kernel_rfl) (by kernel_rfl) rfl ((spec_wyAll.run n a0_0 a0_1 a0_2 a1_0 a1_1 a1_2 a1_3 a1_4 a1_5 a1_6 a1_7).trans h)

theorem flC_gd {w h : Nat} {cs : List UInt8} : ∀ x y, flC (w : Int) (h : Int) cs x y = true → 0 ≤ x ∧ x < (w : Int) ∧ 0 ≤ y ∧ y < (h : Int) := by
  intro x y hp
  unfold flC at hp
  rw [Bool.and_eq_true, Bool.and_eq_true] at hp
  obtain ⟨⟨h1, h2⟩, _⟩ := hp
  have := inR_out h1
  have := inR_out h2
  omega
theorem codes_snoc (w : Nat) (l : List Sta) (t : Sta) : intC.encs (codes w l) ++ [[D.int .i64 ((codeN w t : Nat) : Int)]] = intC.encs (codes w (l ++ [t])) := by
  rw [intC_snoc]; simp [codes]
theorem inr_nat {w : Nat} (h : w ≤ 7) : inR (w : Int) 0 7 = true := by
  unfold inR
  rw [Bool.and_eq_true, decide_eq_true_eq, decide_eq_true_eq]; omega
theorem inr6 {x : Int} {w : Nat} (h0 : 0 ≤ x) (h1 : x < (w : Int)) (hw : w ≤ 7) : inR x 0 6 = true := by
  unfold inR
  rw [Bool.and_eq_true, decide_eq_true_eq, decide_eq_true_eq]; omega
section
variable {w h : Nat} {cs : List UInt8}
theorem spec_wyAll.l7_run {n m4 : Nat} (hw : w ≤ 7) (hh : h ≤ 7) (hc : cs.length = w * h) (hcd : u8C.decs (u8C.encs cs) = some cs) :
    ∀ (d dir m k : Nat) (N : List Nd), dir + d = 4 → d < m → k < N.length → CInv w h (N.map Nd.core) → COrd k (N.map Nd.core) →
    spec_wyAll.l7 n m4 m (k : Int) (dir : Int) (w : Int) (h : Int) (u8C.encs cs) (ndC.encs N) (intC.encs (codes w (N.map Nd.u))) = spec_wyAll.l4 n m4 ((k + 1 : Nat) : Int) (w : Int) (h : Int) (u8C.encs cs) (ndC.encs (visF (flC w h cs) k d dir N)) (intC.encs (codes w ((visF (flC w h cs) k d dir N).map Nd.u))) := by
  intro d
  induction d with
  | zero =>
    intro dir m k N hi hm hk hv ho
    obtain ⟨m, rfl⟩ : ∃ m', m = m' + 1 := ⟨m - 1, by omega⟩
    have h1 : ¬ (dir : Int) < 4 := by omega
    have hlen := cinv_big hw hh hv
    rw [List.length_map] at hlen
    rw [spec_wyAll.l7_eq]
    simp only [h1, decide_false, cond_false, wrap_succ (show k ≤ LIM by unfold LIM; unfold BIG at hlen; omega)]
    rfl
  | succ d ih =>
    intro dir m k N hi hm hk hv ho
    obtain ⟨m, rfl⟩ : ∃ m', m = m' + 1 := ⟨m - 1, by omega⟩
    have hd : dir < 4 := by omega
    have h1 : (dir : Int) < 4 := by omega
    have hlen := cinv_big hw hh hv
    rw [List.length_map] at hlen
    unfold BIG at hlen
    have hki : (k : Int) < ((N.length : Nat) : Int) := by omega
    have h12 : 12 + dir + 1 ≤ 16 := by omega
    obtain ⟨N0, hN0⟩ : ∃ N0, N0 = N.set k (N[k].nx (dir : Int) (-1)) := ⟨_, rfl⟩
    have e0 : setRow 16 (ndC.encs N) k (12 + dir) [D.int .i64 (-1)] = ndC.encs N0 := by rw [ndC_nx hk hd, hN0]
    have hl0 : N0.length = N.length := by rw [hN0, List.length_set]
    have hk0 : k < N0.length := by omega
    have hki0 : (k : Int) < ((N0.length : Nat) : Int) := by omega
    have hu0 : N0.map Nd.u = N.map Nd.u := by rw [hN0]; exact map_set_u hk (Nd.nx_u ..)
    have hcore0 : N0.map Nd.core = N.map Nd.core := by rw [hN0]; exact set_core (List.getElem?_eq_getElem hk) (core_nx ..)
    obtain ⟨c0, c1, c2, c3, c4, c5, c6, c7⟩ := nd_cells hk0
    obtain ⟨c8, c9, c10, c11⟩ := nd_cells2 hk0
    have hgd : Gds w h N0[k].u := by
      have := hv.gd N0[k].core (by rw [← hcore0]; exact List.mem_map_of_mem (List.getElem_mem hk0))
      exact this
    have hfar := far_le ho (k + 1) k N0[k].core (by omega) (by rw [← hcore0, List.getElem?_map, List.getElem?_eq_getElem hk0]; rfl)
    have hfar : 0 ≤ N0[k].far ∧ N0[k].far ≤ (k : Int) := hfar
    have hwf : IntKind.wrap .i64 (N0[k].far + 1) = N0[k].far + 1 := wrap_in (by omega) (by omega)
    have gx : inR N0[k].u.x 0 6 = true := inr6 hgd.x0 hgd.x1 hw
    have gy : inR N0[k].u.y 0 6 = true := inr6 hgd.y0 hgd.y1 hh
    have hcd2 : intC.decs (intC.encs (codes w (N.map Nd.u))) = some (codes w (N.map Nd.u)) := Cod.decs_encs (by unfold codes LIM; rw [List.length_map, List.length_map]; omega)
    have hlc : (codes w (N.map Nd.u)).length + 1 ≤ 17179869184 := by unfold codes; rw [List.length_map, List.length_map]; omega
    have hl1 : N0.length + 1 ≤ 17179869184 := by omega
    have hgw := inr_nat hw
    have hgh := inr_nat hh
    have hro : rollO ⟨N0[k].u.x, N0[k].u.y, ⟨N0[k].u.d.t, N0[k].u.d.n, N0[k].u.d.e, N0[k].u.d.s, N0[k].u.d.w, N0[k].u.d.b⟩⟩ (dir : Int) = some (rollK N0[k].u (dir : Int)) := rfl
    obtain ⟨t, ht⟩ : ∃ t, t = rollK N0[k].u (dir : Int) := ⟨_, rfl⟩
    have hnv := hv.visit flC_gd k (dir : Int) (p := flC (w : Int) (h : Int) cs)
    have hno := (ho.visit (p := flC (w : Int) (h : Int) cs) (dir := (dir : Int)) (by omega)).1
    rw [← visit_core] at hnv hno
    have hnl := visit_len (flC (w : Int) (h : Int) cs) k (dir : Int) N
    have step := ih (dir + 1) m k (visit (flC w h cs) k (dir : Int) N) (by omega) (by omega) (by omega) hnv hno
    rw [show visF (flC w h cs) k (d + 1) dir N = visF (flC w h cs) k d (dir + 1) (visit (flC w h cs) k (dir : Int) N) from rfl]
    refine Eq.trans ?_ step
    rw [spec_wyAll.l7_eq]
    simp only [h1, hki, hki0, h12, e0, Cod.encs_len, Int.natCast_nonneg, Int.toNat_natCast, Nat.mul_one, decide_true, cond_true, c0, c1, c2, c3, c4, c5, c6, c7, c8, Option.bind_some, hcd, hgw, hgh, hc, gx, gy, hro, ← ht, hwf, hl1, hlc, wrap_succ (show dir ≤ LIM by unfold LIM; omega), Die.eta]
    cases hp : flC (w : Int) (h : Int) cs t.x t.y with
    | false =>
      rw [ht] at hp
      simp only [cond_false]
      rw [visit_out hk hN0 hk0 hp, hu0]
    | true =>
      obtain ⟨x0, x1, y0, y1⟩ := flC_gd _ _ hp
      have tx : inR t.x 0 6 = true := inr6 x0 x1 hw
      have ty : inR t.y 0 6 = true := inr6 y0 y1 hh
      have tg : t.d.good = true := by rw [ht]; exact good_roll hgd.g _
      have tgd : Gds w h t := ⟨x0, x1, y0, y1, tg⟩
      have hix : ixOf (codeN w t : Nat) (codes w (N.map Nd.u)) = posOf t (N0.map Nd.u) := by
        rw [hu0]
        exact ixOf_codes tgd (fun u hu => by
          obtain ⟨a, ha, rfl⟩ := List.mem_map.1 hu
          exact hv.gd a.core (List.mem_map_of_mem ha))
      rw [ht] at hp
      simp only [cond_true, tx, ty, show Die.good ⟨t.d.t, t.d.n, t.d.e, t.d.s, t.d.w, t.d.b⟩ = true from tg, hcd2, Option.bind_some, hix]
      cases hpos : posOf t (N0.map Nd.u) with
      | some j =>
        obtain ⟨hj, _⟩ := posOf_some hpos
        rw [List.length_map] at hj
        have hj0 : ¬ ((j : Nat) : Int) < 0 := by omega
        have hji : (j : Int) < ((N0.length : Nat) : Int) := by omega
        obtain ⟨d8, d9, _, _⟩ := nd_cells2 hj
        rw [ht] at hpos
        rw [visit_met hk hN0 hk0 hp hpos hj, visT_u, hu0]
        unfold visT
        simp only [show ixO (some j) = (j : Int) from rfl, hj0, hji, hki0, Cod.encs_len, Int.natCast_nonneg, Int.toNat_natCast, decide_true, decide_false, cond_true, cond_false, Option.bind_some, c8, d8, hwf, ieq]
        have r1 := ndC_wd hj (IntKind.wrap .i64 (N0[j].words + N0[k].words))
        have r2 := ndC_nx hk0 hd (j : Int)
        obtain ⟨M, hM⟩ : ∃ M, M = N0.set j { N0[j] with words := IntKind.i64.wrap (N0[j].words + N0[k].words) } := ⟨_, rfl⟩
        have hkM : k < M.length := by rw [hM, List.length_set]; exact hk0
        have hkMi : (k : Int) < ((M.length : Nat) : Int) := by omega
        have r3 := ndC_nx hkM hd (j : Int)
        rw [← hM] at r1
        cases decide (N0[j].far = N0[k].far + 1) with
        | true =>
          simp only [← hM, cond_true, hki0, hkMi, hji, d9, c9, r1, r3, h1, h12, Cod.encs_len, Int.natCast_nonneg, Int.toNat_natCast, Nat.mul_one, decide_true, Option.bind_some]
        | false =>
          simp only [cond_false, cond_true, hki0, hji, d9, c9, r2, h1, h12, Cod.encs_len, Int.natCast_nonneg, Int.toNat_natCast, Nat.mul_one, decide_true, Option.bind_some]
      | none =>
        obtain ⟨N1, hN1⟩ : ∃ N1, N1 = N0 ++ [⟨t, N0[k].far + 1, 0, (k : Int), (dir : Int), 0, 0, 0, 0⟩] := ⟨_, rfl⟩
        have hl2 : N1.length = N0.length + 1 := by rw [hN1, List.length_append, List.length_singleton]
        have hj : N0.length < N1.length := by omega
        have hk1 : k < N1.length := by omega
        have hki1 : (k : Int) < ((N1.length : Nat) : Int) := by omega
        have hji : ((N0.length : Nat) : Int) < ((N1.length : Nat) : Int) := by omega
        have e1 : ndC.encs N0 ++ [[D.int .i64 t.x, D.int .i64 t.y, D.int .i64 t.d.t, D.int .i64 t.d.n, D.int .i64 t.d.e, D.int .i64 t.d.s, D.int .i64 t.d.w, D.int .i64 t.d.b, D.int .i64 (N0[k].far + 1), D.int .i64 0, D.int .i64 (k : Int), D.int .i64 (dir : Int), D.int .i64 0, D.int .i64 0, D.int .i64 0, D.int .i64 0]] = ndC.encs N1 := by
          rw [hN1]; exact ndC_snoc N0 ⟨t, N0[k].far + 1, 0, (k : Int), (dir : Int), 0, 0, 0, 0⟩
        have e2 := codes_snoc w (N.map Nd.u) t
        have hu1 : N1.map Nd.u = N.map Nd.u ++ [t] := by rw [hN1, List.map_append, hu0]; rfl
        obtain ⟨d8, d9, _, _⟩ := nd_cells2 hj
        obtain ⟨b8, b9, _, _⟩ := nd_cells2 hk1
        have hf1 : N1[k] = N0[k] := by
          subst hN1
          rw [List.getElem_append_left hk0]
        rw [ht] at hpos
        have hN1' := hN1
        rw [ht] at hN1'
        rw [visit_new hk hN0 hk0 hp hpos hN1' hk1 hj, visT_u, hu1]
        unfold visT
        have r1 := ndC_wd hj (IntKind.wrap .i64 (N1[N0.length].words + N1[k].words))
        have r2 := ndC_nx hk1 hd ((N0.length : Nat) : Int)
        obtain ⟨M, hM⟩ : ∃ M, M = N1.set N0.length { N1[N0.length] with words := IntKind.i64.wrap (N1[N0.length].words + N1[k].words) } := ⟨_, rfl⟩
        have hkM : k < M.length := by rw [hM, List.length_set]; exact hk1
        have hkMi : (k : Int) < ((M.length : Nat) : Int) := by omega
        have r3 := ndC_nx hkM hd ((N0.length : Nat) : Int)
        rw [← hM] at r1
        have hwf1 : IntKind.wrap .i64 (N1[k].far + 1) = N1[k].far + 1 := by rw [hf1]; exact hwf
        simp only [show ixO none = (-1 : Int) from rfl, show decide ((-1 : Int) < 0) = true from rfl, hji, hki0, hki1, hl1, hlc, hwf, hwf1, e1, e2, Cod.encs_len, Int.natCast_nonneg, Int.toNat_natCast, decide_true, cond_true, Option.bind_some, c8, d8, b8, ieq]
        cases decide (N1[N0.length].far = N1[k].far + 1) with
        | true =>
          simp only [← hM, cond_true, hki1, hkMi, hji, d9, b9, r1, r3, h1, h12, Cod.encs_len, Int.natCast_nonneg, Int.toNat_natCast, Nat.mul_one, decide_true, Option.bind_some]
        | false =>
          simp only [cond_false, cond_true, hki1, hji, d9, b9, r2, h1, h12, Cod.encs_len, Int.natCast_nonneg, Int.toNat_natCast, Nat.mul_one, decide_true, Option.bind_some]
theorem spec_wyAll.l4_run {n : Nat} (hn : 4 < n) (hw : w ≤ 7) (hh : h ≤ 7) (hc : cs.length = w * h) (hcd : u8C.decs (u8C.encs cs) = some cs) :
    ∀ (f k m : Nat) (N : List Nd), k + f = BIG → f < m → CInv w h (N.map Nd.core) → COrd k (N.map Nd.core) →
    spec_wyAll.l4 n m (k : Int) (w : Int) (h : Int) (u8C.encs cs) (ndC.encs N) (intC.encs (codes w (N.map Nd.u))) = some [Q.one (.sl 16 (ndC.encs (bf (flC w h cs) f k N)))] := by
  intro f
  induction f with
  | zero =>
    intro k m N hf hm hv ho
    obtain ⟨m, rfl⟩ : ∃ m', m = m' + 1 := ⟨m - 1, by omega⟩
    have hlen := cinv_big hw hh hv
    rw [List.length_map] at hlen
    have h1 : ¬ (k : Int) < ((N.length : Nat) : Int) := by omega
    rw [spec_wyAll.l4_eq]
    simp only [Cod.encs_len, h1, decide_false, cond_false]
    rfl
  | succ f ih =>
    intro k m N hf hm hv ho
    obtain ⟨m, rfl⟩ : ∃ m', m = m' + 1 := ⟨m - 1, by omega⟩
    rw [spec_wyAll.l4_eq, bf]
    by_cases hk : k < N.length
    · have h1 : (k : Int) < ((N.length : Nat) : Int) := by omega
      have hv4 := hv.visit4 flC_gd k (p := flC (w : Int) (h : Int) cs)
      obtain ⟨ho4, hl4⟩ := ho.visit4 (p := flC (w : Int) (h : Int) cs)
      rw [← visit4_core] at hv4 ho4 hl4
      rw [List.length_map, List.length_map] at hl4
      simp only [Cod.encs_len, h1, hk, decide_true, cond_true]
      refine Eq.trans (spec_wyAll.l7_run (n := n) (m4 := m) hw hh hc hcd 4 0 n k N rfl hn hk hv ho) ?_
      rw [visF4]
      exact ih (k + 1) m (visit4 (flC w h cs) k N) (by omega) (by omega) hv4 (ho4.step (by rw [List.length_map]; omega))
    · have h1 : ¬ (k : Int) < ((N.length : Nat) : Int) := by omega
      simp only [Cod.encs_len, h1, hk, decide_false, cond_false]
end
def spec_wyAll.stub : Stub
  | [.agg [.int .i64 gw, .int .i64 gh, .sl 1 es], .agg [.int .i64 x, .int .i64 y, .int .i64 t, .int .i64 n, .int .i64 e, .int .i64 s, .int .i64 w, .int .i64 b]] => .any (u8C.decs es) fun cs => .gd (Sp.inR gw 0 7) (.gd (Sp.inR gh 0 7) (.gd (decide (cs.length = gw.toNat * gh.toNat)) (.gd (Sp.inR x 0 (gw - 1)) (.gd (Sp.inR y 0 (gh - 1)) (.gd (Sp.Die.good ⟨t, n, e, s, w, b⟩) (.ret [.one (.sl 16 (ndC.encs (Sp.wyN (Sp.flC gw gh cs) ⟨x, y, ⟨t, n, e, s, w, b⟩⟩)))]))))))
  | _ => .fail
theorem spec_wyAll.ok : StubOk Tryd.prog C0 71 spec_wyAll.stub := by
  intro args res hst
  unfold spec_wyAll.stub at hst
  split at hst
  · rename_i gw gh es x y t n e s w b
    obtain ⟨cs, h1, h0⟩ := any_out hst
    obtain ⟨rfl, hl⟩ := Cod.decs_inv h1
    obtain ⟨h2, h0⟩ := gd_out h0
    obtain ⟨h3, h0⟩ := gd_out h0
    obtain ⟨h4, h0⟩ := gd_out h0
    obtain ⟨h5, h0⟩ := gd_out h0
    obtain ⟨h6, h0⟩ := gd_out h0
    obtain ⟨h7, h0⟩ := gd_out h0
    cases h0
    obtain ⟨w0, w7⟩ := inR_out h2
    obtain ⟨g0, g7⟩ := inR_out h3
    obtain ⟨x0, x6⟩ := inR_out h5
    obtain ⟨y0, y6⟩ := inR_out h6
    obtain ⟨W, rfl⟩ := Int.eq_ofNat_of_zero_le w0
    obtain ⟨H, rfl⟩ := Int.eq_ofNat_of_zero_le g0
    have h4 := of_decide_eq_true h4
    rw [Int.toNat_natCast, Int.toNat_natCast] at h4
    obtain ⟨N, hN⟩ : ∃ N, BIG + 64 ≤ N := ⟨BIG + 64, Nat.le_refl _⟩
    refine spec_wyAll.ev (n := N) ?_
    unfold spec_wyAll.res
    have gx : inR x 0 6 = true := inr6 (w := W) x0 (by omega) (by omega)
    have gy : inR y 0 6 = true := inr6 (w := H) y0 (by omega) (by omega)
    have hg : Gds W H ⟨x, y, ⟨t, n, e, s, w, b⟩⟩ := ⟨x0, by show x < (W : Int); omega, y0, by show y < (H : Int); omega, h7⟩
    have hv : CInv W H ([nd0 ⟨x, y, ⟨t, n, e, s, w, b⟩⟩].map Nd.core) := cr0_inv hg
    have ho : COrd 0 ([nd0 ⟨x, y, ⟨t, n, e, s, w, b⟩⟩].map Nd.core) := cr0_ord _
    have key := spec_wyAll.l4_run (n := N) (cs := cs) (by omega) (by omega) (by omega) h4 h1 BIG 0 N [nd0 ⟨x, y, ⟨t, n, e, s, w, b⟩⟩] (by omega) (by omega) hv ho
    rw [h2, gx, gy, h7]
    exact key
  · cases hst
end Go.Proofs.EV.PL
set_option linter.unusedVariables false
set_option linter.unusedSimpArgs false
/-! What rolls make of a state, by moves. -/
namespace Go.Proofs.EV.PL
open Go Go.Proofs Go.Proofs.EV Sp
/-! impl_reached -/
noncomputable def impl_reached.cfg : Cfg := { C0 with keep := fun | 3 => some [1, 5, 6] | 6 => some [1, 5, 6, 31] | _ => none, nb := 0, M := tabM [(86, impl_grid_roll_i.stub)], MM := tabB [] }
noncomputable def impl_reached.l3 (n : Nat) (m3 : Nat) (l0 : List (List D)) (i1 : Int) (l2 : List (List D)) (l3 : List (List D)) (l4 : List (List D)) (l5 : List (List D)) (l6 : List (List D × List D)) : Option (List Q) :=
  loopAt impl_reached.cfg [RK.one (LK.nl D.nilp)] n Tryd.f103 [1, 1, 0, 1, 0] [] m3 (St.mk [V.undef, V.one false (D.fn (86 : Nat) [D.sl (1 : Nat) l0] []), V.undef, V.undef, V.undef, V.rp (0 : Nat) (0 : Nat), V.one true (D.int IntKind.i64 i1), V.undef, V.undef, V.undef, V.undef, V.undef, V.undef, V.undef, V.undef, V.undef, V.undef, V.undef, V.undef, V.undef, V.undef, V.undef, V.undef, V.undef, V.undef, V.undef, V.undef, V.undef, V.undef, V.undef, V.undef, V.undef, V.undef, V.undef, V.undef, V.undef, V.undef, V.undef, V.undef, V.undef, V.undef, V.undef, V.undef, V.undef, V.undef, V.undef, V.undef, V.undef, V.undef, V.undef, V.undef, V.undef, V.undef, V.undef, V.undef, V.undef, V.undef, V.undef, V.undef, V.undef, V.undef, V.undef, V.undef, V.undef, V.undef, V.undef, V.undef, V.undef, V.undef, V.undef, V.undef, V.undef, V.undef, V.undef, V.undef, V.undef, V.undef, V.undef, V.undef, V.undef, V.undef, V.undef, V.undef, V.undef, V.undef, V.undef, V.undef, V.undef, V.undef, V.undef, V.undef, V.undef, V.undef, V.undef, V.undef, V.undef, V.undef, V.undef, V.undef, V.undef, V.undef, V.undef, V.undef, V.undef, V.undef, V.undef, V.undef, V.undef, V.undef, V.undef, V.undef, V.undef, V.undef, V.undef, V.undef, V.undef, V.undef, V.undef, V.undef, V.undef, V.undef, V.undef] [Ob.box [V.rw (1 : Nat), V.rw (2 : Nat), V.rw (3 : Nat), V.rw (4 : Nat), V.rm (5 : Nat)], Ob.row false (8 : Nat) l2, Ob.row false (1 : Nat) l3, Ob.row false (1 : Nat) l4, Ob.row false (1 : Nat) l5, Ob.mp l6])
noncomputable def impl_reached.l6 (n : Nat) (m3 : Nat) (m6 : Nat) (l0 : List (List D)) (i1 : Int) (i2 : Int) (l3 : List (List D)) (l4 : List (List D)) (l5 : List (List D)) (l6 : List (List D)) (l7 : List (List D × List D)) : Option (List Q) :=
  loopAt impl_reached.cfg [RK.one (LK.nl D.nilp)] n Tryd.f103 [1, 1, 0, 1, 0, 0, 1, 0, 0, 1, 0] [m3] m6 (St.mk [V.undef, V.one false (D.fn (86 : Nat) [D.sl (1 : Nat) l0] []), V.undef, V.undef, V.undef, V.rp (0 : Nat) (0 : Nat), V.one true (D.int IntKind.i64 i1), V.undef, V.undef, V.undef, V.undef, V.undef, V.undef, V.undef, V.undef, V.undef, V.undef, V.undef, V.undef, V.undef, V.undef, V.undef, V.undef, V.undef, V.undef, V.undef, V.undef, V.undef, V.undef, V.undef, V.undef, V.one true (D.int IntKind.i64 i2), V.undef, V.undef, V.undef, V.undef, V.undef, V.undef, V.undef, V.undef, V.undef, V.undef, V.undef, V.undef, V.undef, V.undef, V.undef, V.undef, V.undef, V.undef, V.undef, V.undef, V.undef, V.undef, V.undef, V.undef, V.undef, V.undef, V.undef, V.undef, V.undef, V.undef, V.undef, V.undef, V.undef, V.undef, V.undef, V.undef, V.undef, V.undef, V.undef, V.undef, V.undef, V.undef, V.undef, V.undef, V.undef, V.undef, V.undef, V.undef, V.undef, V.undef, V.undef, V.undef, V.undef, V.undef, V.undef, V.undef, V.undef, V.undef, V.undef, V.undef, V.undef, V.undef, V.undef, V.undef, V.undef, V.undef, V.undef, V.undef, V.undef, V.undef, V.undef, V.undef, V.undef, V.undef, V.undef, V.undef, V.undef, V.undef, V.undef, V.undef, V.undef, V.undef, V.undef, V.undef, V.undef, V.undef, V.undef, V.undef, V.undef, V.undef] [Ob.box [V.rw (1 : Nat), V.rw (2 : Nat), V.rw (3 : Nat), V.rw (4 : Nat), V.rm (5 : Nat)], Ob.row false (8 : Nat) l3, Ob.row false (1 : Nat) l4, Ob.row false (1 : Nat) l5, Ob.row false (1 : Nat) l6, Ob.mp l7])
theorem impl_reached.l3_eq (n : Nat) (m3 : Nat) (l0 : List (List D)) (i1 : Int) (l2 : List (List D)) (l3 : List (List D)) (l4 : List (List D)) (l5 : List (List D)) (l6 : List (List D × List D)) :
    impl_reached.l3 n (m3 + 1) l0 i1 l2 l3 l4 l5 l6 = bif decide (i1 < (↑(List.length l2) : Int)) then impl_reached.l6 n m3 n l0 i1 (0 : Int) l2 l3 l4 l5 l6 else some [Q.one (D.pt [D.sl (8 : Nat) l2, D.sl (1 : Nat) l3, D.sl (1 : Nat) l4, D.sl (1 : Nat) l5, D.mp l6])] := by kernel_rfl
theorem impl_reached.l6_eq (n : Nat) (m3 : Nat) (m6 : Nat) (l0 : List (List D)) (i1 : Int) (i2 : Int) (l3 : List (List D)) (l4 : List (List D)) (l5 : List (List D)) (l6 : List (List D)) (l7 : List (List D × List D)) :
    impl_reached.l6 n m3 (m6 + 1) l0 i1 i2 l3 l4 l5 l6 l7 = bif decide (i2 < (4 : Int)) then bif decide ((0 : Int) ≤ i1) then bif decide (i1 < (↑(List.length l3) : Int)) then Option.bind (Option.bind (some (cellD l3 (Int.toNat i1) (0 : Nat))) (D.int? IntKind.i64)) fun (i1_1 : Int) => Option.bind (Option.bind (some (cellD l3 (Int.toNat i1) (1 : Nat))) (D.int? IntKind.i64)) fun (i2_1 : Int) => Option.bind (Option.bind (some (cellD l3 (Int.toNat i1) (2 : Nat))) (D.int? IntKind.i64)) fun (i3 : Int) => Option.bind (Option.bind (some (cellD l3 (Int.toNat i1) (3 : Nat))) (D.int? IntKind.i64)) fun (i4 : Int) => Option.bind (Option.bind (some (cellD l3 (Int.toNat i1) (4 : Nat))) (D.int? IntKind.i64)) fun (i5 : Int) => Option.bind (Option.bind (some (cellD l3 (Int.toNat i1) (5 : Nat))) (D.int? IntKind.i64)) fun (i6 : Int) => Option.bind (Option.bind (some (cellD l3 (Int.toNat i1) (6 : Nat))) (D.int? IntKind.i64)) fun (i7 : Int) => Option.bind (Option.bind (some (cellD l3 (Int.toNat i1) (7 : Nat))) (D.int? IntKind.i64)) fun (i8 : Int) => bif decide ((0 : Int) ≤ i2) then bif decide (i2 < (4 : Int)) then Option.bind (Cod.decs strC l0) fun (l9 : List ByteArray) => bif unif (lb l9) then bif smallR l9 then bif inR i1_1 (0 : Int) (6 : Int) then bif inR i2_1 (0 : Int) (6 : Int) then Option.bind (mpGet [D.int IntKind.i64 (Sta.x (mv (Sta.mk i1_1 i2_1 (Die.mk i3 i4 i5 i6 i7 i8)) (byteAt (ByteArray.mk #[(110 : UInt8), (101 : UInt8), (115 : UInt8), (119 : UInt8)]) (Int.toNat i2)))), D.int IntKind.i64 (Sta.y (mv (Sta.mk i1_1 i2_1 (Die.mk i3 i4 i5 i6 i7 i8)) (byteAt (ByteArray.mk #[(110 : UInt8), (101 : UInt8), (115 : UInt8), (119 : UInt8)]) (Int.toNat i2)))), D.int IntKind.i64 (Die.t (Sta.d (mv (Sta.mk i1_1 i2_1 (Die.mk i3 i4 i5 i6 i7 i8)) (byteAt (ByteArray.mk #[(110 : UInt8), (101 : UInt8), (115 : UInt8), (119 : UInt8)]) (Int.toNat i2))))), D.int IntKind.i64 (Die.n (Sta.d (mv (Sta.mk i1_1 i2_1 (Die.mk i3 i4 i5 i6 i7 i8)) (byteAt (ByteArray.mk #[(110 : UInt8), (101 : UInt8), (115 : UInt8), (119 : UInt8)]) (Int.toNat i2))))), D.int IntKind.i64 (Die.e (Sta.d (mv (Sta.mk i1_1 i2_1 (Die.mk i3 i4 i5 i6 i7 i8)) (byteAt (ByteArray.mk #[(110 : UInt8), (101 : UInt8), (115 : UInt8), (119 : UInt8)]) (Int.toNat i2))))), D.int IntKind.i64 (Die.s (Sta.d (mv (Sta.mk i1_1 i2_1 (Die.mk i3 i4 i5 i6 i7 i8)) (byteAt (ByteArray.mk #[(110 : UInt8), (101 : UInt8), (115 : UInt8), (119 : UInt8)]) (Int.toNat i2))))), D.int IntKind.i64 (Die.w (Sta.d (mv (Sta.mk i1_1 i2_1 (Die.mk i3 i4 i5 i6 i7 i8)) (byteAt (ByteArray.mk #[(110 : UInt8), (101 : UInt8), (115 : UInt8), (119 : UInt8)]) (Int.toNat i2))))), D.int IntKind.i64 (Die.b (Sta.d (mv (Sta.mk i1_1 i2_1 (Die.mk i3 i4 i5 i6 i7 i8)) (byteAt (ByteArray.mk #[(110 : UInt8), (101 : UInt8), (115 : UInt8), (119 : UInt8)]) (Int.toNat i2)))))] l7) fun (d10 : Option (List D)) => bif decide (List.length (Option.getD d10 [D.int IntKind.i64 (0 : Int)]) = (1 : Nat)) then Option.bind (Option.bind (some (cellD [Option.getD d10 [D.int IntKind.i64 (0 : Int)]] (0 : Nat) (0 : Nat))) (D.int? IntKind.i64)) fun (i11 : Int) => bif !isFl (lb l9) (Sta.x (mv (Sta.mk i1_1 i2_1 (Die.mk i3 i4 i5 i6 i7 i8)) (byteAt (ByteArray.mk #[(110 : UInt8), (101 : UInt8), (115 : UInt8), (119 : UInt8)]) (Int.toNat i2)))) (Sta.y (mv (Sta.mk i1_1 i2_1 (Die.mk i3 i4 i5 i6 i7 i8)) (byteAt (ByteArray.mk #[(110 : UInt8), (101 : UInt8), (115 : UInt8), (119 : UInt8)]) (Int.toNat i2)))) then impl_reached.l6 n m3 m6 l0 i1 (IntKind.wrap IntKind.i64 (i2 + (1 : Int))) l3 l4 l5 l6 l7 else bif Option.isSome d10 then impl_reached.l6 n m3 m6 l0 i1 (IntKind.wrap IntKind.i64 (i2 + (1 : Int))) l3 l4 l5 l6 l7 else Option.bind (mpSet [D.int IntKind.i64 (Sta.x (mv (Sta.mk i1_1 i2_1 (Die.mk i3 i4 i5 i6 i7 i8)) (byteAt (ByteArray.mk #[(110 : UInt8), (101 : UInt8), (115 : UInt8), (119 : UInt8)]) (Int.toNat i2)))), D.int IntKind.i64 (Sta.y (mv (Sta.mk i1_1 i2_1 (Die.mk i3 i4 i5 i6 i7 i8)) (byteAt (ByteArray.mk #[(110 : UInt8), (101 : UInt8), (115 : UInt8), (119 : UInt8)]) (Int.toNat i2)))), D.int IntKind.i64 (Die.t (Sta.d (mv (Sta.mk i1_1 i2_1 (Die.mk i3 i4 i5 i6 i7 i8)) (byteAt (ByteArray.mk #[(110 : UInt8), (101 : UInt8), (115 : UInt8), (119 : UInt8)]) (Int.toNat i2))))), D.int IntKind.i64 (Die.n (Sta.d (mv (Sta.mk i1_1 i2_1 (Die.mk i3 i4 i5 i6 i7 i8)) (byteAt (ByteArray.mk #[(110 : UInt8), (101 : UInt8), (115 : UInt8), (119 : UInt8)]) (Int.toNat i2))))), D.int IntKind.i64 (Die.e (Sta.d (mv (Sta.mk i1_1 i2_1 (Die.mk i3 i4 i5 i6 i7 i8)) (byteAt (ByteArray.mk #[(110 : UInt8), (101 : UInt8), (115 : UInt8), (119 : UInt8)]) (Int.toNat i2))))), D.int IntKind.i64 (Die.s (Sta.d (mv (Sta.mk i1_1 i2_1 (Die.mk i3 i4 i5 i6 i7 i8)) (byteAt (ByteArray.mk #[(110 : UInt8), (101 : UInt8), (115 : UInt8), (119 : UInt8)]) (Int.toNat i2))))), D.int IntKind.i64 (Die.w (Sta.d (mv (Sta.mk i1_1 i2_1 (Die.mk i3 i4 i5 i6 i7 i8)) (byteAt (ByteArray.mk #[(110 : UInt8), (101 : UInt8), (115 : UInt8), (119 : UInt8)]) (Int.toNat i2))))), D.int IntKind.i64 (Die.b (Sta.d (mv (Sta.mk i1_1 i2_1 (Die.mk i3 i4 i5 i6 i7 i8)) (byteAt (ByteArray.mk #[(110 : UInt8), (101 : UInt8), (115 : UInt8), (119 : UInt8)]) (Int.toNat i2)))))] [D.int IntKind.i64 (↑(List.length l3) : Int)] l7) fun (l12 : List (List D × List D)) => bif decide (List.length l3 + (1 : Nat) ≤ (17179869184 : Nat)) then bif decide (List.length l4 + (1 : Nat) ≤ (17179869184 : Nat)) then bif decide ((0 : Int) ≤ i2) then bif decide (i2 < (4 : Int)) then bif decide (List.length l5 + (1 : Nat) ≤ (17179869184 : Nat)) then bif decide ((0 : Int) ≤ i1) then bif decide (i1 < (↑(List.length l6) : Int)) then Option.bind (Option.bind (some (cellD l6 (Int.toNat i1) (0 : Nat))) (D.int? IntKind.i64)) fun (i13 : Int) => bif decide (List.length l6 + (1 : Nat) ≤ (17179869184 : Nat)) then impl_reached.l6 n m3 m6 l0 i1 (IntKind.wrap IntKind.i64 (i2 + (1 : Int))) (l3 ++ [[D.int IntKind.i64 (Sta.x (mv (Sta.mk i1_1 i2_1 (Die.mk i3 i4 i5 i6 i7 i8)) (byteAt (ByteArray.mk #[(110 : UInt8), (101 : UInt8), (115 : UInt8), (119 : UInt8)]) (Int.toNat i2)))), D.int IntKind.i64 (Sta.y (mv (Sta.mk i1_1 i2_1 (Die.mk i3 i4 i5 i6 i7 i8)) (byteAt (ByteArray.mk #[(110 : UInt8), (101 : UInt8), (115 : UInt8), (119 : UInt8)]) (Int.toNat i2)))), D.int IntKind.i64 (Die.t (Sta.d (mv (Sta.mk i1_1 i2_1 (Die.mk i3 i4 i5 i6 i7 i8)) (byteAt (ByteArray.mk #[(110 : UInt8), (101 : UInt8), (115 : UInt8), (119 : UInt8)]) (Int.toNat i2))))), D.int IntKind.i64 (Die.n (Sta.d (mv (Sta.mk i1_1 i2_1 (Die.mk i3 i4 i5 i6 i7 i8)) (byteAt (ByteArray.mk #[(110 : UInt8), (101 : UInt8), (115 : UInt8), (119 : UInt8)]) (Int.toNat i2))))), D.int IntKind.i64 (Die.e (Sta.d (mv (Sta.mk i1_1 i2_1 (Die.mk i3 i4 i5 i6 i7 i8)) (byteAt (ByteArray.mk #[(110 : UInt8), (101 : UInt8), (115 : UInt8), (119 : UInt8)]) (Int.toNat i2))))), D.int IntKind.i64 (Die.s (Sta.d (mv (Sta.mk i1_1 i2_1 (Die.mk i3 i4 i5 i6 i7 i8)) (byteAt (ByteArray.mk #[(110 : UInt8), (101 : UInt8), (115 : UInt8), (119 : UInt8)]) (Int.toNat i2))))), D.int IntKind.i64 (Die.w (Sta.d (mv (Sta.mk i1_1 i2_1 (Die.mk i3 i4 i5 i6 i7 i8)) (byteAt (ByteArray.mk #[(110 : UInt8), (101 : UInt8), (115 : UInt8), (119 : UInt8)]) (Int.toNat i2))))), D.int IntKind.i64 (Die.b (Sta.d (mv (Sta.mk i1_1 i2_1 (Die.mk i3 i4 i5 i6 i7 i8)) (byteAt (ByteArray.mk #[(110 : UInt8), (101 : UInt8), (115 : UInt8), (119 : UInt8)]) (Int.toNat i2)))))]]) (l4 ++ [[D.int IntKind.i64 i1]]) (l5 ++ [[D.int IntKind.u8 (byteAt (ByteArray.mk #[(110 : UInt8), (101 : UInt8), (115 : UInt8), (119 : UInt8)]) (Int.toNat i2))]]) (l6 ++ [[D.int IntKind.i64 (IntKind.wrap IntKind.i64 (i13 + (1 : Int)))]]) l12 else none else none else none else none else none else none else none else none else none else none else none else none else none else none else none else none else none else impl_reached.l3 n m3 l0 (IntKind.wrap IntKind.i64 (i1 + (1 : Int))) l3 l4 l5 l6 l7 := by kernel_rfl
noncomputable def impl_reached.res (n : Nat) (a0_0 : Int) (a0_1 : Int) (a0_2 : Int) (a0_3 : Int) (a0_4 : Int) (a0_5 : Int) (a0_6 : Int) (a0_7 : Int) (g : List (List D)) : Option (List Q) :=
  impl_reached.l3 n n g (0 : Int) [[D.int IntKind.i64 a0_0, D.int IntKind.i64 a0_1, D.int IntKind.i64 a0_2, D.int IntKind.i64 a0_3, D.int IntKind.i64 a0_4, D.int IntKind.i64 a0_5, D.int IntKind.i64 a0_6, D.int IntKind.i64 a0_7]] [[D.int IntKind.i64 (-1 : Int)]] [[D.int IntKind.u8 (0 : Int)]] [[D.int IntKind.i64 (0 : Int)]] [([D.int IntKind.i64 a0_0, D.int IntKind.i64 a0_1, D.int IntKind.i64 a0_2, D.int IntKind.i64 a0_3, D.int IntKind.i64 a0_4, D.int IntKind.i64 a0_5, D.int IntKind.i64 a0_6, D.int IntKind.i64 a0_7], [D.int IntKind.i64 (0 : Int)])]
theorem impl_reached.run (n : Nat) (a0_0 : Int) (a0_1 : Int) (a0_2 : Int) (a0_3 : Int) (a0_4 : Int) (a0_5 : Int) (a0_6 : Int) (a0_7 : Int) (g : List (List D)) :
    run1 impl_reached.cfg [RK.one (LK.nl D.nilp)] n Tryd.f103 [Q.agg [D.int IntKind.i64 a0_0, D.int IntKind.i64 a0_1, D.int IntKind.i64 a0_2, D.int IntKind.i64 a0_3, D.int IntKind.i64 a0_4, D.int IntKind.i64 a0_5, D.int IntKind.i64 a0_6, D.int IntKind.i64 a0_7], Q.one (D.fn (86 : FuncId) [D.sl (1 : Nat) g] [])] = impl_reached.res n a0_0 a0_1 a0_2 a0_3 a0_4 a0_5 a0_6 a0_7 g := by kernel_rfl
theorem impl_reached.ev {n : Nat} {a0_0 : Int} {a0_1 : Int} {a0_2 : Int} {a0_3 : Int} {a0_4 : Int} {a0_5 : Int} {a0_6 : Int} {a0_7 : Int} {g : List (List D)} {r : List Q} (h : impl_reached.res n a0_0 a0_1 a0_2 a0_3 a0_4 a0_5 a0_6 a0_7 g = some r) : Snd Tryd.prog C0 103 [.agg [.int .i64 a0_0, .int .i64 a0_1, .int .i64 a0_2, .int .i64 a0_3, .int .i64 a0_4, .int .i64 a0_5, .int .i64 a0_6, .int .i64 a0_7], .one (.fn 86 [.sl 1 g] [])] r :=
  snd_ev (C := impl_reached.cfg) cfg0 mix rfl rfl rfl rfl rfl (.cons impl_grid_roll_i.ok .nil) .nil rfl Tryd.func103 (by kernel_rfl) (by kernel_rfl) rfl ((impl_reached.run n a0_0 a0_1 a0_2 a0_3 a0_4 a0_5 a0_6 a0_7 g).trans h)

section
variable {w h : Nat} {l : List ByteArray}
theorem impl_reached.l6_run {n m3 : Nat} (hw : w ≤ 7) (hh : h ≤ 7) (hu : unif (lb l) = true) (hs : smallR l = true) (hld : strC.decs (strC.encs l) = some l) (hp0 : ∀ x y, isFl (lb l) x y = true → 0 ≤ x ∧ x < (w : Int) ∧ 0 ≤ y ∧ y < (h : Int)) :
    ∀ (d dir m k : Nat) (C : List Cr), dir + d = 4 → d < m → k < C.length → CInv w h C → COrd k C →
    impl_reached.l6 n m3 m (strC.encs l) (k : Int) (dir : Int) (stC.encs (C.map Cr.u)) (intC.encs (C.map Cr.bef)) (u8C.encs (C.map Cr.rl)) (intC.encs (C.map Cr.far)) (plM (C.map Cr.u) 0) = impl_reached.l3 n m3 (strC.encs l) ((k + 1 : Nat) : Int) (stC.encs ((visCF (isFl (lb l)) k d dir C).map Cr.u)) (intC.encs ((visCF (isFl (lb l)) k d dir C).map Cr.bef)) (u8C.encs ((visCF (isFl (lb l)) k d dir C).map Cr.rl)) (intC.encs ((visCF (isFl (lb l)) k d dir C).map Cr.far)) (plM ((visCF (isFl (lb l)) k d dir C).map Cr.u) 0) := by
  intro d
  induction d with
  | zero =>
    intro dir m k C hi hm hk hv ho
    obtain ⟨m, rfl⟩ : ∃ m', m = m' + 1 := ⟨m - 1, by omega⟩
    have h1 : ¬ (dir : Int) < 4 := by omega
    have hlen := cinv_big hw hh hv
    rw [impl_reached.l6_eq]
    simp only [h1, decide_false, cond_false, wrap_succ (show k ≤ LIM by unfold LIM; unfold BIG at hlen; omega)]
    rfl
  | succ d ih =>
    intro dir m k C hi hm hk hv ho
    obtain ⟨m, rfl⟩ : ∃ m', m = m' + 1 := ⟨m - 1, by omega⟩
    have hd : dir < 4 := by omega
    have h1 : (dir : Int) < 4 := by omega
    have hlen := cinv_big hw hh hv
    unfold BIG at hlen
    have hku : k < (C.map Cr.u).length := by rw [List.length_map]; exact hk
    have hkf : k < (C.map Cr.far).length := by rw [List.length_map]; exact hk
    have hki : (k : Int) < ((C.length : Nat) : Int) := by omega
    have hk' : C[k]? = some C[k] := List.getElem?_eq_getElem hk
    obtain ⟨c0, c1, c2, c3, c4, c5, c6, c7⟩ := st_cells hku
    have c8 := intC_at hkf
    rw [List.getElem_map] at c0 c1 c2 c3 c4 c5 c6 c7 c8
    have hgd : Gds w h C[k].u := hv.gd C[k] (List.getElem_mem hk)
    have hfar := far_le ho (k + 1) k C[k] (by omega) hk'
    have hwf : IntKind.wrap .i64 (C[k].far + 1) = C[k].far + 1 := wrap_in (by omega) (by omega)
    have gx : inR C[k].u.x 0 6 = true := inr6 hgd.x0 hgd.x1 hw
    have gy : inR C[k].u.y 0 6 = true := inr6 hgd.y0 hgd.y1 hh
    have hl1 : C.length + 1 ≤ 17179869184 := by omega
    obtain ⟨t, ht⟩ : ∃ t, t = rollK C[k].u (dir : Int) := ⟨_, rfl⟩
    have hro : mv ⟨C[k].u.x, C[k].u.y, C[k].u.d⟩ (byteAt (ByteArray.mk #[110, 101, 115, 119]) dir) = t := by
      rw [ht]
      exact Option.some.inj (mvO_dir C[k].u hd)
    have hnv := hv.visit hp0 k (dir : Int)
    obtain ⟨hno, hnl⟩ := ho.visit (p := isFl (lb l)) (dir := (dir : Int)) (by omega)
    have step := ih (dir + 1) m k (visitC (isFl (lb l)) k (dir : Int) C) (by omega) (by omega) (by omega) hnv hno
    rw [show visCF (isFl (lb l)) k (d + 1) dir C = visCF (isFl (lb l)) k d (dir + 1) (visitC (isFl (lb l)) k (dir : Int) C) from rfl]
    refine Eq.trans ?_ step
    have hget := mpGet_pl t (C.map Cr.u) 0
    have hget : mpGet [D.int .i64 t.x, D.int .i64 t.y, D.int .i64 t.d.t, D.int .i64 t.d.n, D.int .i64 t.d.e, D.int .i64 t.d.s, D.int .i64 t.d.w, D.int .i64 t.d.b] (plM (C.map Cr.u) 0) = _ := hget
    have hvis : visitC (isFl (lb l)) k (dir : Int) C = bif isFl (lb l) t.x t.y && !(posOf t (C.map Cr.u)).isSome then C ++ [⟨t, C[k].far + 1, (k : Int), (dir : Int)⟩] else C := by
      unfold visitC
      rw [hk', ht]
    rw [hvis, impl_reached.l6_eq]
    simp only [h1, hki, Cod.encs_len, List.length_map, Int.natCast_nonneg, Int.toNat_natCast, decide_true, cond_true, c0, c1, c2, c3, c4, c5, c6, c7, Option.bind_some, hld, hu, hs, gx, gy, Die.eta, hro, hget, wrap_succ (show dir ≤ LIM by unfold LIM; omega)]
    cases hpos : posOf t (C.map Cr.u) with
    | some j =>
      simp only [Option.map_some, Option.getD_some, Option.isSome_some, Bool.not_true, Bool.and_false, cond_false, cond_true, List.length_singleton, decide_true]
      show (Option.bind (some _) _) = _
      simp only [Option.bind_some]
      cases isFl (lb l) t.x t.y <;> rfl
    | none =>
      simp only [Option.map_none, Option.getD_none, Option.isSome_none, Bool.not_false, Bool.and_true, cond_false, cond_true, List.length_singleton, decide_true]
      show (Option.bind (some _) _) = _
      simp only [Option.bind_some]
      cases hp : isFl (lb l) t.x t.y with
      | false => rfl
      | true =>
        have hset := mpSet_pl t (C.map Cr.u) 0 hpos
        rw [List.length_map, Nat.zero_add] at hset
        have hset : mpSet [D.int .i64 t.x, D.int .i64 t.y, D.int .i64 t.d.t, D.int .i64 t.d.n, D.int .i64 t.d.e, D.int .i64 t.d.s, D.int .i64 t.d.w, D.int .i64 t.d.b] [D.int .i64 ((C.length : Nat) : Int)] (plM (C.map Cr.u) 0) = _ := hset
        have hb : ¬ (k : Int) < 0 := by omega
        have er : (⟨t, C[k].far + 1, (k : Int), (dir : Int)⟩ : Cr).rl = dirL (dir : Int) := by
          unfold Cr.rl
          simp only [hb, decide_false, cond_false]
        simp only [Bool.not_true, cond_false, cond_true, hset, Option.bind_some, hl1, hki, h1, Int.natCast_nonneg, Int.toNat_natCast, decide_true, c8, hwf, byte_dir hd, List.map_append, List.map_cons, List.map_nil, er, stC_snoc, intC_snoc, u8C_snoc]
theorem impl_reached.l3_run {n : Nat} (hn : 4 < n) (hw : w ≤ 7) (hh : h ≤ 7) (hu : unif (lb l) = true) (hs : smallR l = true) (hld : strC.decs (strC.encs l) = some l) (hp0 : ∀ x y, isFl (lb l) x y = true → 0 ≤ x ∧ x < (w : Int) ∧ 0 ≤ y ∧ y < (h : Int)) :
    ∀ (f k m : Nat) (C : List Cr), k + f = BIG → f < m → CInv w h C → COrd k C →
    impl_reached.l3 n m (strC.encs l) (k : Int) (stC.encs (C.map Cr.u)) (intC.encs (C.map Cr.bef)) (u8C.encs (C.map Cr.rl)) (intC.encs (C.map Cr.far)) (plM (C.map Cr.u) 0) = some [Q.one (.pt [.sl 8 (stC.encs ((bfC (isFl (lb l)) f k C).map Cr.u)), .sl 1 (intC.encs ((bfC (isFl (lb l)) f k C).map Cr.bef)), .sl 1 (u8C.encs ((bfC (isFl (lb l)) f k C).map Cr.rl)), .sl 1 (intC.encs ((bfC (isFl (lb l)) f k C).map Cr.far)), .mp (plM ((bfC (isFl (lb l)) f k C).map Cr.u) 0)])] := by
  intro f
  induction f with
  | zero =>
    intro k m C hf hm hv ho
    obtain ⟨m, rfl⟩ : ∃ m', m = m' + 1 := ⟨m - 1, by omega⟩
    have hlen := cinv_big hw hh hv
    have h1 : ¬ (k : Int) < ((C.length : Nat) : Int) := by omega
    rw [impl_reached.l3_eq]
    simp only [Cod.encs_len, List.length_map, h1, decide_false, cond_false]
    rfl
  | succ f ih =>
    intro k m C hf hm hv ho
    obtain ⟨m, rfl⟩ : ∃ m', m = m' + 1 := ⟨m - 1, by omega⟩
    rw [impl_reached.l3_eq, bfC]
    by_cases hk : k < C.length
    · have h1 : (k : Int) < ((C.length : Nat) : Int) := by omega
      have hv4 := hv.visit4 hp0 k
      obtain ⟨ho4, hl4⟩ := ho.visit4 (p := isFl (lb l))
      simp only [Cod.encs_len, List.length_map, h1, hk, decide_true, cond_true]
      refine Eq.trans (impl_reached.l6_run (n := n) (m3 := m) hw hh hu hs hld hp0 4 0 n k C rfl hn hk hv ho) ?_
      rw [visCF4]
      exact ih (k + 1) m (visitC4 (isFl (lb l)) k C) (by omega) (by omega) hv4 (ho4.step (by omega))
    · have h1 : ¬ (k : Int) < ((C.length : Nat) : Int) := by omega
      simp only [Cod.encs_len, List.length_map, h1, hk, decide_false, cond_false]
end
def impl_reached.stub : Stub
  | [.agg [.int .i64 x, .int .i64 y, .int .i64 t, .int .i64 n, .int .i64 e, .int .i64 s, .int .i64 w, .int .i64 b], .one (.fn g [.sl 1 es] [])] => .gd (Nat.beq g 86) (.any (strC.decs es) fun l => .gd (Sp.unif (Sp.lb l)) (.gd (Sp.smallR l) (.gd (Sp.inR x 0 ((Sp.wOf (Sp.lb l) : Int) - 1)) (.gd (Sp.inR y 0 (((Sp.lb l).length : Int) - 1)) (.gd (Sp.Die.good ⟨t, n, e, s, w, b⟩) (.any (some (Sp.wyC (Sp.isFl (Sp.lb l)) ⟨x, y, ⟨t, n, e, s, w, b⟩⟩)) fun C => .ret [.one (.pt [.sl 8 (stC.encs (Sp.usC C)), .sl 1 (intC.encs (Sp.besC C)), .sl 1 (u8C.encs (Sp.rlsC C)), .sl 1 (intC.encs (Sp.fasC C)), .mp (Sp.plU (Sp.usC C))])]))))))
  | _ => .fail
theorem impl_reached.ok : StubOk Tryd.prog C0 103 impl_reached.stub := by
  intro args res hst
  unfold impl_reached.stub at hst
  split at hst
  · rename_i x y t n e s w b g es
    obtain ⟨h0, hst⟩ := gd_out hst
    obtain rfl := Nat.eq_of_beq_eq_true h0
    obtain ⟨l, h1, h0⟩ := any_out hst
    obtain ⟨rfl, hl⟩ := Cod.decs_inv h1
    obtain ⟨h2, h0⟩ := gd_out h0
    obtain ⟨h3, h0⟩ := gd_out h0
    obtain ⟨h5, h0⟩ := gd_out h0
    obtain ⟨h6, h0⟩ := gd_out h0
    obtain ⟨h7, h0⟩ := gd_out h0
    obtain ⟨C, h8, h0⟩ := any_out h0
    obtain rfl := Option.some.inj h8
    cases h0
    obtain ⟨_, _, k1, k2⟩ := small_w h3
    obtain ⟨x0, x6⟩ := inR_out h5
    obtain ⟨y0, y6⟩ := inR_out h6
    obtain ⟨N, hN⟩ : ∃ N, BIG + 64 ≤ N := ⟨BIG + 64, Nat.le_refl _⟩
    refine impl_reached.ev (n := N) ?_
    have hll : (lb l).length = l.length := lb_len l
    have hg : Gds (wOf (lb l)) (lb l).length ⟨x, y, ⟨t, n, e, s, w, b⟩⟩ := ⟨x0, by show x < _; omega, y0, by show y < _; omega, h7⟩
    have key := impl_reached.l3_run (n := N) (l := l) (w := wOf (lb l)) (h := (lb l).length) (by omega) k2 (by omega) h2 h3 h1 (fun _ _ hp => isFl_out hp) BIG 0 N [cr0 ⟨x, y, ⟨t, n, e, s, w, b⟩⟩] (by omega) (by omega) (cr0_inv hg) (cr0_ord _)
    exact key
  · cases hst
end Go.Proofs.EV.PL
set_option linter.unusedVariables false
set_option linter.unusedSimpArgs false
/-! Words of a search; solutions. -/
namespace Go.Proofs.EV.PL
open Go Go.Proofs Go.Proofs.EV Sp
theorem ext_dir {d : Int} (h : inR d 0 3 = true) : ByteArray.extract (ByteArray.mk #[110, 101, 115, 119]) d.toNat (IntKind.wrap .i64 (d + 1)).toNat = mkB [dirL d] ∧ 0 ≤ IntKind.wrap .i64 (d + 1) ∧ IntKind.wrap .i64 (d + 1) ≤ 4 ∧ 0 ≤ d ∧ d ≤ ((IntKind.wrap .i64 (d + 1)).toNat : Int) := by
  obtain ⟨h0, h3⟩ := inR_out h
  rw [wrap_in (by omega) (by omega)]
  refine ⟨?_, by omega, by omega, h0, by omega⟩
  obtain ⟨D, rfl⟩ := Int.eq_ofNat_of_zero_le h0
  have hD : D < 4 := by omega
  match D, hD with
  | 0, _ => rfl
  | 1, _ => rfl
  | 2, _ => rfl
  | 3, _ => rfl
  | D + 4, h => omega
theorem okN_out {N : List Nd} (h : okN N = true) : lnkB ((N.map Nd.core).map Cr.bef) = true ∧ (∀ h0 : 0 < N.length, N[0].bef < 0) ∧ (∀ (i : Nat) (hi : i < N.length), inR N[i].dir 0 3 = true) := by
  unfold okN at h
  rw [Bool.and_eq_true, Bool.and_eq_true, decide_eq_true_eq] at h
  obtain ⟨h1, h2, h3⟩ := h
  refine ⟨h1, fun h0 => ?_, fun i hi => List.all_eq_true.1 h3 _ (List.getElem_mem hi)⟩
  rw [List.map_map, List.getD_eq_getElem?_getD, List.getElem?_map, List.getElem?_eq_getElem h0] at h2
  exact h2
/-! spec_wyWord -/
noncomputable def spec_wyWord.cfg : Cfg := { C0 with keep := fun | 2 => some [0, 1, 5] | _ => none, nb := 0, M := tabM [(60, spec_diDirs.stub)], MM := tabB [] }
noncomputable def spec_wyWord.l2 (n : Nat) (m2 : Nat) (l0 : List (List D)) (i1 : Int) (s2 : ByteArray) : Option (List Q) :=
  loopAt spec_wyWord.cfg [RK.one LK.str] n Tryd.f72 [1, 1, 0, 0] [] m2 (St.mk [V.one false (D.sl (16 : Nat) l0), V.one true (D.int IntKind.i64 i1), V.undef, V.undef, V.undef, V.one true (D.str s2), V.undef, V.undef, V.undef, V.undef, V.undef, V.undef, V.undef, V.undef, V.undef, V.undef, V.undef, V.undef, V.undef, V.undef, V.undef, V.undef, V.undef, V.undef, V.undef, V.undef, V.undef, V.undef, V.undef, V.undef, V.undef, V.undef, V.undef] [])
theorem spec_wyWord.l2_eq (n : Nat) (m2 : Nat) (l0 : List (List D)) (i1 : Int) (s2 : ByteArray) :
    spec_wyWord.l2 n (m2 + 1) l0 i1 s2 = bif decide ((0 : Int) ≤ i1) then bif decide (i1 < (↑(List.length l0) : Int)) then Option.bind (Option.bind (some (cellD l0 (Int.toNat i1) (10 : Nat))) (D.int? IntKind.i64)) fun (i1_1 : Int) => bif decide (i1_1 ≥ (0 : Int)) then bif decide ((0 : Int) ≤ i1) then bif decide (i1 < (↑(List.length l0) : Int)) then Option.bind (Option.bind (some (cellD l0 (Int.toNat i1) (11 : Nat))) (D.int? IntKind.i64)) fun (i2 : Int) => bif decide ((0 : Int) ≤ i1) then bif decide (i1 < (↑(List.length l0) : Int)) then Option.bind (Option.bind (some (cellD l0 (Int.toNat i1) (11 : Nat))) (D.int? IntKind.i64)) fun (i3 : Int) => bif decide ((0 : Int) ≤ IntKind.wrap IntKind.i64 (i3 + (1 : Int))) then bif decide (IntKind.wrap IntKind.i64 (i3 + (1 : Int)) ≤ (4 : Int)) then bif decide ((0 : Int) ≤ i2) then bif decide (i2 ≤ (↑(Int.toNat (IntKind.wrap IntKind.i64 (i3 + (1 : Int)))) : Int)) then bif decide (ByteArray.size (ByteArray.extract (ByteArray.mk #[(110 : UInt8), (101 : UInt8), (115 : UInt8), (119 : UInt8)]) (Int.toNat i2) (Int.toNat (IntKind.wrap IntKind.i64 (i3 + (1 : Int))))) + ByteArray.size s2 ≤ (17179869184 : Nat)) then bif decide ((0 : Int) ≤ i1) then bif decide (i1 < (↑(List.length l0) : Int)) then Option.bind (Option.bind (some (cellD l0 (Int.toNat i1) (10 : Nat))) (D.int? IntKind.i64)) fun (i4 : Int) => spec_wyWord.l2 n m2 l0 i4 (ByteArray.extract (ByteArray.mk #[(110 : UInt8), (101 : UInt8), (115 : UInt8), (119 : UInt8)]) (Int.toNat i2) (Int.toNat (IntKind.wrap IntKind.i64 (i3 + (1 : Int)))) ++ s2) else none else none else none else none else none else none else none else none else none else none else none else some [Q.one (D.str s2)] else none else none := by kernel_rfl
noncomputable def spec_wyWord.res (n : Nat) (a0 : List (List D)) (a1 : Int) : Option (List Q) :=
  spec_wyWord.l2 n n a0 a1 (ByteArray.mk #[])
theorem spec_wyWord.run (n : Nat) (a0 : List (List D)) (a1 : Int) :
    run1 spec_wyWord.cfg [RK.one LK.str] n Tryd.f72 [Q.one (D.sl (16 : Nat) a0), Q.one (D.int IntKind.i64 a1)] = spec_wyWord.res n a0 a1 := by kernel_rfl
theorem spec_wyWord.ev {n : Nat} {a0 : List (List D)} {a1 : Int} {r : List Q} (h : spec_wyWord.res n a0 a1 = some r) : Snd Tryd.prog C0 72 [.one (.sl 16 a0), .one (.int .i64 a1)] r :=
  snd_ev (C := spec_wyWord.cfg) cfg0 mix rfl rfl rfl rfl rfl (.cons spec_diDirs.ok .nil) .nil rfl Tryd.func72 (by kernel_rfl) (by kernel_rfl) rfl ((spec_wyWord.run n a0 a1).trans h)

theorem nd_bef {N : List Nd} {k : Nat} (hk : k < N.length) : ((N.map Nd.core).map Cr.bef).getD k 0 = N[k].bef := by
  rw [List.map_map, List.getD_eq_getElem?_getD, List.getElem?_map, List.getElem?_eq_getElem hk]; rfl
theorem nd_rl {N : List Nd} {k : Nat} (hk : k < N.length) (h0 : 0 ≤ N[k].bef) : ((N.map Nd.core).map Cr.rl).getD k 0 = dirL N[k].dir := by
  rw [List.map_map, List.getD_eq_getElem?_getD, List.getElem?_map, List.getElem?_eq_getElem hk]
  show N[k].core.rl = _
  unfold Cr.rl
  have : ¬ N[k].core.bef < 0 := by show ¬ N[k].bef < 0; omega
  rw [decide_eq_false this]; rfl
theorem spec_wyWord.l2_run {n : Nat} {N : List Nd} (hN : okN N = true) : ∀ (m k : Nat) (acc : List UInt8), k < N.length → k < m → acc.length + k ≤ 17179869184 →
    spec_wyWord.l2 n m (ndC.encs N) (k : Int) (mkB acc) = some [Q.one (.str (mkB ((wrev ((N.map Nd.core).map Cr.bef) ((N.map Nd.core).map Cr.rl) (k + 1) (k : Int)).reverse ++ acc)))] := by
  obtain ⟨hl, hz, hd⟩ := okN_out hN
  intro m
  induction m with
  | zero => intro k acc _ h _; omega
  | succ m ih =>
    intro k acc hk hm ha
    have hki : (k : Int) < ((N.length : Nat) : Int) := by omega
    obtain ⟨c8, c9, c10, c11⟩ := nd_cells2 hk
    rw [spec_wyWord.l2_eq, wrev]
    by_cases h0 : 0 < k
    · have hb := lnkB_out hl (i := k) (by rw [List.length_map, List.length_map]; exact hk) h0
      have hbb := hb
      rw [nd_bef hk] at hb
      obtain ⟨j, hj⟩ := Int.eq_ofNat_of_zero_le hb.1
      have hjk : j < k := by omega
      have hkp : (0 : Int) < (k : Int) := by omega
      obtain ⟨d1, d2, d3, d4, d5⟩ := ext_dir (hd k hk)
      have hsz : (mkB [dirL N[k].dir]).size + (mkB acc).size ≤ 17179869184 := by rw [mkB_size, mkB_size, List.length_singleton]; omega
      have step := ih j (dirL N[k].dir :: acc) (by omega) (by omega) (by rw [List.length_cons]; omega)
      simp only [hki, hkp, Cod.encs_len, Int.natCast_nonneg, Int.toNat_natCast, decide_true, cond_true, Option.bind_some, c10, c11, show N[k].bef ≥ 0 from hb.1, d1, d2, d3, d4, d5, hsz, mkB_app, List.singleton_append, nd_bef hk, nd_rl hk hb.1, List.reverse_cons, List.append_assoc, hj]
      rw [step, wrev_fuel hl _ k (j + 1) (j : Int) (by omega) (by rw [List.length_map, List.length_map]; omega) (by omega) (by omega)]
    · obtain rfl : k = 0 := by omega
      have hb : ¬ N[0].bef ≥ 0 := by have := hz hk; omega
      have hkp : ¬ (0 : Int) < ((0 : Nat) : Int) := by omega
      simp only [hki, hkp, Cod.encs_len, Int.natCast_nonneg, Int.toNat_natCast, decide_true, decide_false, cond_true, cond_false, Option.bind_some, c10, hb]
      rfl
def spec_wyWord.stub : Stub
  | [.one (.sl 16 es), .one (.int .i64 k)] => .any (ndC.decs es) fun N => .gd (Sp.okN N) (.gd (Sp.inR k 0 ((N.length : Int) - 1)) (.ret [.one (.str (Sp.wdN N k))]))
  | _ => .fail
theorem spec_wyWord.ok : StubOk Tryd.prog C0 72 spec_wyWord.stub := by
  intro args res h
  unfold spec_wyWord.stub at h
  split at h
  · rename_i es k
    obtain ⟨N, h1, h0⟩ := any_out h
    obtain ⟨rfl, hl⟩ := Cod.decs_inv h1
    obtain ⟨h2, h0⟩ := gd_out h0
    obtain ⟨h3, h0⟩ := gd_out h0
    cases h0
    obtain ⟨k0, k1⟩ := inR_out h3
    obtain ⟨K, rfl⟩ := Int.eq_ofNat_of_zero_le k0
    unfold LIM at hl
    refine spec_wyWord.ev (n := N.length) ?_
    have key := spec_wyWord.l2_run (n := N.length) h2 N.length K [] (by omega) (by omega) (by simp; omega)
    obtain ⟨g1, _, _⟩ := okN_out h2
    rw [List.append_nil, wrev_fuel g1 _ (K + 1) ((N.map Nd.core).map Cr.bef).length (K : Int) (by omega) (by rw [List.length_map, List.length_map]; omega) (by omega) (by rw [List.length_map, List.length_map]; omega)] at key
    exact key
  · cases h
/-! spec_wyFirst -/
noncomputable def spec_wyFirst.cfg : Cfg := { C0 with keep := fun | 2 => some [0, 1, 2, 3, 12, 13, 14] | _ => none, nb := 0, M := tabM [(72, spec_wyWord.stub)], MM := tabB [] }
noncomputable def spec_wyFirst.l2 (n : Nat) (m2 : Nat) (l0 : List (List D)) (i1 : Int) (i2 : Int) (i3 : Int) (l4 : List (List D)) (i5 : Int) (i6 : Int) : Option (List Q) :=
  loopAt spec_wyFirst.cfg [RK.one LK.str, RK.one LK.bool] n Tryd.f39 [1, 0, 1, 0] [] m2 (St.mk [V.one false (D.sl (16 : Nat) l0), V.one true (D.int IntKind.i64 i1), V.one true (D.int IntKind.i64 i2), V.one true (D.int IntKind.i64 i3), V.undef, V.undef, V.undef, V.undef, V.undef, V.undef, V.undef, V.undef, V.one false (D.sl (16 : Nat) l4), V.one true (D.int IntKind.i64 i5), V.one true (D.int IntKind.i64 i6), V.undef, V.undef, V.undef, V.undef, V.undef, V.undef, V.undef, V.undef, V.undef, V.undef, V.undef, V.undef, V.undef, V.undef, V.undef, V.undef, V.undef, V.undef, V.undef, V.undef, V.undef, V.undef, V.undef, V.undef, V.undef, V.undef, V.undef, V.undef, V.undef, V.undef, V.undef, V.undef, V.undef, V.undef, V.undef, V.undef, V.undef] [])
theorem spec_wyFirst.l2_eq (n : Nat) (m2 : Nat) (l0 : List (List D)) (i1 : Int) (i2 : Int) (i3 : Int) (l4 : List (List D)) (i5 : Int) (i6 : Int) :
    spec_wyFirst.l2 n (m2 + 1) l0 i1 i2 i3 l4 i5 i6 = bif decide (i6 < i5) then bif decide ((0 : Int) ≤ i6) then bif decide (i6 < (↑(List.length l4) : Int)) then Option.bind (Option.bind (some (cellD l4 (Int.toNat i6) (0 : Nat))) (D.int? IntKind.i64)) fun (i1_1 : Int) => Option.bind (Option.bind (some (cellD l4 (Int.toNat i6) (1 : Nat))) (D.int? IntKind.i64)) fun (i2_1 : Int) => Option.bind (Option.bind (some (cellD l4 (Int.toNat i6) (2 : Nat))) (D.int? IntKind.i64)) fun (i3_1 : Int) => Option.bind (Option.bind (some (cellD l4 (Int.toNat i6) (3 : Nat))) (D.int? IntKind.i64)) fun (i4 : Int) => Option.bind (Option.bind (some (cellD l4 (Int.toNat i6) (4 : Nat))) (D.int? IntKind.i64)) fun (i5_1 : Int) => Option.bind (Option.bind (some (cellD l4 (Int.toNat i6) (5 : Nat))) (D.int? IntKind.i64)) fun (i6_1 : Int) => Option.bind (Option.bind (some (cellD l4 (Int.toNat i6) (6 : Nat))) (D.int? IntKind.i64)) fun (i7 : Int) => Option.bind (Option.bind (some (cellD l4 (Int.toNat i6) (7 : Nat))) (D.int? IntKind.i64)) fun (i8 : Int) => Option.bind (Option.bind (some (cellD l4 (Int.toNat i6) (8 : Nat))) (D.int? IntKind.i64)) fun (i9 : Int) => Option.bind (Option.bind (some (cellD l4 (Int.toNat i6) (9 : Nat))) (D.int? IntKind.i64)) fun (i10 : Int) => Option.bind (Option.bind (some (cellD l4 (Int.toNat i6) (10 : Nat))) (D.int? IntKind.i64)) fun (i11 : Int) => Option.bind (Option.bind (some (cellD l4 (Int.toNat i6) (11 : Nat))) (D.int? IntKind.i64)) fun (i12 : Int) => Option.bind (Option.bind (some (cellD l4 (Int.toNat i6) (12 : Nat))) (D.int? IntKind.i64)) fun (i13 : Int) => Option.bind (Option.bind (some (cellD l4 (Int.toNat i6) (13 : Nat))) (D.int? IntKind.i64)) fun (i14 : Int) => Option.bind (Option.bind (some (cellD l4 (Int.toNat i6) (14 : Nat))) (D.int? IntKind.i64)) fun (i15 : Int) => Option.bind (Option.bind (some (cellD l4 (Int.toNat i6) (15 : Nat))) (D.int? IntKind.i64)) fun (i16 : Int) => bif i1_1 == i1 then bif i2_1 == i2 then bif decide (i3 < (0 : Int)) then bif decide (i9 ≤ (60 : Int)) then Option.bind (Cod.decs ndC l0) fun (l17 : List Nd) => bif okN l17 then bif inR i6 (0 : Int) ((↑(List.length l17) : Int) - (1 : Int)) then some [Q.one (D.str (wdN l17 i6)), Q.one (D.bool true)] else none else none else spec_wyFirst.l2 n m2 l0 i1 i2 i3 l4 i5 (IntKind.wrap IntKind.i64 (i6 + (1 : Int))) else bif i3_1 == i3 then bif decide (i9 ≤ (60 : Int)) then Option.bind (Cod.decs ndC l0) fun (l18 : List Nd) => bif okN l18 then bif inR i6 (0 : Int) ((↑(List.length l18) : Int) - (1 : Int)) then some [Q.one (D.str (wdN l18 i6)), Q.one (D.bool true)] else none else none else spec_wyFirst.l2 n m2 l0 i1 i2 i3 l4 i5 (IntKind.wrap IntKind.i64 (i6 + (1 : Int))) else spec_wyFirst.l2 n m2 l0 i1 i2 i3 l4 i5 (IntKind.wrap IntKind.i64 (i6 + (1 : Int))) else spec_wyFirst.l2 n m2 l0 i1 i2 i3 l4 i5 (IntKind.wrap IntKind.i64 (i6 + (1 : Int))) else spec_wyFirst.l2 n m2 l0 i1 i2 i3 l4 i5 (IntKind.wrap IntKind.i64 (i6 + (1 : Int))) else none else none else some [Q.one (D.str (ByteArray.mk #[])), Q.one (D.bool false)] := by kernel_rfl
noncomputable def spec_wyFirst.res (n : Nat) (a0 : List (List D)) (a1 : Int) (a2 : Int) (a3 : Int) : Option (List Q) :=
  spec_wyFirst.l2 n n a0 a1 a2 a3 a0 (↑(List.length a0) : Int) (0 : Int)
theorem spec_wyFirst.run (n : Nat) (a0 : List (List D)) (a1 : Int) (a2 : Int) (a3 : Int) :
    run1 spec_wyFirst.cfg [RK.one LK.str, RK.one LK.bool] n Tryd.f39 [Q.one (D.sl (16 : Nat) a0), Q.one (D.int IntKind.i64 a1), Q.one (D.int IntKind.i64 a2), Q.one (D.int IntKind.i64 a3)] = spec_wyFirst.res n a0 a1 a2 a3 := by kernel_rfl
theorem spec_wyFirst.ev {n : Nat} {a0 : List (List D)} {a1 : Int} {a2 : Int} {a3 : Int} {r : List Q} (h : spec_wyFirst.res n a0 a1 a2 a3 = some r) : Snd Tryd.prog C0 39 [.one (.sl 16 a0), .one (.int .i64 a1), .one (.int .i64 a2), .one (.int .i64 a3)] r :=
  snd_ev (C := spec_wyFirst.cfg) cfg0 mix rfl rfl rfl rfl rfl (.cons spec_wyWord.ok .nil) .nil rfl Tryd.func39 (by kernel_rfl) (by kernel_rfl) rfl ((spec_wyFirst.run n a0 a1 a2 a3).trans h)

def outF (N : List Nd) : Option Nat → List Q
  | some k => [.one (.str (wdN N (k : Int))), .one (.bool true)]
  | none => [.one (.str ⟨#[]⟩), .one (.bool false)]
theorem spec_wyFirst.l2_run {n : Nat} {N : List Nd} {x y top : Int} (hN : okN N = true) (hnd : ndC.decs (ndC.encs N) = some N) (hl : N.length ≤ LIM) (ht : 0 ≤ top) : ∀ (d i m : Nat), i + d = N.length → d < m →
    spec_wyFirst.l2 n m (ndC.encs N) x y top (ndC.encs N) ((N.length : Nat) : Int) (i : Int) = some (outF N (firstM (doneS x y top) 60 ((N.map Nd.core).drop i) i)) := by
  intro d
  induction d with
  | zero =>
    intro i m hi hm
    obtain ⟨m, rfl⟩ : ∃ m', m = m' + 1 := ⟨m - 1, by omega⟩
    have h1 : ¬ (i : Int) < ((N.length : Nat) : Int) := by omega
    rw [spec_wyFirst.l2_eq, List.drop_of_length_le (by rw [List.length_map]; omega)]
    simp only [h1, decide_false, cond_false]
    rfl
  | succ d ih =>
    intro i m hi hm
    obtain ⟨m, rfl⟩ : ∃ m', m = m' + 1 := ⟨m - 1, by omega⟩
    have hlt : i < N.length := by omega
    have hltc : i < (N.map Nd.core).length := by rw [List.length_map]; exact hlt
    have h1 : (i : Int) < ((N.length : Nat) : Int) := by omega
    have h2 : inR (i : Int) 0 (((N.length : Nat) : Int) - 1) = true := by
      unfold inR
      rw [Bool.and_eq_true, decide_eq_true_eq, decide_eq_true_eq]; omega
    have h3 : ¬ top < 0 := by omega
    obtain ⟨c0, c1, c2, c3, c4, c5, c6, c7⟩ := nd_cells hlt
    obtain ⟨c8, c9, c10, c11⟩ := nd_cells2 hlt
    obtain ⟨c12, c13, c14, c15⟩ := nd_cells3 hlt
    have step := ih (i + 1) m (by omega) (by omega)
    rw [spec_wyFirst.l2_eq, List.drop_eq_getElem_cons hltc, firstM, List.getElem_map]
    rw [show (N[i].core.u) = N[i].u from rfl, show N[i].core.far = N[i].far from rfl]
    unfold doneS
    simp only [h1, h2, h3, Cod.encs_len, Int.natCast_nonneg, Int.toNat_natCast, decide_true, decide_false, cond_true, cond_false, c0, c1, c2, c3, c4, c5, c6, c7, c8, c9, c10, c11, c12, c13, c14, c15, Option.bind_some, hnd, hN, ieq, wrap_succ (show i ≤ LIM by omega), step]
    unfold doneS
    cases decide (N[i].u.x = x) <;> cases decide (N[i].u.y = y) <;> cases decide (N[i].u.d.t = top) <;> cases decide (N[i].far ≤ 60) <;> rfl
theorem outF_eq (N : List Nd) (o : Option Nat) : outF N o = [.one (.str (mkO (o.map fun (k : Nat) => wordF ((N.map Nd.core).map Cr.bef) ((N.map Nd.core).map Cr.rl) (k : Int)))), .one (.bool (isSO (o.map fun (k : Nat) => wordF ((N.map Nd.core).map Cr.bef) ((N.map Nd.core).map Cr.rl) (k : Int))))] := by
  cases o <;> rfl
def spec_wyFirst.stub : Stub
  | [.one (.sl 16 es), .one (.int .i64 x), .one (.int .i64 y), .one (.int .i64 top)] => .any (ndC.decs es) fun N => .gd (Sp.okN N) (.gd (decide (0 ≤ top)) (.ret [.one (.str (Sp.mkO (Sp.frN x y top N))), .one (.bool (Sp.isSO (Sp.frN x y top N)))]))
  | _ => .fail
theorem spec_wyFirst.ok : StubOk Tryd.prog C0 39 spec_wyFirst.stub := by
  intro args res h
  unfold spec_wyFirst.stub at h
  split at h
  · rename_i es x y top
    obtain ⟨N, h1, h0⟩ := any_out h
    obtain ⟨rfl, hl⟩ := Cod.decs_inv h1
    obtain ⟨h2, h0⟩ := gd_out h0
    obtain ⟨h3, h0⟩ := gd_out h0
    cases h0
    refine spec_wyFirst.ev (n := N.length + 1) ?_
    have key := spec_wyFirst.l2_run (n := N.length + 1) (x := x) (y := y) h2 h1 hl (of_decide_eq_true h3) N.length 0 (N.length + 1) (by omega) (by omega)
    rw [List.drop_zero, outF_eq] at key
    unfold spec_wyFirst.res
    rw [Cod.encs_len]
    exact key
  · cases h
/-! spec_puStates -/
noncomputable def spec_puStates.cfg : Cfg := { C0 with keep := fun | 6 => some [1, 7, 23, 24, 25] | _ => none, nb := 0, M := tabM [(55, spec_puGood.stub), (47, spec_boRead.stub), (71, spec_wyAll.stub), (51, spec_puDone.stub)], MM := tabB [] }
noncomputable def spec_puStates.l6 (n : Nat) (m6 : Nat) (i0 : Int) (i1 : Int) (s2 : ByteArray) (i3 : Int) (i4 : Int) (i5 : Int) (i6 : Int) (i7 : Int) (i8 : Int) (i9 : Int) (i10 : Int) (i11 : Int) (i12 : Int) (i13 : Int) (l14 : List (List D)) : Option (List Q) :=
  loopAt spec_puStates.cfg [RK.own (16 : Nat), RK.one (LK.int IntKind.i64), RK.one LK.bool] n Tryd.f37 [1, 1, 1, 1, 0, 1, 0] [] m6 (St.mk [V.undef, V.rp (0 : Nat) (0 : Nat), V.undef, V.undef, V.undef, V.undef, V.undef, V.rw (1 : Nat), V.undef, V.undef, V.undef, V.undef, V.undef, V.undef, V.undef, V.undef, V.undef, V.undef, V.undef, V.undef, V.undef, V.undef, V.undef, V.rw (1 : Nat), V.one true (D.int IntKind.i64 i0), V.one true (D.int IntKind.i64 i1), V.undef, V.undef, V.undef, V.undef, V.undef, V.undef, V.undef, V.undef, V.undef, V.undef, V.undef, V.undef, V.undef, V.undef] [Ob.box [V.one true (D.str s2), V.one true (D.int IntKind.i64 i3), V.one true (D.int IntKind.i64 i4), V.one true (D.int IntKind.i64 i5), V.one true (D.int IntKind.i64 i6), V.one true (D.int IntKind.i64 i7), V.one true (D.int IntKind.i64 i8), V.one true (D.int IntKind.i64 i9), V.one true (D.int IntKind.i64 i10), V.one true (D.int IntKind.i64 i11), V.one true (D.int IntKind.i64 i12), V.one true (D.int IntKind.i64 i13)], Ob.row false (16 : Nat) l14])
theorem spec_puStates.l6_eq (n : Nat) (m6 : Nat) (i0 : Int) (i1 : Int) (s2 : ByteArray) (i3 : Int) (i4 : Int) (i5 : Int) (i6 : Int) (i7 : Int) (i8 : Int) (i9 : Int) (i10 : Int) (i11 : Int) (i12 : Int) (i13 : Int) (l14 : List (List D)) :
    spec_puStates.l6 n (m6 + 1) i0 i1 s2 i3 i4 i5 i6 i7 i8 i9 i10 i11 i12 i13 l14 = bif decide (i1 < i0) then bif decide ((0 : Int) ≤ i1) then bif decide (i1 < (↑(List.length l14) : Int)) then Option.bind (Option.bind (some (cellD l14 (Int.toNat i1) (0 : Nat))) (D.int? IntKind.i64)) fun (i2 : Int) => Option.bind (Option.bind (some (cellD l14 (Int.toNat i1) (1 : Nat))) (D.int? IntKind.i64)) fun (i3_1 : Int) => Option.bind (Option.bind (some (cellD l14 (Int.toNat i1) (2 : Nat))) (D.int? IntKind.i64)) fun (i4_1 : Int) => Option.bind (Option.bind (some (cellD l14 (Int.toNat i1) (3 : Nat))) (D.int? IntKind.i64)) fun (i5_1 : Int) => Option.bind (Option.bind (some (cellD l14 (Int.toNat i1) (4 : Nat))) (D.int? IntKind.i64)) fun (i6_1 : Int) => Option.bind (Option.bind (some (cellD l14 (Int.toNat i1) (5 : Nat))) (D.int? IntKind.i64)) fun (i7_1 : Int) => Option.bind (Option.bind (some (cellD l14 (Int.toNat i1) (6 : Nat))) (D.int? IntKind.i64)) fun (i8_1 : Int) => Option.bind (Option.bind (some (cellD l14 (Int.toNat i1) (7 : Nat))) (D.int? IntKind.i64)) fun (i9_1 : Int) => Option.bind (Option.bind (some (cellD l14 (Int.toNat i1) (8 : Nat))) (D.int? IntKind.i64)) fun (i10_1 : Int) => Option.bind (Option.bind (some (cellD l14 (Int.toNat i1) (9 : Nat))) (D.int? IntKind.i64)) fun (i11_1 : Int) => Option.bind (Option.bind (some (cellD l14 (Int.toNat i1) (10 : Nat))) (D.int? IntKind.i64)) fun (i12_1 : Int) => Option.bind (Option.bind (some (cellD l14 (Int.toNat i1) (11 : Nat))) (D.int? IntKind.i64)) fun (i13_1 : Int) => Option.bind (Option.bind (some (cellD l14 (Int.toNat i1) (12 : Nat))) (D.int? IntKind.i64)) fun (i14 : Int) => Option.bind (Option.bind (some (cellD l14 (Int.toNat i1) (13 : Nat))) (D.int? IntKind.i64)) fun (i15 : Int) => Option.bind (Option.bind (some (cellD l14 (Int.toNat i1) (14 : Nat))) (D.int? IntKind.i64)) fun (i16 : Int) => Option.bind (Option.bind (some (cellD l14 (Int.toNat i1) (15 : Nat))) (D.int? IntKind.i64)) fun (i17 : Int) => bif doneS i11 i12 i13 (Sta.mk i2 i3_1 (Die.mk i4_1 i5_1 i6_1 i7_1 i8_1 i9_1)) then some [Q.one (D.sl (16 : Nat) l14), Q.one (D.int IntKind.i64 i10_1), Q.one (D.bool (decide (i10_1 ≤ (60 : Int))))] else spec_puStates.l6 n m6 i0 (IntKind.wrap IntKind.i64 (i1 + (1 : Int))) s2 i3 i4 i5 i6 i7 i8 i9 i10 i11 i12 i13 l14 else none else none else some [Q.one (D.sl (16 : Nat) []), Q.one (D.int IntKind.i64 (0 : Int)), Q.one (D.bool false)] := by kernel_rfl
noncomputable def spec_puStates.res (n : Nat) (a0_0 : ByteArray) (a0_1 : Int) (a0_2 : Int) (a0_3 : Int) (a0_4 : Int) (a0_5 : Int) (a0_6 : Int) (a0_7 : Int) (a0_8 : Int) (a0_9 : Int) (a0_10 : Int) (a0_11 : Int) : Option (List Q) :=
  bif !(isBo brd a0_0 && (Die.good (Die.mk a0_3 a0_4 a0_5 a0_6 a0_7 a0_8) && isFl (rws a0_0) a0_1 a0_2) && (isFl (rws a0_0) a0_9 a0_10 && inR a0_11 (0 : Int) (9 : Int))) then some [Q.one (D.sl (16 : Nat) []), Q.one (D.int IntKind.i64 (0 : Int)), Q.one (D.bool false)] else Option.bind (Cod.decs u8C (Cod.encs u8C (boC brd a0_0))) fun (l1 : List UInt8) => bif inR (↑(boW brd a0_0) : Int) (0 : Int) (7 : Int) then bif inR (↑(boH brd a0_0) : Int) (0 : Int) (7 : Int) then bif decide (List.length l1 = Int.toNat (↑(boW brd a0_0) : Int) * Int.toNat (↑(boH brd a0_0) : Int)) then bif inR a0_1 (0 : Int) ((↑(boW brd a0_0) : Int) - (1 : Int)) then bif inR a0_2 (0 : Int) ((↑(boH brd a0_0) : Int) - (1 : Int)) then bif Die.good (Die.mk a0_3 a0_4 a0_5 a0_6 a0_7 a0_8) then spec_puStates.l6 n n (↑(List.length (Cod.encs ndC (wyN (flC (↑(boW brd a0_0) : Int) (↑(boH brd a0_0) : Int) l1) (Sta.mk a0_1 a0_2 (Die.mk a0_3 a0_4 a0_5 a0_6 a0_7 a0_8))))) : Int) (0 : Int) a0_0 a0_1 a0_2 a0_3 a0_4 a0_5 a0_6 a0_7 a0_8 a0_9 a0_10 a0_11 (Cod.encs ndC (wyN (flC (↑(boW brd a0_0) : Int) (↑(boH brd a0_0) : Int) l1) (Sta.mk a0_1 a0_2 (Die.mk a0_3 a0_4 a0_5 a0_6 a0_7 a0_8)))) else none else none else none else none else none else none
theorem spec_puStates.run (n : Nat) (a0_0 : ByteArray) (a0_1 : Int) (a0_2 : Int) (a0_3 : Int) (a0_4 : Int) (a0_5 : Int) (a0_6 : Int) (a0_7 : Int) (a0_8 : Int) (a0_9 : Int) (a0_10 : Int) (a0_11 : Int) :
    run1 spec_puStates.cfg [RK.own (16 : Nat), RK.one (LK.int IntKind.i64), RK.one LK.bool] n Tryd.f37 [Q.agg [D.str a0_0, D.int IntKind.i64 a0_1, D.int IntKind.i64 a0_2, D.int IntKind.i64 a0_3, D.int IntKind.i64 a0_4, D.int IntKind.i64 a0_5, D.int IntKind.i64 a0_6, D.int IntKind.i64 a0_7, D.int IntKind.i64 a0_8, D.int IntKind.i64 a0_9, D.int IntKind.i64 a0_10, D.int IntKind.i64 a0_11]] = spec_puStates.res n a0_0 a0_1 a0_2 a0_3 a0_4 a0_5 a0_6 a0_7 a0_8 a0_9 a0_10 a0_11 := by kernel_rfl
theorem spec_puStates.ev {n : Nat} {a0_0 : ByteArray} {a0_1 : Int} {a0_2 : Int} {a0_3 : Int} {a0_4 : Int} {a0_5 : Int} {a0_6 : Int} {a0_7 : Int} {a0_8 : Int} {a0_9 : Int} {a0_10 : Int} {a0_11 : Int} {r : List Q} (h : spec_puStates.res n a0_0 a0_1 a0_2 a0_3 a0_4 a0_5 a0_6 a0_7 a0_8 a0_9 a0_10 a0_11 = some r) : Snd Tryd.prog C0 37 [.agg [.str a0_0, .int .i64 a0_1, .int .i64 a0_2, .int .i64 a0_3, .int .i64 a0_4, .int .i64 a0_5, .int .i64 a0_6, .int .i64 a0_7, .int .i64 a0_8, .int .i64 a0_9, .int .i64 a0_10, .int .i64 a0_11]] r :=
  snd_ev (C := spec_puStates.cfg) cfg0 mix rfl rfl rfl rfl rfl (.cons spec_puGood.ok (.cons spec_boRead.ok (.cons spec_wyAll.ok (.cons spec_puDone.ok .nil)))) .nil rfl Tryd.func37 (by kernel_rfl) (by kernel_rfl) rfl ((spec_puStates.run n a0_0 a0_1 a0_2 a0_3 a0_4 a0_5 a0_6 a0_7 a0_8 a0_9 a0_10 a0_11).trans h)

def outP (N : List Nd) (o : Option Nat) : List Q := [.one (.sl 16 (ndC.encs (bif isN o then N else []))), .one (.int .i64 (farK (N.map Nd.core) o)), .one (.bool (isN o && decide (farK (N.map Nd.core) o ≤ 60)))]
theorem spec_puStates.l6_run {n : Nat} {N : List Nd} {q : ByteArray} {i3 i4 i5 i6 i7 i8 i9 i10 px py pt : Int} (hl : N.length ≤ LIM) : ∀ (d i m : Nat), i + d = N.length → d < m →
    spec_puStates.l6 n m ((N.length : Nat) : Int) (i : Int) q i3 i4 i5 i6 i7 i8 i9 i10 px py pt (ndC.encs N) = some (outP N (firstC (doneS px py pt) ((N.map Nd.core).drop i) i)) := by
  intro d
  induction d with
  | zero =>
    intro i m hi hm
    obtain ⟨m, rfl⟩ : ∃ m', m = m' + 1 := ⟨m - 1, by omega⟩
    have h1 : ¬ (i : Int) < ((N.length : Nat) : Int) := by omega
    rw [spec_puStates.l6_eq, List.drop_of_length_le (by rw [List.length_map]; omega)]
    simp only [h1, decide_false, cond_false]
    rfl
  | succ d ih =>
    intro i m hi hm
    obtain ⟨m, rfl⟩ : ∃ m', m = m' + 1 := ⟨m - 1, by omega⟩
    have hlt : i < N.length := by omega
    have hltc : i < (N.map Nd.core).length := by rw [List.length_map]; exact hlt
    have h1 : (i : Int) < ((N.length : Nat) : Int) := by omega
    obtain ⟨c0, c1, c2, c3, c4, c5, c6, c7⟩ := nd_cells hlt
    obtain ⟨c8, c9, c10, c11⟩ := nd_cells2 hlt
    obtain ⟨c12, c13, c14, c15⟩ := nd_cells3 hlt
    have step := ih (i + 1) m (by omega) (by omega)
    rw [spec_puStates.l6_eq, List.drop_eq_getElem_cons hltc, firstC, List.getElem_map]
    rw [show (N[i].core.u) = N[i].u from rfl]
    simp only [h1, Cod.encs_len, Int.natCast_nonneg, Int.toNat_natCast, decide_true, cond_true, c0, c1, c2, c3, c4, c5, c6, c7, c8, c9, c10, c11, c12, c13, c14, c15, Option.bind_some, Die.eta, wrap_succ (show i ≤ LIM by omega), step]
    rw [show (Sta.mk N[i].u.x N[i].u.y N[i].u.d) = N[i].u from rfl]
    cases doneS px py pt N[i].u with
    | false => rfl
    | true =>
      simp only [cond_true]
      unfold outP farK
      simp only [List.getElem?_map, List.getElem?_eq_getElem hlt, Option.map_some, Option.getD_some]
      rfl
def spec_puStates.stub : Stub
  | [.agg [.str q, .int .i64 x, .int .i64 y, .int .i64 t, .int .i64 n, .int .i64 e, .int .i64 s, .int .i64 w, .int .i64 b, .int .i64 px, .int .i64 py, .int .i64 pt]] => .ret [.one (.sl 16 (ndC.encs (Sp.puL q ⟨x, y, ⟨t, n, e, s, w, b⟩⟩ px py pt))), .one (.int .i64 (Sp.puF q ⟨x, y, ⟨t, n, e, s, w, b⟩⟩ px py pt)), .one (.bool (Sp.puB q ⟨x, y, ⟨t, n, e, s, w, b⟩⟩ px py pt))]
  | _ => .fail
theorem spec_puStates.ok : StubOk Tryd.prog C0 37 spec_puStates.stub := by
  intro args res h
  unfold spec_puStates.stub at h
  split at h
  · rename_i q x y t n e s w b px py pt
    cases h
    obtain ⟨N, hN⟩ : ∃ N, BIG + 64 ≤ N := ⟨BIG + 64, Nat.le_refl _⟩
    refine spec_puStates.ev (n := N) ?_
    unfold spec_puStates.res puL puF puB puF puK
    rw [show (isBo brd q && (Die.good ⟨t, n, e, s, w, b⟩ && isFl (rws q) x y) && (isFl (rws q) px py && inR pt 0 9)) = pzOk q ⟨x, y, ⟨t, n, e, s, w, b⟩⟩ px py pt from rfl]
    cases hz : pzOk q ⟨x, y, ⟨t, n, e, s, w, b⟩⟩ px py pt with
    | false => rfl
    | true =>
      obtain ⟨ho, hf, hpt⟩ := puz_ok hz
      obtain ⟨hb, hg, hfl, _, _⟩ := okSt_out ho
      obtain ⟨e1, e2, e3, e4, e5, e6, e7⟩ := bo_ok hb
      have e6' : (boC brd q).length = (boW brd q : Int).toNat * (boH brd q : Int).toNat := by rw [Int.toNat_natCast, Int.toNat_natCast, e6]
      have hfl2 : flC (boW brd q : Int) (boH brd q : Int) (boC brd q) x y = true := by rw [fl_eq hb]; exact hfl
      obtain ⟨x0, x1, y0, y1⟩ := flC_gd _ _ hfl2
      have gx : inR x 0 ((boW brd q : Int) - 1) = true := by
        unfold inR
        rw [Bool.and_eq_true, decide_eq_true_eq, decide_eq_true_eq]; omega
      have gy : inR y 0 ((boH brd q : Int) - 1) = true := by
        unfold inR
        rw [Bool.and_eq_true, decide_eq_true_eq, decide_eq_true_eq]; omega
      have hlen := wyN_len ho
      have hlen2 : (wyN (isFl (rws q)) ⟨x, y, ⟨t, n, e, s, w, b⟩⟩).length ≤ LIM := by unfold LIM; unfold BIG at hlen; omega
      have hg : Die.good ⟨t, n, e, s, w, b⟩ = true := hg
      simp only [Bool.not_true, cond_false, cond_true, Cod.decs_encs e7, Option.bind_some, e4, e5, decide_eq_true e6', gx, gy, hg, fl_eq hb, Cod.encs_len]
      have key := spec_puStates.l6_run (n := N) (N := wyN (isFl (rws q)) ⟨x, y, ⟨t, n, e, s, w, b⟩⟩) (q := q) (i3 := x) (i4 := y) (i5 := t) (i6 := n) (i7 := e) (i8 := s) (i9 := w) (i10 := b) (px := px) (py := py) (pt := pt) hlen2 _ 0 N (Nat.zero_add _) (by omega)
      rw [List.drop_zero] at key
      unfold outP at key
      rw [wy_core] at key
      exact key
  · cases h
/-! spec_SolutionOf -/
noncomputable def spec_SolutionOf.cfg : Cfg := { C0 with keep := fun _ => none, nb := 0, M := tabM [(37, spec_puStates.stub), (39, spec_wyFirst.stub)], MM := tabB [] }
noncomputable def spec_SolutionOf.res (n : Nat) (a0_0 : ByteArray) (a0_1 : Int) (a0_2 : Int) (a0_3 : Int) (a0_4 : Int) (a0_5 : Int) (a0_6 : Int) (a0_7 : Int) (a0_8 : Int) (a0_9 : Int) (a0_10 : Int) (a0_11 : Int) : Option (List Q) :=
  bif !puB a0_0 (Sta.mk a0_1 a0_2 (Die.mk a0_3 a0_4 a0_5 a0_6 a0_7 a0_8)) a0_9 a0_10 a0_11 then some [Q.one (D.str (ByteArray.mk #[])), Q.one (D.bool false)] else Option.bind (Cod.decs ndC (Cod.encs ndC (puL a0_0 (Sta.mk a0_1 a0_2 (Die.mk a0_3 a0_4 a0_5 a0_6 a0_7 a0_8)) a0_9 a0_10 a0_11))) fun (l1 : List Nd) => bif okN l1 then bif decide ((0 : Int) ≤ a0_11) then some [Q.one (D.str (mkO (frN a0_9 a0_10 a0_11 l1))), Q.one (D.bool (isSO (frN a0_9 a0_10 a0_11 l1)))] else none else none
theorem spec_SolutionOf.run (n : Nat) (a0_0 : ByteArray) (a0_1 : Int) (a0_2 : Int) (a0_3 : Int) (a0_4 : Int) (a0_5 : Int) (a0_6 : Int) (a0_7 : Int) (a0_8 : Int) (a0_9 : Int) (a0_10 : Int) (a0_11 : Int) :
    run1 spec_SolutionOf.cfg [RK.one LK.str, RK.one LK.bool] n Tryd.f15 [Q.agg [D.str a0_0, D.int IntKind.i64 a0_1, D.int IntKind.i64 a0_2, D.int IntKind.i64 a0_3, D.int IntKind.i64 a0_4, D.int IntKind.i64 a0_5, D.int IntKind.i64 a0_6, D.int IntKind.i64 a0_7, D.int IntKind.i64 a0_8, D.int IntKind.i64 a0_9, D.int IntKind.i64 a0_10, D.int IntKind.i64 a0_11]] = spec_SolutionOf.res n a0_0 a0_1 a0_2 a0_3 a0_4 a0_5 a0_6 a0_7 a0_8 a0_9 a0_10 a0_11 := by kernel_rfl
theorem spec_SolutionOf.ev {n : Nat} {a0_0 : ByteArray} {a0_1 : Int} {a0_2 : Int} {a0_3 : Int} {a0_4 : Int} {a0_5 : Int} {a0_6 : Int} {a0_7 : Int} {a0_8 : Int} {a0_9 : Int} {a0_10 : Int} {a0_11 : Int} {r : List Q} (h : spec_SolutionOf.res n a0_0 a0_1 a0_2 a0_3 a0_4 a0_5 a0_6 a0_7 a0_8 a0_9 a0_10 a0_11 = some r) : Snd Tryd.prog C0 15 [.agg [.str a0_0, .int .i64 a0_1, .int .i64 a0_2, .int .i64 a0_3, .int .i64 a0_4, .int .i64 a0_5, .int .i64 a0_6, .int .i64 a0_7, .int .i64 a0_8, .int .i64 a0_9, .int .i64 a0_10, .int .i64 a0_11]] r :=
  snd_ev (C := spec_SolutionOf.cfg) cfg0 mix rfl rfl rfl rfl rfl (.cons spec_puStates.ok (.cons spec_wyFirst.ok .nil)) .nil rfl Tryd.func15 (by kernel_rfl) (by kernel_rfl) rfl ((spec_SolutionOf.run n a0_0 a0_1 a0_2 a0_3 a0_4 a0_5 a0_6 a0_7 a0_8 a0_9 a0_10 a0_11).trans h)

def spec_SolutionOf.stub : Stub
  | [.agg [.str q, .int .i64 x, .int .i64 y, .int .i64 t, .int .i64 n, .int .i64 e, .int .i64 s, .int .i64 w, .int .i64 b, .int .i64 px, .int .i64 py, .int .i64 pt]] => .ret [.one (.str (Sp.mkO (Sp.solF q ⟨x, y, ⟨t, n, e, s, w, b⟩⟩ px py pt))), .one (.bool (Sp.isSO (Sp.solF q ⟨x, y, ⟨t, n, e, s, w, b⟩⟩ px py pt)))]
  | _ => .fail
theorem puB_out {q : ByteArray} {s : Sta} {px py pt : Int} (h : puB q s px py pt = true) : pzOk q s px py pt = true ∧ puL q s px py pt = wyN (isFl (rws q)) s := by
  unfold puB at h
  unfold puL
  rw [Bool.and_eq_true] at h
  refine ⟨?_, by rw [h.1]; rfl⟩
  have h1 := h.1
  unfold puK at h1
  cases hz : pzOk q s px py pt with
  | false => rw [hz] at h1; cases h1
  | true => rfl
theorem solF_none {q : ByteArray} {s : Sta} {px py pt : Int} (h : puB q s px py pt = false) : solF q s px py pt = none := by
  have := solF_puB q s px py pt
  rw [h] at this
  cases hs : solF q s px py pt with
  | none => rfl
  | some l => rw [hs] at this; cases this
theorem spec_SolutionOf.ok : StubOk Tryd.prog C0 15 spec_SolutionOf.stub := by
  intro args res h
  unfold spec_SolutionOf.stub at h
  split at h
  · rename_i q x y t n e s w b px py pt
    cases h
    refine spec_SolutionOf.ev (n := 0) ?_
    unfold spec_SolutionOf.res
    cases hp : puB q ⟨x, y, ⟨t, n, e, s, w, b⟩⟩ px py pt with
    | false =>
      rw [solF_none hp]; rfl
    | true =>
      obtain ⟨hz, hL⟩ := puB_out hp
      obtain ⟨ho, hf, hpt⟩ := puz_ok hz
      have hlen := wyN_len ho
      have ht := (inR_out hpt).1
      have key := solF_frs q ⟨x, y, ⟨t, n, e, s, w, b⟩⟩ px py pt hz
      rw [← wy_core] at key
      simp only [Bool.not_true, cond_false, hL, Cod.decs_encs (c := ndC) (l := wyN (isFl (rws q)) ⟨x, y, ⟨t, n, e, s, w, b⟩⟩) (by unfold LIM; unfold BIG at hlen; omega), Option.bind_some, okN_wy, ht, decide_true, cond_true]
      show some [Q.one (.str (mkO (frsN px py pt ((wyN (isFl (rws q)) ⟨x, y, ⟨t, n, e, s, w, b⟩⟩).map Nd.core)))), Q.one (.bool (isSO (frsN px py pt ((wyN (isFl (rws q)) ⟨x, y, ⟨t, n, e, s, w, b⟩⟩).map Nd.core))))] = _
      rw [key]
  · cases h
/-! spec_LengthOf -/
noncomputable def spec_LengthOf.cfg : Cfg := { C0 with keep := fun _ => none, nb := 0, M := tabM [(37, spec_puStates.stub)], MM := tabB [] }
noncomputable def spec_LengthOf.res (n : Nat) (a0_0 : ByteArray) (a0_1 : Int) (a0_2 : Int) (a0_3 : Int) (a0_4 : Int) (a0_5 : Int) (a0_6 : Int) (a0_7 : Int) (a0_8 : Int) (a0_9 : Int) (a0_10 : Int) (a0_11 : Int) : Option (List Q) :=
  bif !puB a0_0 (Sta.mk a0_1 a0_2 (Die.mk a0_3 a0_4 a0_5 a0_6 a0_7 a0_8)) a0_9 a0_10 a0_11 then some [Q.one (D.int IntKind.i64 (0 : Int)), Q.one (D.bool false)] else some [Q.one (D.int IntKind.i64 (puF a0_0 (Sta.mk a0_1 a0_2 (Die.mk a0_3 a0_4 a0_5 a0_6 a0_7 a0_8)) a0_9 a0_10 a0_11)), Q.one (D.bool true)]
theorem spec_LengthOf.run (n : Nat) (a0_0 : ByteArray) (a0_1 : Int) (a0_2 : Int) (a0_3 : Int) (a0_4 : Int) (a0_5 : Int) (a0_6 : Int) (a0_7 : Int) (a0_8 : Int) (a0_9 : Int) (a0_10 : Int) (a0_11 : Int) :
    run1 spec_LengthOf.cfg [RK.one (LK.int IntKind.i64), RK.one LK.bool] n Tryd.f12 [Q.agg [D.str a0_0, D.int IntKind.i64 a0_1, D.int IntKind.i64 a0_2, D.int IntKind.i64 a0_3, D.int IntKind.i64 a0_4, D.int IntKind.i64 a0_5, D.int IntKind.i64 a0_6, D.int IntKind.i64 a0_7, D.int IntKind.i64 a0_8, D.int IntKind.i64 a0_9, D.int IntKind.i64 a0_10, D.int IntKind.i64 a0_11]] = spec_LengthOf.res n a0_0 a0_1 a0_2 a0_3 a0_4 a0_5 a0_6 a0_7 a0_8 a0_9 a0_10 a0_11 := by kernel_rfl
theorem spec_LengthOf.ev {n : Nat} {a0_0 : ByteArray} {a0_1 : Int} {a0_2 : Int} {a0_3 : Int} {a0_4 : Int} {a0_5 : Int} {a0_6 : Int} {a0_7 : Int} {a0_8 : Int} {a0_9 : Int} {a0_10 : Int} {a0_11 : Int} {r : List Q} (h : spec_LengthOf.res n a0_0 a0_1 a0_2 a0_3 a0_4 a0_5 a0_6 a0_7 a0_8 a0_9 a0_10 a0_11 = some r) : Snd Tryd.prog C0 12 [.agg [.str a0_0, .int .i64 a0_1, .int .i64 a0_2, .int .i64 a0_3, .int .i64 a0_4, .int .i64 a0_5, .int .i64 a0_6, .int .i64 a0_7, .int .i64 a0_8, .int .i64 a0_9, .int .i64 a0_10, .int .i64 a0_11]] r :=
  snd_ev (C := spec_LengthOf.cfg) cfg0 mix rfl rfl rfl rfl rfl (.cons spec_puStates.ok .nil) .nil rfl Tryd.func12 (by kernel_rfl) (by kernel_rfl) rfl ((spec_LengthOf.run n a0_0 a0_1 a0_2 a0_3 a0_4 a0_5 a0_6 a0_7 a0_8 a0_9 a0_10 a0_11).trans h)

def spec_LengthOf.stub : Stub
  | [.agg [.str q, .int .i64 x, .int .i64 y, .int .i64 t, .int .i64 n, .int .i64 e, .int .i64 s, .int .i64 w, .int .i64 b, .int .i64 px, .int .i64 py, .int .i64 pt]] => .ret [.one (.int .i64 (Sp.lenO (Sp.solF q ⟨x, y, ⟨t, n, e, s, w, b⟩⟩ px py pt))), .one (.bool (Sp.isSO (Sp.solF q ⟨x, y, ⟨t, n, e, s, w, b⟩⟩ px py pt)))]
  | _ => .fail
theorem spec_LengthOf.ok : StubOk Tryd.prog C0 12 spec_LengthOf.stub := by
  intro args res h
  unfold spec_LengthOf.stub at h
  split at h
  · rename_i q x y t n e s w b px py pt
    cases h
    refine spec_LengthOf.ev (n := 0) ?_
    unfold spec_LengthOf.res
    rw [solF_puB]
    cases hp : puB q ⟨x, y, ⟨t, n, e, s, w, b⟩⟩ px py pt with
    | false => rw [solF_none hp]; rfl
    | true => rw [solF_len _ _ _ _ _ hp]; rfl
  · cases h
/-! slices_Reverse_Sbyte_byte -/
noncomputable def slices_Reverse_Sbyte_byte.cfg : Cfg := { C0 with keep := fun | 1 => some [0, 2, 3] | _ => none, nb := 1, M := tabM [], MM := tabB [] }
noncomputable def slices_Reverse_Sbyte_byte.l1 (n : Nat) (m1 : Nat) (i0 : Int) (i1 : Int) (l2 : List (List D)) : Option (List V × List Ob) :=
  loopAtB slices_Reverse_Sbyte_byte.cfg n Tryd.f116 [1, 0] [] m1 (St.mk [V.rw (0 : Nat), V.undef, V.one true (D.int IntKind.i64 i0), V.one true (D.int IntKind.i64 i1), V.undef, V.undef, V.undef, V.undef, V.undef, V.undef, V.undef, V.undef, V.undef, V.undef, V.undef, V.undef, V.undef, V.undef, V.undef, V.undef, V.undef, V.undef, V.undef, V.undef, V.undef, V.undef, V.undef, V.undef] [Ob.row false (1 : Nat) l2])
theorem slices_Reverse_Sbyte_byte.l1_eq (n : Nat) (m1 : Nat) (i0 : Int) (i1 : Int) (l2 : List (List D)) :
    slices_Reverse_Sbyte_byte.l1 n (m1 + 1) i0 i1 l2 = bif decide (i0 < i1) then bif decide ((0 : Int) ≤ i1) then bif decide (i1 < (↑(List.length l2) : Int)) then Option.bind (Option.bind (some (cellD l2 (Int.toNat i1) (0 : Nat))) (D.int? IntKind.u8)) fun (i1_1 : Int) => bif decide ((0 : Int) ≤ i0) then bif decide (i0 < (↑(List.length l2) : Int)) then Option.bind (Option.bind (some (cellD l2 (Int.toNat i0) (0 : Nat))) (D.int? IntKind.u8)) fun (i2 : Int) => bif decide ((0 : Int) ≤ i0) then bif decide (i0 < (↑(List.length l2) : Int)) then bif decide ((0 : Int) ≤ i1) then bif decide (i1 < (↑(List.length (setRow (1 : Nat) l2 (Int.toNat i0) (0 : Nat) [D.int IntKind.u8 i1_1])) : Int)) then slices_Reverse_Sbyte_byte.l1 n m1 (IntKind.wrap IntKind.i64 (i0 + (1 : Int))) (IntKind.wrap IntKind.i64 (i1 - (1 : Int))) (setRow (1 : Nat) (setRow (1 : Nat) l2 (Int.toNat i0) (0 : Nat) [D.int IntKind.u8 i1_1]) (Int.toNat i1) (0 : Nat) [D.int IntKind.u8 i2]) else none else none else none else none else none else none else none else none else some ([], [Ob.row false (1 : Nat) l2]) := by kernel_rfl
noncomputable def slices_Reverse_Sbyte_byte.res (n : Nat) (es : List (List D)) : Option (List V × List Ob) :=
  slices_Reverse_Sbyte_byte.l1 n n (0 : Int) (IntKind.wrap IntKind.i64 ((↑(List.length es) : Int) - (1 : Int))) es
theorem slices_Reverse_Sbyte_byte.run (n : Nat) (es : List (List D)) :
    (fun p : List V × List Ob => runB slices_Reverse_Sbyte_byte.cfg n Tryd.f116 p.1 p.2) ([V.rw (0 : Nat)], [Ob.row false (1 : Nat) es]) = slices_Reverse_Sbyte_byte.res n es := by kernel_rfl
theorem slices_Reverse_Sbyte_byte.ev {n : Nat} {es : List (List D)} {r : List V} {o : List Ob} (h : slices_Reverse_Sbyte_byte.res n es = some (r, o)) : SndB Tryd.prog C0 116 [.rw 0] [.row false 1 es] r o :=
  sndB_ev (C := slices_Reverse_Sbyte_byte.cfg) cfg0 mix rfl rfl rfl rfl rfl .nil .nil Tryd.func116 (by kernel_rfl) (by kernel_rfl) rfl ((slices_Reverse_Sbyte_byte.run n es).trans h)

theorem slices_Reverse_Sbyte_byte.l1_run {n : Nat} {l : List UInt8} (hl : l.length ≤ LIM) : ∀ (d k m : Nat) (i1 : Int), 2 * k ≤ l.length → l.length < 2 * k + d → d < m → i1 = (l.length : Int) - 1 - (k : Int) →
    slices_Reverse_Sbyte_byte.l1 n m (k : Int) i1 (u8C.encs (swp l k)) = some ([], [Ob.row false 1 (u8C.encs l.reverse)]) := by
  intro d
  induction d with
  | zero => intro k m i1 h1 h2; omega
  | succ d ih =>
    intro k m i1 h1 h2 h3 h4
    obtain ⟨m, rfl⟩ : ∃ m', m = m' + 1 := ⟨m - 1, by omega⟩
    rw [slices_Reverse_Sbyte_byte.l1_eq]
    by_cases hk : 2 * k + 2 ≤ l.length
    · obtain ⟨j, hj⟩ : ∃ j, j = l.length - 1 - k := ⟨_, rfl⟩
      obtain rfl : i1 = (j : Int) := by omega
      have hL := swp_len l (k := k) h1
      have hjl : j < (swp l k).length := by omega
      have hkl : k < (swp l k).length := by omega
      have g1 : (k : Int) < (j : Int) := by omega
      have g2 : (j : Int) < (((swp l k).length : Nat) : Int) := by omega
      have g3 : (k : Int) < (((swp l k).length : Nat) : Int) := by omega
      have g4 : (j : Int) < ((((swp l k).set k (swp l k)[j]).length : Nat) : Int) := by rw [List.length_set]; omega
      have w1 : IntKind.wrap .i64 ((j : Int) - 1) = ((j - 1 : Nat) : Int) := by
        unfold LIM at hl
        rw [wrap_in (by omega) (by omega)]; omega
      have hs := swp_succ l (k := k) hk (a := (swp l k)[k]) (b := (swp l k)[j]) (List.getElem?_eq_getElem hkl) (by rw [← hj]; exact List.getElem?_eq_getElem hjl)
      rw [← hj] at hs
      have step := ih (k + 1) m ((j - 1 : Nat) : Int) (by omega) (by omega) (by omega) (by omega)
      simp only [g1, g2, g3, g4, Cod.encs_len, Int.natCast_nonneg, Int.toNat_natCast, decide_true, cond_true, u8C_cell hjl, u8C_cell hkl, Option.bind_some, u8C_set, hs, wrap_succ (show k ≤ LIM by omega), w1]
      exact step
    · have g1 : ¬ (k : Int) < i1 := by omega
      simp only [g1, decide_false, cond_false]
      rw [swp_end l h1 (by omega)]
def slices_Reverse_Sbyte_byte.stub : StubB
  | [.rw 0], [.row false 1 es] => .any (u8C.decs es) fun l => .ret ([], [.row false 1 (u8C.encs (Sp.rev8 l))])
  | _, _ => .fail
theorem slices_Reverse_Sbyte_byte.ok : StubBOk Tryd.prog C0 116 slices_Reverse_Sbyte_byte.stub := by
  intro args objs res objs' h
  unfold slices_Reverse_Sbyte_byte.stub at h
  split at h
  · rename_i es
    obtain ⟨l, h1, h0⟩ := any_out h
    obtain ⟨rfl, hl⟩ := Cod.decs_inv h1
    cases h0
    refine slices_Reverse_Sbyte_byte.ev (n := l.length + 2) ?_
    unfold slices_Reverse_Sbyte_byte.res
    have key := slices_Reverse_Sbyte_byte.l1_run (n := l.length + 2) hl (l.length + 1) 0 (l.length + 2) ((l.length : Int) - 1) (by omega) (by omega) (by omega) (by omega)
    rw [swp_zero] at key
    unfold LIM at hl
    rw [Cod.encs_len, wrap_in (by omega) (by omega)]
    exact key
  · cases h
/-! impl_reach_word -/
noncomputable def impl_reach_word.cfg : Cfg := { C0 with bor := fun f => Nat.beq f 116, news := fun _ => 0, keep := fun | 2 => some [0, 1, 6] | _ => none, nb := 0, M := tabM [], MM := tabB [(116, slices_Reverse_Sbyte_byte.stub)] }
noncomputable def impl_reach_word.l2 (n : Nat) (m2 : Nat) (l0 : List (List D)) (l1 : List (List D)) (l2 : List (List D)) (l3 : List (List D)) (l4 : List (List D × List D)) (i5 : Int) (l6 : List (List D)) : Option (List Q) :=
  loopAt impl_reach_word.cfg [RK.one LK.str, RK.one LK.bool] n Tryd.f101 [1, 1, 0, 0] [] m2 (St.mk [V.one false (D.pt [D.sl (8 : Nat) l0, D.sl (1 : Nat) l1, D.sl (1 : Nat) l2, D.sl (1 : Nat) l3, D.mp l4]), V.one true (D.int IntKind.i64 i5), V.undef, V.undef, V.undef, V.undef, V.rw (0 : Nat), V.undef, V.undef, V.undef, V.undef, V.undef, V.undef, V.undef, V.undef, V.undef, V.undef, V.undef, V.undef, V.undef, V.undef, V.undef, V.undef, V.undef, V.undef, V.undef, V.undef, V.undef, V.undef, V.undef, V.undef, V.undef, V.undef, V.undef] [Ob.row false (1 : Nat) l6])
theorem impl_reach_word.l2_eq (n : Nat) (m2 : Nat) (l0 : List (List D)) (l1 : List (List D)) (l2 : List (List D)) (l3 : List (List D)) (l4 : List (List D × List D)) (i5 : Int) (l6 : List (List D)) :
    impl_reach_word.l2 n (m2 + 1) l0 l1 l2 l3 l4 i5 l6 = bif decide (i5 > (0 : Int)) then bif decide ((0 : Int) ≤ i5) then bif decide (i5 < (↑(List.length l2) : Int)) then Option.bind (Option.bind (some (cellD l2 (Int.toNat i5) (0 : Nat))) (D.int? IntKind.u8)) fun (i1 : Int) => bif decide (List.length l6 + (1 : Nat) ≤ (17179869184 : Nat)) then bif decide ((0 : Int) ≤ i5) then bif decide (i5 < (↑(List.length l1) : Int)) then Option.bind (Option.bind (some (cellD l1 (Int.toNat i5) (0 : Nat))) (D.int? IntKind.i64)) fun (i2 : Int) => impl_reach_word.l2 n m2 l0 l1 l2 l3 l4 i2 (l6 ++ [[D.int IntKind.u8 i1]]) else none else none else none else none else none else Option.bind (Cod.decs u8C l6) fun (l3 : List UInt8) => bif decide ((↑(List.length (Cod.encs u8C (rev8 l3))) : Int) > (60 : Int)) then some [Q.one (D.str (ByteArray.mk #[])), Q.one (D.bool false)] else Option.bind (Option.map (fun (l : List UInt8) => ByteArray.mk (List.toArray l)) (rowStr? (Cod.encs u8C (rev8 l3)))) fun (s4 : ByteArray) => some [Q.one (D.str s4), Q.one (D.bool true)] := by kernel_rfl
noncomputable def impl_reach_word.res (n : Nat) (a : List (List D)) (f : List (List D)) (rr : List (List D)) (fa : List (List D)) (mp : List (List D × List D)) (a1 : Int) : Option (List Q) :=
  impl_reach_word.l2 n n a f rr fa mp a1 []
theorem impl_reach_word.run (n : Nat) (a : List (List D)) (f : List (List D)) (rr : List (List D)) (fa : List (List D)) (mp : List (List D × List D)) (a1 : Int) :
    run1 impl_reach_word.cfg [RK.one LK.str, RK.one LK.bool] n Tryd.f101 [Q.one (D.pt [D.sl (8 : Nat) a, D.sl (1 : Nat) f, D.sl (1 : Nat) rr, D.sl (1 : Nat) fa, D.mp mp]), Q.one (D.int IntKind.i64 a1)] = impl_reach_word.res n a f rr fa mp a1 := by kernel_rfl
theorem impl_reach_word.ev {n : Nat} {a : List (List D)} {f : List (List D)} {rr : List (List D)} {fa : List (List D)} {mp : List (List D × List D)} {a1 : Int} {r : List Q} (h : impl_reach_word.res n a f rr fa mp a1 = some r) : Snd Tryd.prog C0 101 [.one (.pt [.sl 8 a, .sl 1 f, .sl 1 rr, .sl 1 fa, .mp mp]), .one (.int .i64 a1)] r :=
  snd_ev (C := impl_reach_word.cfg) cfg0 mix rfl rfl rfl rfl rfl .nil (.cons slices_Reverse_Sbyte_byte.ok .nil) rfl Tryd.func101 (by kernel_rfl) (by kernel_rfl) rfl ((impl_reach_word.run n a f rr fa mp a1).trans h)

def outW (l : List UInt8) : List Q := [.one (.str (mkO (bif decide (l.length ≤ 60) then some l.reverse else none))), .one (.bool (isSO (bif decide (l.length ≤ 60) then some l.reverse else none)))]
theorem impl_reach_word.l2_run {n : Nat} {a fa : List (List D)} {mp : List (List D × List D)} {F : List Int} {R : List UInt8} (hF : lnkB F = true) (hR : F.length = R.length) : ∀ (m k : Nat) (acc : List UInt8), k < F.length → k < m → acc.length + k ≤ LIM →
    impl_reach_word.l2 n m a (intC.encs F) (u8C.encs R) fa mp (k : Int) (u8C.encs acc) = some (outW (acc ++ wrev F R (k + 1) (k : Int))) := by
  intro m
  induction m with
  | zero => intro k acc _ h _; omega
  | succ m ih =>
    intro k acc hk hm ha
    rw [impl_reach_word.l2_eq, wrev]
    by_cases h0 : 0 < k
    · have hb := lnkB_out hF hk h0
      obtain ⟨j, hj⟩ := Int.eq_ofNat_of_zero_le hb.1
      have hkR : k < R.length := by omega
      have h1 : (k : Int) > 0 := by omega
      have h1' : (0 : Int) < (k : Int) := by omega
      have h2 : (k : Int) < ((R.length : Nat) : Int) := by omega
      have h3 : (k : Int) < ((F.length : Nat) : Int) := by omega
      have h4 : acc.length + 1 ≤ 17179869184 := by unfold LIM at ha; omega
      have eF : F[k] = (j : Int) := by
        rw [← hj, List.getD_eq_getElem?_getD, List.getElem?_eq_getElem hk]; rfl
      have eR : R.getD k 0 = R[k] := by rw [List.getD_eq_getElem?_getD, List.getElem?_eq_getElem hkR]; rfl
      have step := ih j (acc ++ [R[k]]) (by omega) (by omega) (by rw [List.length_append, List.length_singleton]; omega)
      simp only [h1, h1', h2, h3, h4, Cod.encs_len, Int.natCast_nonneg, Int.toNat_natCast, decide_true, cond_true, u8C_cell hkR, intC_at hk, eF, Option.bind_some, u8C_snoc, eR, hj]
      rw [step, wrev_fuel hF _ k (j + 1) (j : Int) (by omega) (by omega) (by omega) (by omega), List.append_assoc]
      rfl
    · obtain rfl : k = 0 := by omega
      have h1 : ¬ ((0 : Nat) : Int) > 0 := by omega
      have h1' : ¬ (0 : Int) < ((0 : Nat) : Int) := by omega
      simp only [h1, h1', decide_false, cond_false, List.append_nil, Cod.decs_encs (c := u8C) (l := acc) (by omega), Option.bind_some, Cod.encs_len, rowStr_u8, Option.map_some]
      unfold outW
      by_cases hl : acc.length ≤ 60
      · have g : ¬ (((rev8 acc).length : Nat) : Int) > 60 := by
          unfold rev8
          rw [List.length_reverse]; omega
        simp only [g, hl, decide_true, decide_false, cond_true, cond_false]
        rfl
      · have g : (((rev8 acc).length : Nat) : Int) > 60 := by
          unfold rev8
          rw [List.length_reverse]; omega
        simp only [g, hl, decide_true, decide_false, cond_true, cond_false]
        rfl
def impl_reach_word.stub : Stub
  | [.one (.pt [.sl 8 _, .sl 1 f, .sl 1 r, .sl 1 _, .mp _]), .one (.int .i64 k)] => .any (intC.decs f) fun F => .any (u8C.decs r) fun R => .gd (Sp.lnkB F) (.gd (decide (F.length = R.length)) (.gd (Sp.inR k 0 ((F.length : Int) - 1)) (.ret [.one (.str (Sp.mkO (Sp.w60 F R k))), .one (.bool (Sp.isSO (Sp.w60 F R k)))])))
  | _ => .fail
theorem impl_reach_word.ok : StubOk Tryd.prog C0 101 impl_reach_word.stub := by
  intro args res h
  unfold impl_reach_word.stub at h
  split at h
  · rename_i a f r fa mp k
    obtain ⟨F, h1, h0⟩ := any_out h
    obtain ⟨R, h2, h0⟩ := any_out h0
    obtain ⟨h3, h0⟩ := gd_out h0
    obtain ⟨h4, h0⟩ := gd_out h0
    obtain ⟨h5, h0⟩ := gd_out h0
    cases h0
    obtain ⟨rfl, hl⟩ := Cod.decs_inv h1
    obtain ⟨rfl, hl2⟩ := Cod.decs_inv h2
    obtain ⟨k0, k1⟩ := inR_out h5
    obtain ⟨K, rfl⟩ := Int.eq_ofNat_of_zero_le k0
    refine impl_reach_word.ev (n := F.length) ?_
    have key := impl_reach_word.l2_run (n := F.length) (a := a) (fa := fa) (mp := mp) h3 (of_decide_eq_true h4) F.length K [] (by omega) (by omega) (by simp; omega)
    rw [List.nil_append, wrev_fuel h3 _ (K + 1) F.length (K : Int) (by omega) (by omega) (by omega) (by omega)] at key
    refine Eq.trans key ?_
    unfold outW w60 wordF
    rw [List.length_reverse]
  · cases h
/-! impl_WayToTop_1 -/
noncomputable def impl_WayToTop_1.cfg : Cfg := { C0 with keep := fun _ => none, nb := 0, M := tabM [(77, impl_State_isAt.stub)], MM := tabB [] }
noncomputable def impl_WayToTop_1.res (n : Nat) (a0_0 : Int) (a0_1 : Int) (a0_2 : Int) (a0_3 : Int) (a0_4 : Int) (a0_5 : Int) (a0_6 : Int) (a0_7 : Int) (px : Int) (py : Int) (pt : Int) : Option (List Q) :=
  bif decide (a0_0 = px) && decide (a0_1 = py) then some [Q.one (D.bool (a0_2 == pt))] else some [Q.one (D.bool false)]
theorem impl_WayToTop_1.run (n : Nat) (a0_0 : Int) (a0_1 : Int) (a0_2 : Int) (a0_3 : Int) (a0_4 : Int) (a0_5 : Int) (a0_6 : Int) (a0_7 : Int) (px : Int) (py : Int) (pt : Int) :
    run1 impl_WayToTop_1.cfg [RK.one LK.bool] n Tryd.f76 [Q.agg [D.int IntKind.i64 a0_0, D.int IntKind.i64 a0_1, D.int IntKind.i64 a0_2, D.int IntKind.i64 a0_3, D.int IntKind.i64 a0_4, D.int IntKind.i64 a0_5, D.int IntKind.i64 a0_6, D.int IntKind.i64 a0_7], Q.one (D.pt [D.int IntKind.i64 px]), Q.one (D.pt [D.int IntKind.i64 py]), Q.one (D.pt [D.int IntKind.i64 pt])] = impl_WayToTop_1.res n a0_0 a0_1 a0_2 a0_3 a0_4 a0_5 a0_6 a0_7 px py pt := by kernel_rfl
theorem impl_WayToTop_1.ev {n : Nat} {a0_0 : Int} {a0_1 : Int} {a0_2 : Int} {a0_3 : Int} {a0_4 : Int} {a0_5 : Int} {a0_6 : Int} {a0_7 : Int} {px : Int} {py : Int} {pt : Int} {r : List Q} (h : impl_WayToTop_1.res n a0_0 a0_1 a0_2 a0_3 a0_4 a0_5 a0_6 a0_7 px py pt = some r) : Snd Tryd.prog C0 76 [.agg [.int .i64 a0_0, .int .i64 a0_1, .int .i64 a0_2, .int .i64 a0_3, .int .i64 a0_4, .int .i64 a0_5, .int .i64 a0_6, .int .i64 a0_7], .one (.pt [.int .i64 px]), .one (.pt [.int .i64 py]), .one (.pt [.int .i64 pt])] r :=
  snd_ev (C := impl_WayToTop_1.cfg) cfg0 mix rfl rfl rfl rfl rfl (.cons impl_State_isAt.ok .nil) .nil rfl Tryd.func76 (by kernel_rfl) (by kernel_rfl) rfl ((impl_WayToTop_1.run n a0_0 a0_1 a0_2 a0_3 a0_4 a0_5 a0_6 a0_7 px py pt).trans h)

def impl_WayToTop_1.stub : Stub
  | [.agg [.int .i64 x, .int .i64 y, .int .i64 t, .int .i64 n, .int .i64 e, .int .i64 s, .int .i64 w, .int .i64 b], .one (.pt [.int .i64 px]), .one (.pt [.int .i64 py]), .one (.pt [.int .i64 pt])] => .ret [.one (.bool (Sp.doneS px py pt ⟨x, y, ⟨t, n, e, s, w, b⟩⟩))]
  | _ => .fail
theorem impl_WayToTop_1.ok : StubOk Tryd.prog C0 76 impl_WayToTop_1.stub := by
  intro args res h
  unfold impl_WayToTop_1.stub at h
  split at h
  · rename_i x y t n e s w b px py pt
    cases h
    refine impl_WayToTop_1.ev (n := 0) ?_
    unfold impl_WayToTop_1.res doneS
    simp only [ieq]
    cases decide (x = px) <;> cases decide (y = py) <;> rfl
  · cases h
/-! IndexFuncW -/
noncomputable def IndexFuncW.cfg : Cfg := { C0 with keep := fun | 2 => some [0, 1, 7, 8] | _ => none, nb := 0, M := tabM [(76, impl_WayToTop_1.stub)], MM := tabB [] }
noncomputable def IndexFuncW.l2 (n : Nat) (m2 : Nat) (l0 : List (List D)) (i1 : Int) (i2 : Int) (i3 : Int) (i4 : Int) (i5 : Int) : Option (List Q) :=
  loopAt IndexFuncW.cfg [RK.one (LK.int IntKind.i64)] n Tryd.f100 [1, 0, 1, 0] [] m2 (St.mk [V.one false (D.sl (8 : Nat) l0), V.one false (D.fn (76 : Nat) [] [D.pt [D.int IntKind.i64 i1], D.pt [D.int IntKind.i64 i2], D.pt [D.int IntKind.i64 i3]]), V.undef, V.undef, V.undef, V.undef, V.undef, V.one true (D.int IntKind.i64 i4), V.one true (D.int IntKind.i64 i5), V.undef, V.undef, V.undef, V.undef, V.undef, V.undef, V.undef, V.undef, V.undef, V.undef] [])
theorem IndexFuncW.l2_eq (n : Nat) (m2 : Nat) (l0 : List (List D)) (i1 : Int) (i2 : Int) (i3 : Int) (i4 : Int) (i5 : Int) :
    IndexFuncW.l2 n (m2 + 1) l0 i1 i2 i3 i4 i5 = bif decide (i5 < i4) then bif decide ((0 : Int) ≤ i5) then bif decide (i5 < (↑(List.length l0) : Int)) then Option.bind (Option.bind (some (cellD l0 (Int.toNat i5) (0 : Nat))) (D.int? IntKind.i64)) fun (i1_1 : Int) => Option.bind (Option.bind (some (cellD l0 (Int.toNat i5) (1 : Nat))) (D.int? IntKind.i64)) fun (i2_1 : Int) => Option.bind (Option.bind (some (cellD l0 (Int.toNat i5) (2 : Nat))) (D.int? IntKind.i64)) fun (i3_1 : Int) => Option.bind (Option.bind (some (cellD l0 (Int.toNat i5) (3 : Nat))) (D.int? IntKind.i64)) fun (i4_1 : Int) => Option.bind (Option.bind (some (cellD l0 (Int.toNat i5) (4 : Nat))) (D.int? IntKind.i64)) fun (i5_1 : Int) => Option.bind (Option.bind (some (cellD l0 (Int.toNat i5) (5 : Nat))) (D.int? IntKind.i64)) fun (i6 : Int) => Option.bind (Option.bind (some (cellD l0 (Int.toNat i5) (6 : Nat))) (D.int? IntKind.i64)) fun (i7 : Int) => Option.bind (Option.bind (some (cellD l0 (Int.toNat i5) (7 : Nat))) (D.int? IntKind.i64)) fun (i8 : Int) => bif doneS i1 i2 i3 (Sta.mk i1_1 i2_1 (Die.mk i3_1 i4_1 i5_1 i6 i7 i8)) then some [Q.one (D.int IntKind.i64 i5)] else IndexFuncW.l2 n m2 l0 i1 i2 i3 i4 (IntKind.wrap IntKind.i64 (i5 + (1 : Int))) else none else none else some [Q.one (D.int IntKind.i64 (-1 : Int))] := by kernel_rfl
noncomputable def IndexFuncW.res (n : Nat) (a0 : List (List D)) (px : Int) (py : Int) (pt : Int) : Option (List Q) :=
  IndexFuncW.l2 n n a0 px py pt (↑(List.length a0) : Int) (0 : Int)
theorem IndexFuncW.run (n : Nat) (a0 : List (List D)) (px : Int) (py : Int) (pt : Int) :
    run1 IndexFuncW.cfg [RK.one (LK.int IntKind.i64)] n Tryd.f100 [Q.one (D.sl (8 : Nat) a0), Q.one (D.fn (76 : FuncId) [] [D.pt [D.int IntKind.i64 px], D.pt [D.int IntKind.i64 py], D.pt [D.int IntKind.i64 pt]])] = IndexFuncW.res n a0 px py pt := by kernel_rfl
theorem IndexFuncW.ev {n : Nat} {a0 : List (List D)} {px : Int} {py : Int} {pt : Int} {r : List Q} (h : IndexFuncW.res n a0 px py pt = some r) : Snd Tryd.prog C0 100 [.one (.sl 8 a0), .one (.fn 76 [] [.pt [.int .i64 px], .pt [.int .i64 py], .pt [.int .i64 pt]])] r :=
  snd_ev (C := IndexFuncW.cfg) cfg0 mix rfl rfl rfl rfl rfl (.cons impl_WayToTop_1.ok .nil) .nil rfl Tryd.func100 (by kernel_rfl) (by kernel_rfl) rfl ((IndexFuncW.run n a0 px py pt).trans h)

theorem IndexFuncW.l2_run {n : Nat} {px py pt : Int} {L : List Sta} (hL : L.length ≤ LIM) : ∀ (d i m : Nat), i + d = L.length → d < m →
    IndexFuncW.l2 n m (stC.encs L) px py pt ((L.length : Nat) : Int) (i : Int) = some [Q.one (.int .i64 (ixO (firstAt px py pt (L.drop i) i)))] := by
  intro d
  induction d with
  | zero =>
    intro i m hi hm
    obtain ⟨m, rfl⟩ : ∃ m', m = m' + 1 := ⟨m - 1, by omega⟩
    have h1 : ¬ (i : Int) < ((L.length : Nat) : Int) := by omega
    rw [IndexFuncW.l2_eq, List.drop_of_length_le (by omega)]
    simp only [h1, decide_false, cond_false]
    rfl
  | succ d ih =>
    intro i m hi hm
    obtain ⟨m, rfl⟩ : ∃ m', m = m' + 1 := ⟨m - 1, by omega⟩
    have hlt : i < L.length := by omega
    have h1 : (i : Int) < ((L.length : Nat) : Int) := by omega
    obtain ⟨c0, c1, c2, c3, c4, c5, c6, c7⟩ := st_cells hlt
    have step := ih (i + 1) m (by omega) (by omega)
    rw [IndexFuncW.l2_eq, List.drop_eq_getElem_cons hlt, firstAt]
    simp only [h1, Cod.encs_len, Int.natCast_nonneg, Int.toNat_natCast, decide_true, cond_true, c0, c1, c2, c3, c4, c5, c6, c7, Option.bind_some, Die.eta, wrap_succ (show i ≤ LIM by omega), step]
    rw [show (Sta.mk L[i].x L[i].y L[i].d) = L[i] from rfl]
    cases doneS px py pt L[i] <;> rfl
def IndexFuncW.stub : Stub
  | [.one (.sl 8 es), .one (.fn g [] [.pt [.int .i64 px], .pt [.int .i64 py], .pt [.int .i64 pt]])] => .gd (Nat.beq g 76) (.any (stC.decs es) fun l => .ret [.one (.int .i64 (Sp.ixO (Sp.firstU px py pt l 0)))])
  | _ => .fail
theorem IndexFuncW.ok : StubOk Tryd.prog C0 100 IndexFuncW.stub := by
  intro args res h
  unfold IndexFuncW.stub at h
  split at h
  · rename_i es g px py pt
    obtain ⟨h0, h⟩ := gd_out h
    obtain rfl := Nat.eq_of_beq_eq_true h0
    obtain ⟨l, h1, h0⟩ := any_out h
    obtain ⟨rfl, hl⟩ := Cod.decs_inv h1
    cases h0
    refine IndexFuncW.ev (n := l.length + 1) ?_
    unfold IndexFuncW.res
    rw [Cod.encs_len]
    exact IndexFuncW.l2_run (n := l.length + 1) hl l.length 0 (l.length + 1) (by omega) (by omega)
  · cases h
/-! impl_reach_wordTo -/
noncomputable def impl_reach_wordTo.cfg : Cfg := { C0 with keep := fun _ => none, nb := 0, M := tabM [(101, impl_reach_word.stub), (100, IndexFuncW.stub)], MM := tabB [] }
noncomputable def impl_reach_wordTo.res (n : Nat) (a : List (List D)) (f : List (List D)) (rr : List (List D)) (fa : List (List D)) (mp : List (List D × List D)) (px : Int) (py : Int) (pt : Int) : Option (List Q) :=
  Option.bind (Cod.decs stC a) fun (l1 : List Sta) => bif decide (ixO (firstU px py pt l1 (0 : Nat)) < (0 : Int)) then some [Q.one (D.str (ByteArray.mk #[])), Q.one (D.bool false)] else Option.bind (Cod.decs intC f) fun (l2 : List Int) => Option.bind (Cod.decs u8C rr) fun (l3 : List UInt8) => bif lnkB l2 then bif decide (List.length l2 = List.length l3) then bif inR (ixO (firstU px py pt l1 (0 : Nat))) (0 : Int) ((↑(List.length l2) : Int) - (1 : Int)) then some [Q.one (D.str (mkO (w60 l2 l3 (ixO (firstU px py pt l1 (0 : Nat)))))), Q.one (D.bool (isSO (w60 l2 l3 (ixO (firstU px py pt l1 (0 : Nat))))))] else none else none else none
theorem impl_reach_wordTo.run (n : Nat) (a : List (List D)) (f : List (List D)) (rr : List (List D)) (fa : List (List D)) (mp : List (List D × List D)) (px : Int) (py : Int) (pt : Int) :
    run1 impl_reach_wordTo.cfg [RK.one LK.str, RK.one LK.bool] n Tryd.f75 [Q.one (D.pt [D.sl (8 : Nat) a, D.sl (1 : Nat) f, D.sl (1 : Nat) rr, D.sl (1 : Nat) fa, D.mp mp]), Q.one (D.fn (76 : FuncId) [] [D.pt [D.int IntKind.i64 px], D.pt [D.int IntKind.i64 py], D.pt [D.int IntKind.i64 pt]])] = impl_reach_wordTo.res n a f rr fa mp px py pt := by kernel_rfl
theorem impl_reach_wordTo.ev {n : Nat} {a : List (List D)} {f : List (List D)} {rr : List (List D)} {fa : List (List D)} {mp : List (List D × List D)} {px : Int} {py : Int} {pt : Int} {r : List Q} (h : impl_reach_wordTo.res n a f rr fa mp px py pt = some r) : Snd Tryd.prog C0 75 [.one (.pt [.sl 8 a, .sl 1 f, .sl 1 rr, .sl 1 fa, .mp mp]), .one (.fn 76 [] [.pt [.int .i64 px], .pt [.int .i64 py], .pt [.int .i64 pt]])] r :=
  snd_ev (C := impl_reach_wordTo.cfg) cfg0 mix rfl rfl rfl rfl rfl (.cons impl_reach_word.ok (.cons IndexFuncW.ok .nil)) .nil rfl Tryd.func75 (by kernel_rfl) (by kernel_rfl) rfl ((impl_reach_wordTo.run n a f rr fa mp px py pt).trans h)

def impl_reach_wordTo.stub : Stub
  | [.one (.pt [.sl 8 es, .sl 1 f, .sl 1 r, .sl 1 _, .mp _]), .one (.fn g [] [.pt [.int .i64 px], .pt [.int .i64 py], .pt [.int .i64 pt]])] => .gd (Nat.beq g 76) (.any (stC.decs es) fun l => .any (intC.decs f) fun F => .any (u8C.decs r) fun R => .gd (Sp.lnkB F) (.gd (decide (F.length = R.length)) (.gd (decide (l.length = R.length)) (.ret [.one (.str (Sp.mkO (Sp.frsU px py pt l F R))), .one (.bool (Sp.isSO (Sp.frsU px py pt l F R)))]))))
  | _ => .fail
theorem impl_reach_wordTo.ok : StubOk Tryd.prog C0 75 impl_reach_wordTo.stub := by
  intro args res h
  unfold impl_reach_wordTo.stub at h
  split at h
  · rename_i es f r fa mp g px py pt
    obtain ⟨h0, h⟩ := gd_out h
    obtain rfl := Nat.eq_of_beq_eq_true h0
    obtain ⟨l, h1, h0⟩ := any_out h
    obtain ⟨F, h2, h0⟩ := any_out h0
    obtain ⟨R, h3, h0⟩ := any_out h0
    obtain ⟨h4, h0⟩ := gd_out h0
    obtain ⟨h5, h0⟩ := gd_out h0
    obtain ⟨h6, h0⟩ := gd_out h0
    cases h0
    refine impl_reach_wordTo.ev (n := 0) ?_
    unfold impl_reach_wordTo.res frsU firstU
    rw [h1, h2, h3]
    simp only [Option.bind_some, h4, h5, cond_true]
    have h5 := of_decide_eq_true h5
    have h6 := of_decide_eq_true h6
    cases ho : firstAt px py pt l 0 with
    | none => rfl
    | some k =>
      obtain ⟨_, hk⟩ := firstAt_lt _ _ _ _ _ _ ho
      have g1 : ¬ (k : Int) < 0 := by omega
      have g2 : inR (k : Int) 0 ((F.length : Int) - 1) = true := by
        unfold inR
        rw [Bool.and_eq_true, decide_eq_true_eq, decide_eq_true_eq]; omega
      simp only [show ixO (some k) = (k : Int) from rfl, g1, g2, decide_false, cond_false, cond_true, Option.bind_some]
  · cases h
/-! impl_reachOn -/
noncomputable def impl_reachOn.cfg : Cfg := { C0 with keep := fun _ => none, nb := 0, M := tabM [(73, impl_onBoard.stub), (103, impl_reached.stub)], MM := tabB [] }
noncomputable def impl_reachOn.res (n : Nat) (a0 : ByteArray) (a1_0 : Int) (a1_1 : Int) (a1_2 : Int) (a1_3 : Int) (a1_4 : Int) (a1_5 : Int) (a1_6 : Int) (a1_7 : Int) : Option (List Q) :=
  bif decide (ByteArray.size a0 < (17179869184 : Nat)) then bif !(isBo brd a0 && (Die.good (Die.mk a1_2 a1_3 a1_4 a1_5 a1_6 a1_7) && isFl (rws a0) a1_0 a1_1)) then some [Q.one D.nilp, Q.one (D.bool false)] else Option.bind (Cod.decs strC (Cod.encs strC (gridI brd a0))) fun (l1 : List ByteArray) => bif unif (lb l1) then bif smallR l1 then bif inR a1_0 (0 : Int) ((↑(wOf (lb l1)) : Int) - (1 : Int)) then bif inR a1_1 (0 : Int) ((↑(List.length (lb l1)) : Int) - (1 : Int)) then bif Die.good (Die.mk a1_2 a1_3 a1_4 a1_5 a1_6 a1_7) then some [Q.one (D.pt [D.sl (8 : Nat) (Cod.encs stC (usC (wyC (isFl (lb l1)) (Sta.mk a1_0 a1_1 (Die.mk a1_2 a1_3 a1_4 a1_5 a1_6 a1_7))))), D.sl (1 : Nat) (Cod.encs intC (besC (wyC (isFl (lb l1)) (Sta.mk a1_0 a1_1 (Die.mk a1_2 a1_3 a1_4 a1_5 a1_6 a1_7))))), D.sl (1 : Nat) (Cod.encs u8C (rlsC (wyC (isFl (lb l1)) (Sta.mk a1_0 a1_1 (Die.mk a1_2 a1_3 a1_4 a1_5 a1_6 a1_7))))), D.sl (1 : Nat) (Cod.encs intC (fasC (wyC (isFl (lb l1)) (Sta.mk a1_0 a1_1 (Die.mk a1_2 a1_3 a1_4 a1_5 a1_6 a1_7))))), D.mp (plU (usC (wyC (isFl (lb l1)) (Sta.mk a1_0 a1_1 (Die.mk a1_2 a1_3 a1_4 a1_5 a1_6 a1_7)))))]), Q.one (D.bool true)] else none else none else none else none else none else none
theorem impl_reachOn.run (n : Nat) (a0 : ByteArray) (a1_0 : Int) (a1_1 : Int) (a1_2 : Int) (a1_3 : Int) (a1_4 : Int) (a1_5 : Int) (a1_6 : Int) (a1_7 : Int) :
    run1 impl_reachOn.cfg [RK.one (LK.nl D.nilp), RK.one LK.bool] n Tryd.f81 [Q.one (D.str a0), Q.agg [D.int IntKind.i64 a1_0, D.int IntKind.i64 a1_1, D.int IntKind.i64 a1_2, D.int IntKind.i64 a1_3, D.int IntKind.i64 a1_4, D.int IntKind.i64 a1_5, D.int IntKind.i64 a1_6, D.int IntKind.i64 a1_7]] = impl_reachOn.res n a0 a1_0 a1_1 a1_2 a1_3 a1_4 a1_5 a1_6 a1_7 := by kernel_rfl
theorem impl_reachOn.ev {n : Nat} {a0 : ByteArray} {a1_0 : Int} {a1_1 : Int} {a1_2 : Int} {a1_3 : Int} {a1_4 : Int} {a1_5 : Int} {a1_6 : Int} {a1_7 : Int} {r : List Q} (h : impl_reachOn.res n a0 a1_0 a1_1 a1_2 a1_3 a1_4 a1_5 a1_6 a1_7 = some r) : Snd Tryd.prog C0 81 [.one (.str a0), .agg [.int .i64 a1_0, .int .i64 a1_1, .int .i64 a1_2, .int .i64 a1_3, .int .i64 a1_4, .int .i64 a1_5, .int .i64 a1_6, .int .i64 a1_7]] r :=
  snd_ev (C := impl_reachOn.cfg) cfg0 mix rfl rfl rfl rfl rfl (.cons impl_onBoard.ok (.cons impl_reached.ok .nil)) .nil rfl Tryd.func81 (by kernel_rfl) (by kernel_rfl) rfl ((impl_reachOn.run n a0 a1_0 a1_1 a1_2 a1_3 a1_4 a1_5 a1_6 a1_7).trans h)

def impl_reachOn.stub : Stub
  | [.one (.str q), .agg [.int .i64 x, .int .i64 y, .int .i64 t, .int .i64 n, .int .i64 e, .int .i64 s, .int .i64 w, .int .i64 b]] => .gd (decide (q.size < LIM)) (.ite (Sp.okSt q ⟨x, y, ⟨t, n, e, s, w, b⟩⟩) (.ret [.one (.pt [.sl 8 (stC.encs (Sp.usC (Sp.wyC (Sp.isFl (Sp.rws q)) ⟨x, y, ⟨t, n, e, s, w, b⟩⟩))), .sl 1 (intC.encs (Sp.besC (Sp.wyC (Sp.isFl (Sp.rws q)) ⟨x, y, ⟨t, n, e, s, w, b⟩⟩))), .sl 1 (u8C.encs (Sp.rlsC (Sp.wyC (Sp.isFl (Sp.rws q)) ⟨x, y, ⟨t, n, e, s, w, b⟩⟩))), .sl 1 (intC.encs (Sp.fasC (Sp.wyC (Sp.isFl (Sp.rws q)) ⟨x, y, ⟨t, n, e, s, w, b⟩⟩))), .mp (Sp.plU (Sp.usC (Sp.wyC (Sp.isFl (Sp.rws q)) ⟨x, y, ⟨t, n, e, s, w, b⟩⟩)))]), .one (.bool true)]) (.ret [.one .nilp, .one (.bool false)]))
  | _ => .fail
theorem impl_reachOn.ok : StubOk Tryd.prog C0 81 impl_reachOn.stub := by
  intro args res h
  unfold impl_reachOn.stub at h
  split at h
  · rename_i q x y t n e s w b
    obtain ⟨hs, h0⟩ := gd_out h
    have h0 := ite_out h0
    refine impl_reachOn.ev (n := 0) ?_
    unfold LIM at hs
    unfold impl_reachOn.res
    rw [hs, show (isBo brd q && (Die.good ⟨t, n, e, s, w, b⟩ && isFl (rws q) x y)) = okSt q ⟨x, y, ⟨t, n, e, s, w, b⟩⟩ from rfl]
    cases ho : okSt q ⟨x, y, ⟨t, n, e, s, w, b⟩⟩ with
    | false => rw [ho] at h0; exact h0
    | true =>
      rw [ho] at h0
      obtain ⟨hb, hg, hfl, _, _⟩ := okSt_out ho
      obtain ⟨g1, g2, g3, g4, g5, g6⟩ := Sp.gr_ok hb
      have hfl : isFl (rws q) x y = true := hfl
      obtain ⟨x0, x1, y0, y1⟩ := isFl_out hfl
      have gx : inR x 0 ((wOf (rws q) : Int) - 1) = true := by
        unfold inR
        rw [Bool.and_eq_true, decide_eq_true_eq, decide_eq_true_eq]; omega
      have gy : inR y 0 (((rws q).length : Int) - 1) = true := by
        unfold inR
        rw [Bool.and_eq_true, decide_eq_true_eq, decide_eq_true_eq]; omega
      have hg : Die.good ⟨t, n, e, s, w, b⟩ = true := hg
      simp only [Bool.not_true, cond_false, cond_true, g5, Option.bind_some, g1, g2, small_gr hb, gx, gy, hg]
      exact h0
  · cases h
/-! impl_reachCell -/
noncomputable def impl_reachCell.cfg : Cfg := { C0 with keep := fun _ => none, nb := 0, M := tabM [(81, impl_reachOn.stub), (49, impl_board.stub), (85, impl_grid_has.stub)], MM := tabB [] }
noncomputable def impl_reachCell.res (n : Nat) (a0 : ByteArray) (a1_0 : Int) (a1_1 : Int) (a1_2 : Int) (a1_3 : Int) (a1_4 : Int) (a1_5 : Int) (a1_6 : Int) (a1_7 : Int) (a2 : Int) (a3 : Int) : Option (List Q) :=
  bif decide (ByteArray.size a0 < (17179869184 : Nat)) then bif okSt a0 (Sta.mk a1_0 a1_1 (Die.mk a1_2 a1_3 a1_4 a1_5 a1_6 a1_7)) then bif decide (ByteArray.size a0 < (17179869184 : Nat)) then Option.bind (Cod.decs strC (Cod.encs strC (gridI brd a0))) fun (l1 : List ByteArray) => bif decide (List.length l1 ≤ (17179869184 : Nat)) then bif decide (wOf (lb l1) ≤ (17179869184 : Nat)) then bif !(inR a3 (0 : Int) ((↑(List.length l1) : Int) - (1 : Int)) && inR a2 (0 : Int) ((↑(wOf (lb l1)) : Int) - (1 : Int))) then some [Q.one D.nilp, Q.one (D.bool false)] else some [Q.one (D.pt [D.sl (8 : Nat) (Cod.encs stC (usC (wyC (isFl (rws a0)) (Sta.mk a1_0 a1_1 (Die.mk a1_2 a1_3 a1_4 a1_5 a1_6 a1_7))))), D.sl (1 : Nat) (Cod.encs intC (besC (wyC (isFl (rws a0)) (Sta.mk a1_0 a1_1 (Die.mk a1_2 a1_3 a1_4 a1_5 a1_6 a1_7))))), D.sl (1 : Nat) (Cod.encs u8C (rlsC (wyC (isFl (rws a0)) (Sta.mk a1_0 a1_1 (Die.mk a1_2 a1_3 a1_4 a1_5 a1_6 a1_7))))), D.sl (1 : Nat) (Cod.encs intC (fasC (wyC (isFl (rws a0)) (Sta.mk a1_0 a1_1 (Die.mk a1_2 a1_3 a1_4 a1_5 a1_6 a1_7))))), D.mp (plU (usC (wyC (isFl (rws a0)) (Sta.mk a1_0 a1_1 (Die.mk a1_2 a1_3 a1_4 a1_5 a1_6 a1_7)))))]), Q.one (D.bool true)] else none else none else none else bif decide (ByteArray.size a0 < (17179869184 : Nat)) then some [Q.one D.nilp, Q.one (D.bool false)] else none else none
theorem impl_reachCell.run (n : Nat) (a0 : ByteArray) (a1_0 : Int) (a1_1 : Int) (a1_2 : Int) (a1_3 : Int) (a1_4 : Int) (a1_5 : Int) (a1_6 : Int) (a1_7 : Int) (a2 : Int) (a3 : Int) :
    run1 impl_reachCell.cfg [RK.one (LK.nl D.nilp), RK.one LK.bool] n Tryd.f74 [Q.one (D.str a0), Q.agg [D.int IntKind.i64 a1_0, D.int IntKind.i64 a1_1, D.int IntKind.i64 a1_2, D.int IntKind.i64 a1_3, D.int IntKind.i64 a1_4, D.int IntKind.i64 a1_5, D.int IntKind.i64 a1_6, D.int IntKind.i64 a1_7], Q.one (D.int IntKind.i64 a2), Q.one (D.int IntKind.i64 a3)] = impl_reachCell.res n a0 a1_0 a1_1 a1_2 a1_3 a1_4 a1_5 a1_6 a1_7 a2 a3 := by kernel_rfl
theorem impl_reachCell.ev {n : Nat} {a0 : ByteArray} {a1_0 : Int} {a1_1 : Int} {a1_2 : Int} {a1_3 : Int} {a1_4 : Int} {a1_5 : Int} {a1_6 : Int} {a1_7 : Int} {a2 : Int} {a3 : Int} {r : List Q} (h : impl_reachCell.res n a0 a1_0 a1_1 a1_2 a1_3 a1_4 a1_5 a1_6 a1_7 a2 a3 = some r) : Snd Tryd.prog C0 74 [.one (.str a0), .agg [.int .i64 a1_0, .int .i64 a1_1, .int .i64 a1_2, .int .i64 a1_3, .int .i64 a1_4, .int .i64 a1_5, .int .i64 a1_6, .int .i64 a1_7], .one (.int .i64 a2), .one (.int .i64 a3)] r :=
  snd_ev (C := impl_reachCell.cfg) cfg0 mix rfl rfl rfl rfl rfl (.cons impl_reachOn.ok (.cons impl_board.ok (.cons impl_grid_has.ok .nil))) .nil rfl Tryd.func74 (by kernel_rfl) (by kernel_rfl) rfl ((impl_reachCell.run n a0 a1_0 a1_1 a1_2 a1_3 a1_4 a1_5 a1_6 a1_7 a2 a3).trans h)

def impl_reachCell.stub : Stub
  | [.one (.str q), .agg [.int .i64 x, .int .i64 y, .int .i64 t, .int .i64 n, .int .i64 e, .int .i64 s, .int .i64 w, .int .i64 b], .one (.int .i64 px), .one (.int .i64 py)] => .gd (decide (q.size < LIM)) (.gd (Sp.okSt q ⟨x, y, ⟨t, n, e, s, w, b⟩⟩) (.gd (Sp.isFl (Sp.rws q) px py) (.ret [.one (.pt [.sl 8 (stC.encs (Sp.usC (Sp.wyC (Sp.isFl (Sp.rws q)) ⟨x, y, ⟨t, n, e, s, w, b⟩⟩))), .sl 1 (intC.encs (Sp.besC (Sp.wyC (Sp.isFl (Sp.rws q)) ⟨x, y, ⟨t, n, e, s, w, b⟩⟩))), .sl 1 (u8C.encs (Sp.rlsC (Sp.wyC (Sp.isFl (Sp.rws q)) ⟨x, y, ⟨t, n, e, s, w, b⟩⟩))), .sl 1 (intC.encs (Sp.fasC (Sp.wyC (Sp.isFl (Sp.rws q)) ⟨x, y, ⟨t, n, e, s, w, b⟩⟩))), .mp (Sp.plU (Sp.usC (Sp.wyC (Sp.isFl (Sp.rws q)) ⟨x, y, ⟨t, n, e, s, w, b⟩⟩)))]), .one (.bool true)])))
  | _ => .fail
theorem impl_reachCell.ok : StubOk Tryd.prog C0 74 impl_reachCell.stub := by
  intro args res h
  unfold impl_reachCell.stub at h
  split at h
  · rename_i q x y t n e s w b px py
    obtain ⟨hs, h0⟩ := gd_out h
    obtain ⟨ho, h0⟩ := gd_out h0
    obtain ⟨hf, h0⟩ := gd_out h0
    refine impl_reachCell.ev (n := 0) ?_
    unfold LIM at hs
    unfold impl_reachCell.res
    obtain ⟨hb, hg, hfl, _, _⟩ := okSt_out ho
    obtain ⟨g1, g2, g3, g4, g5, g6⟩ := Sp.gr_ok hb
    obtain ⟨x0, x1, y0, y1⟩ := isFl_out hf
    obtain ⟨k1, k2, _, _⟩ := small_w (small_gr hb)
    rw [g1] at k2
    have gx : inR px 0 ((wOf (rws q) : Int) - 1) = true := by
      unfold inR
      rw [Bool.and_eq_true, decide_eq_true_eq, decide_eq_true_eq]; omega
    have gy : inR py 0 (((gridI brd q).length : Int) - 1) = true := by
      unfold inR
      rw [Bool.and_eq_true, decide_eq_true_eq, decide_eq_true_eq]; omega
    simp only [hs, ho, g5, Option.bind_some, g1, k1, k2, gx, gy, decide_true, cond_true, Bool.and_self, Bool.not_true, cond_false]
    exact h0
  · cases h
/-! impl_WayToTop -/
noncomputable def impl_WayToTop.cfg : Cfg := { C0 with keep := fun _ => none, nb := 0, M := tabM [(74, impl_reachCell.stub), (67, impl_in.stub), (75, impl_reach_wordTo.stub)], MM := tabB [] }
noncomputable def impl_WayToTop.res (n : Nat) (a0 : ByteArray) (a1_0 : Int) (a1_1 : Int) (a1_2 : Int) (a1_3 : Int) (a1_4 : Int) (a1_5 : Int) (a1_6 : Int) (a1_7 : Int) (a2 : Int) (a3 : Int) (a4 : Int) : Option (List Q) :=
  bif decide (ByteArray.size a0 < (17179869184 : Nat)) then bif okSt a0 (Sta.mk a1_0 a1_1 (Die.mk a1_2 a1_3 a1_4 a1_5 a1_6 a1_7)) then bif isFl (rws a0) a2 a3 then bif !inR a4 (0 : Int) (9 : Int) then some [Q.one (D.str (ByteArray.mk #[])), Q.one (D.bool false)] else Option.bind (Cod.decs stC (Cod.encs stC (usC (wyC (isFl (rws a0)) (Sta.mk a1_0 a1_1 (Die.mk a1_2 a1_3 a1_4 a1_5 a1_6 a1_7)))))) fun (l1 : List Sta) => Option.bind (Cod.decs intC (Cod.encs intC (besC (wyC (isFl (rws a0)) (Sta.mk a1_0 a1_1 (Die.mk a1_2 a1_3 a1_4 a1_5 a1_6 a1_7)))))) fun (l2 : List Int) => Option.bind (Cod.decs u8C (Cod.encs u8C (rlsC (wyC (isFl (rws a0)) (Sta.mk a1_0 a1_1 (Die.mk a1_2 a1_3 a1_4 a1_5 a1_6 a1_7)))))) fun (l3 : List UInt8) => bif lnkB l2 then bif decide (List.length l2 = List.length l3) then bif decide (List.length l1 = List.length l3) then some [Q.one (D.str (mkO (frsU a2 a3 a4 l1 l2 l3))), Q.one (D.bool (isSO (frsU a2 a3 a4 l1 l2 l3)))] else none else none else none else none else none else none
theorem impl_WayToTop.run (n : Nat) (a0 : ByteArray) (a1_0 : Int) (a1_1 : Int) (a1_2 : Int) (a1_3 : Int) (a1_4 : Int) (a1_5 : Int) (a1_6 : Int) (a1_7 : Int) (a2 : Int) (a3 : Int) (a4 : Int) :
    run1 impl_WayToTop.cfg [RK.one LK.str, RK.one LK.bool] n Tryd.f41 [Q.one (D.str a0), Q.agg [D.int IntKind.i64 a1_0, D.int IntKind.i64 a1_1, D.int IntKind.i64 a1_2, D.int IntKind.i64 a1_3, D.int IntKind.i64 a1_4, D.int IntKind.i64 a1_5, D.int IntKind.i64 a1_6, D.int IntKind.i64 a1_7], Q.one (D.int IntKind.i64 a2), Q.one (D.int IntKind.i64 a3), Q.one (D.int IntKind.i64 a4)] = impl_WayToTop.res n a0 a1_0 a1_1 a1_2 a1_3 a1_4 a1_5 a1_6 a1_7 a2 a3 a4 := by kernel_rfl
theorem impl_WayToTop.ev {n : Nat} {a0 : ByteArray} {a1_0 : Int} {a1_1 : Int} {a1_2 : Int} {a1_3 : Int} {a1_4 : Int} {a1_5 : Int} {a1_6 : Int} {a1_7 : Int} {a2 : Int} {a3 : Int} {a4 : Int} {r : List Q} (h : impl_WayToTop.res n a0 a1_0 a1_1 a1_2 a1_3 a1_4 a1_5 a1_6 a1_7 a2 a3 a4 = some r) : Snd Tryd.prog C0 41 [.one (.str a0), .agg [.int .i64 a1_0, .int .i64 a1_1, .int .i64 a1_2, .int .i64 a1_3, .int .i64 a1_4, .int .i64 a1_5, .int .i64 a1_6, .int .i64 a1_7], .one (.int .i64 a2), .one (.int .i64 a3), .one (.int .i64 a4)] r :=
  snd_ev (C := impl_WayToTop.cfg) cfg0 mix rfl rfl rfl rfl rfl (.cons impl_reachCell.ok (.cons impl_in.ok (.cons impl_reach_wordTo.ok .nil))) .nil rfl Tryd.func41 (by kernel_rfl) (by kernel_rfl) rfl ((impl_WayToTop.run n a0 a1_0 a1_1 a1_2 a1_3 a1_4 a1_5 a1_6 a1_7 a2 a3 a4).trans h)

def impl_WayToTop.stub : Stub
  | [.one (.str q), .agg [.int .i64 x, .int .i64 y, .int .i64 t, .int .i64 n, .int .i64 e, .int .i64 s, .int .i64 w, .int .i64 b], .one (.int .i64 px), .one (.int .i64 py), .one (.int .i64 pt)] => .gd (decide (q.size < LIM)) (.gd (Sp.pzOk q ⟨x, y, ⟨t, n, e, s, w, b⟩⟩ px py pt) (.ret [.one (.str (Sp.mkO (Sp.solF q ⟨x, y, ⟨t, n, e, s, w, b⟩⟩ px py pt))), .one (.bool (Sp.isSO (Sp.solF q ⟨x, y, ⟨t, n, e, s, w, b⟩⟩ px py pt)))]))
  | _ => .fail
theorem impl_WayToTop.ok : StubOk Tryd.prog C0 41 impl_WayToTop.stub := by
  intro args res h
  unfold impl_WayToTop.stub at h
  split at h
  · rename_i q x y t n e s w b px py pt
    obtain ⟨hs, h0⟩ := gd_out h
    obtain ⟨hz, h0⟩ := gd_out h0
    cases h0
    refine impl_WayToTop.ev (n := 0) ?_
    unfold LIM at hs
    unfold impl_WayToTop.res
    obtain ⟨ho, hf, hpt⟩ := puz_ok hz
    have hlen := wyC_len ho
    obtain ⟨k, hord⟩ := wyC_ord (isFl (rws q)) ⟨x, y, ⟨t, n, e, s, w, b⟩⟩
    have hlim : (wyC (isFl (rws q)) ⟨x, y, ⟨t, n, e, s, w, b⟩⟩).length ≤ LIM := by unfold LIM; unfold BIG at hlen; omega
    have d1 : stC.decs (stC.encs (usC (wyC (isFl (rws q)) ⟨x, y, ⟨t, n, e, s, w, b⟩⟩))) = some (usC (wyC (isFl (rws q)) ⟨x, y, ⟨t, n, e, s, w, b⟩⟩)) := Cod.decs_encs (by unfold usC; rw [List.length_map]; exact hlim)
    have d2 : intC.decs (intC.encs (besC (wyC (isFl (rws q)) ⟨x, y, ⟨t, n, e, s, w, b⟩⟩))) = some (besC (wyC (isFl (rws q)) ⟨x, y, ⟨t, n, e, s, w, b⟩⟩)) := Cod.decs_encs (by unfold besC; rw [List.length_map]; exact hlim)
    have d3 : u8C.decs (u8C.encs (rlsC (wyC (isFl (rws q)) ⟨x, y, ⟨t, n, e, s, w, b⟩⟩))) = some (rlsC (wyC (isFl (rws q)) ⟨x, y, ⟨t, n, e, s, w, b⟩⟩)) := Cod.decs_encs (by unfold rlsC; rw [List.length_map]; exact hlim)
    have l1 : lnkB (besC (wyC (isFl (rws q)) ⟨x, y, ⟨t, n, e, s, w, b⟩⟩)) = true := lnk_ord hord
    have l2 : (besC (wyC (isFl (rws q)) ⟨x, y, ⟨t, n, e, s, w, b⟩⟩)).length = (rlsC (wyC (isFl (rws q)) ⟨x, y, ⟨t, n, e, s, w, b⟩⟩)).length := by unfold besC rlsC; rw [List.length_map, List.length_map]
    have l3 : (usC (wyC (isFl (rws q)) ⟨x, y, ⟨t, n, e, s, w, b⟩⟩)).length = (rlsC (wyC (isFl (rws q)) ⟨x, y, ⟨t, n, e, s, w, b⟩⟩)).length := by unfold usC rlsC; rw [List.length_map, List.length_map]
    simp only [hs, ho, hf, hpt, d1, d2, d3, l1, decide_eq_true l2, decide_eq_true l3, frsU_sol hord, Option.bind_some, cond_true, Bool.not_true, cond_false]
    unfold solF
    rw [hz]; rfl
  · cases h
/-! impl_SolutionOf -/
noncomputable def impl_SolutionOf.cfg : Cfg := { C0 with keep := fun _ => none, nb := 0, M := tabM [(40, impl_IsPuzzle.stub), (41, impl_WayToTop.stub)], MM := tabB [] }
noncomputable def impl_SolutionOf.res (n : Nat) (a0_0 : ByteArray) (a0_1 : Int) (a0_2 : Int) (a0_3 : Int) (a0_4 : Int) (a0_5 : Int) (a0_6 : Int) (a0_7 : Int) (a0_8 : Int) (a0_9 : Int) (a0_10 : Int) (a0_11 : Int) : Option (List Q) :=
  bif decide (ByteArray.size a0_0 < (17179869184 : Nat)) then bif !(isBo brd a0_0 && (Die.good (Die.mk a0_3 a0_4 a0_5 a0_6 a0_7 a0_8) && isFl (rws a0_0) a0_1 a0_2) && (isFl (rws a0_0) a0_9 a0_10 && inR a0_11 (0 : Int) (9 : Int))) then some [Q.one (D.str (ByteArray.mk #[])), Q.one (D.bool false)] else bif decide (ByteArray.size a0_0 < (17179869184 : Nat)) then bif pzOk a0_0 (Sta.mk a0_1 a0_2 (Die.mk a0_3 a0_4 a0_5 a0_6 a0_7 a0_8)) a0_9 a0_10 a0_11 then some [Q.one (D.str (mkO (solF a0_0 (Sta.mk a0_1 a0_2 (Die.mk a0_3 a0_4 a0_5 a0_6 a0_7 a0_8)) a0_9 a0_10 a0_11))), Q.one (D.bool (isSO (solF a0_0 (Sta.mk a0_1 a0_2 (Die.mk a0_3 a0_4 a0_5 a0_6 a0_7 a0_8)) a0_9 a0_10 a0_11)))] else none else none else none
theorem impl_SolutionOf.run (n : Nat) (a0_0 : ByteArray) (a0_1 : Int) (a0_2 : Int) (a0_3 : Int) (a0_4 : Int) (a0_5 : Int) (a0_6 : Int) (a0_7 : Int) (a0_8 : Int) (a0_9 : Int) (a0_10 : Int) (a0_11 : Int) :
    run1 impl_SolutionOf.cfg [RK.one LK.str, RK.one LK.bool] n Tryd.f16 [Q.agg [D.str a0_0, D.int IntKind.i64 a0_1, D.int IntKind.i64 a0_2, D.int IntKind.i64 a0_3, D.int IntKind.i64 a0_4, D.int IntKind.i64 a0_5, D.int IntKind.i64 a0_6, D.int IntKind.i64 a0_7, D.int IntKind.i64 a0_8, D.int IntKind.i64 a0_9, D.int IntKind.i64 a0_10, D.int IntKind.i64 a0_11]] = impl_SolutionOf.res n a0_0 a0_1 a0_2 a0_3 a0_4 a0_5 a0_6 a0_7 a0_8 a0_9 a0_10 a0_11 := by kernel_rfl
theorem impl_SolutionOf.ev {n : Nat} {a0_0 : ByteArray} {a0_1 : Int} {a0_2 : Int} {a0_3 : Int} {a0_4 : Int} {a0_5 : Int} {a0_6 : Int} {a0_7 : Int} {a0_8 : Int} {a0_9 : Int} {a0_10 : Int} {a0_11 : Int} {r : List Q} (h : impl_SolutionOf.res n a0_0 a0_1 a0_2 a0_3 a0_4 a0_5 a0_6 a0_7 a0_8 a0_9 a0_10 a0_11 = some r) : Snd Tryd.prog C0 16 [.agg [.str a0_0, .int .i64 a0_1, .int .i64 a0_2, .int .i64 a0_3, .int .i64 a0_4, .int .i64 a0_5, .int .i64 a0_6, .int .i64 a0_7, .int .i64 a0_8, .int .i64 a0_9, .int .i64 a0_10, .int .i64 a0_11]] r :=
  snd_ev (C := impl_SolutionOf.cfg) cfg0 mix rfl rfl rfl rfl rfl (.cons impl_IsPuzzle.ok (.cons impl_WayToTop.ok .nil)) .nil rfl Tryd.func16 (by kernel_rfl) (by kernel_rfl) rfl ((impl_SolutionOf.run n a0_0 a0_1 a0_2 a0_3 a0_4 a0_5 a0_6 a0_7 a0_8 a0_9 a0_10 a0_11).trans h)

def impl_SolutionOf.stub : Stub
  | [.agg [.str q, .int .i64 x, .int .i64 y, .int .i64 t, .int .i64 n, .int .i64 e, .int .i64 s, .int .i64 w, .int .i64 b, .int .i64 px, .int .i64 py, .int .i64 pt]] => .gd (decide (q.size < LIM)) (.ret [.one (.str (Sp.mkO (Sp.solF q ⟨x, y, ⟨t, n, e, s, w, b⟩⟩ px py pt))), .one (.bool (Sp.isSO (Sp.solF q ⟨x, y, ⟨t, n, e, s, w, b⟩⟩ px py pt)))])
  | _ => .fail
theorem impl_SolutionOf.ok : StubOk Tryd.prog C0 16 impl_SolutionOf.stub := by
  intro args res h
  unfold impl_SolutionOf.stub at h
  split at h
  · rename_i q x y t n e s w b px py pt
    obtain ⟨hs, h0⟩ := gd_out h
    cases h0
    refine impl_SolutionOf.ev (n := 0) ?_
    unfold LIM at hs
    unfold impl_SolutionOf.res
    rw [hs, show (isBo brd q && (Die.good ⟨t, n, e, s, w, b⟩ && isFl (rws q) x y) && (isFl (rws q) px py && inR pt 0 9)) = pzOk q ⟨x, y, ⟨t, n, e, s, w, b⟩⟩ px py pt from rfl]
    cases hz : pzOk q ⟨x, y, ⟨t, n, e, s, w, b⟩⟩ px py pt with
    | false =>
      unfold solF
      rw [hz]; rfl
    | true => rfl
  · cases h
/-! impl_Puzzle_length -/
noncomputable def impl_Puzzle_length.cfg : Cfg := { C0 with keep := fun _ => none, nb := 0, M := tabM [(16, impl_SolutionOf.stub)], MM := tabB [] }
noncomputable def impl_Puzzle_length.res (n : Nat) (a0_0 : ByteArray) (a0_1 : Int) (a0_2 : Int) (a0_3 : Int) (a0_4 : Int) (a0_5 : Int) (a0_6 : Int) (a0_7 : Int) (a0_8 : Int) (a0_9 : Int) (a0_10 : Int) (a0_11 : Int) : Option (List Q) :=
  bif decide (ByteArray.size a0_0 < (17179869184 : Nat)) then some [Q.one (D.int IntKind.i64 (↑(ByteArray.size (mkO (solF a0_0 (Sta.mk a0_1 a0_2 (Die.mk a0_3 a0_4 a0_5 a0_6 a0_7 a0_8)) a0_9 a0_10 a0_11))) : Int)), Q.one (D.bool (isSO (solF a0_0 (Sta.mk a0_1 a0_2 (Die.mk a0_3 a0_4 a0_5 a0_6 a0_7 a0_8)) a0_9 a0_10 a0_11)))] else none
theorem impl_Puzzle_length.run (n : Nat) (a0_0 : ByteArray) (a0_1 : Int) (a0_2 : Int) (a0_3 : Int) (a0_4 : Int) (a0_5 : Int) (a0_6 : Int) (a0_7 : Int) (a0_8 : Int) (a0_9 : Int) (a0_10 : Int) (a0_11 : Int) :
    run1 impl_Puzzle_length.cfg [RK.one (LK.int IntKind.i64), RK.one LK.bool] n Tryd.f38 [Q.agg [D.str a0_0, D.int IntKind.i64 a0_1, D.int IntKind.i64 a0_2, D.int IntKind.i64 a0_3, D.int IntKind.i64 a0_4, D.int IntKind.i64 a0_5, D.int IntKind.i64 a0_6, D.int IntKind.i64 a0_7, D.int IntKind.i64 a0_8, D.int IntKind.i64 a0_9, D.int IntKind.i64 a0_10, D.int IntKind.i64 a0_11]] = impl_Puzzle_length.res n a0_0 a0_1 a0_2 a0_3 a0_4 a0_5 a0_6 a0_7 a0_8 a0_9 a0_10 a0_11 := by kernel_rfl
theorem impl_Puzzle_length.ev {n : Nat} {a0_0 : ByteArray} {a0_1 : Int} {a0_2 : Int} {a0_3 : Int} {a0_4 : Int} {a0_5 : Int} {a0_6 : Int} {a0_7 : Int} {a0_8 : Int} {a0_9 : Int} {a0_10 : Int} {a0_11 : Int} {r : List Q} (h : impl_Puzzle_length.res n a0_0 a0_1 a0_2 a0_3 a0_4 a0_5 a0_6 a0_7 a0_8 a0_9 a0_10 a0_11 = some r) : Snd Tryd.prog C0 38 [.agg [.str a0_0, .int .i64 a0_1, .int .i64 a0_2, .int .i64 a0_3, .int .i64 a0_4, .int .i64 a0_5, .int .i64 a0_6, .int .i64 a0_7, .int .i64 a0_8, .int .i64 a0_9, .int .i64 a0_10, .int .i64 a0_11]] r :=
  snd_ev (C := impl_Puzzle_length.cfg) cfg0 mix rfl rfl rfl rfl rfl (.cons impl_SolutionOf.ok .nil) .nil rfl Tryd.func38 (by kernel_rfl) (by kernel_rfl) rfl ((impl_Puzzle_length.run n a0_0 a0_1 a0_2 a0_3 a0_4 a0_5 a0_6 a0_7 a0_8 a0_9 a0_10 a0_11).trans h)

def impl_Puzzle_length.stub : Stub
  | [.agg [.str q, .int .i64 x, .int .i64 y, .int .i64 t, .int .i64 n, .int .i64 e, .int .i64 s, .int .i64 w, .int .i64 b, .int .i64 px, .int .i64 py, .int .i64 pt]] => .gd (decide (q.size < LIM)) (.ret [.one (.int .i64 (Sp.lenO (Sp.solF q ⟨x, y, ⟨t, n, e, s, w, b⟩⟩ px py pt))), .one (.bool (Sp.isSO (Sp.solF q ⟨x, y, ⟨t, n, e, s, w, b⟩⟩ px py pt)))])
  | _ => .fail
theorem impl_Puzzle_length.ok : StubOk Tryd.prog C0 38 impl_Puzzle_length.stub := by
  intro args res h
  unfold impl_Puzzle_length.stub at h
  split at h
  · rename_i q x y t n e s w b px py pt
    obtain ⟨hs, h0⟩ := gd_out h
    cases h0
    refine impl_Puzzle_length.ev (n := 0) ?_
    unfold LIM at hs
    unfold impl_Puzzle_length.res
    rw [hs]
    cases solF q ⟨x, y, ⟨t, n, e, s, w, b⟩⟩ px py pt with
    | none => rfl
    | some l =>
      show some [Q.one (.int .i64 ((mkB l).size : Int)), Q.one (.bool true)] = _
      rw [mkB_size]; rfl
  · cases h
/-! impl_LengthOf -/
noncomputable def impl_LengthOf.cfg : Cfg := { C0 with keep := fun _ => none, nb := 0, M := tabM [(38, impl_Puzzle_length.stub)], MM := tabB [] }
noncomputable def impl_LengthOf.res (n : Nat) (a0_0 : ByteArray) (a0_1 : Int) (a0_2 : Int) (a0_3 : Int) (a0_4 : Int) (a0_5 : Int) (a0_6 : Int) (a0_7 : Int) (a0_8 : Int) (a0_9 : Int) (a0_10 : Int) (a0_11 : Int) : Option (List Q) :=
  bif decide (ByteArray.size a0_0 < (17179869184 : Nat)) then some [Q.one (D.int IntKind.i64 (lenO (solF a0_0 (Sta.mk a0_1 a0_2 (Die.mk a0_3 a0_4 a0_5 a0_6 a0_7 a0_8)) a0_9 a0_10 a0_11))), Q.one (D.bool (isSO (solF a0_0 (Sta.mk a0_1 a0_2 (Die.mk a0_3 a0_4 a0_5 a0_6 a0_7 a0_8)) a0_9 a0_10 a0_11)))] else none
theorem impl_LengthOf.run (n : Nat) (a0_0 : ByteArray) (a0_1 : Int) (a0_2 : Int) (a0_3 : Int) (a0_4 : Int) (a0_5 : Int) (a0_6 : Int) (a0_7 : Int) (a0_8 : Int) (a0_9 : Int) (a0_10 : Int) (a0_11 : Int) :
    run1 impl_LengthOf.cfg [RK.one (LK.int IntKind.i64), RK.one LK.bool] n Tryd.f14 [Q.agg [D.str a0_0, D.int IntKind.i64 a0_1, D.int IntKind.i64 a0_2, D.int IntKind.i64 a0_3, D.int IntKind.i64 a0_4, D.int IntKind.i64 a0_5, D.int IntKind.i64 a0_6, D.int IntKind.i64 a0_7, D.int IntKind.i64 a0_8, D.int IntKind.i64 a0_9, D.int IntKind.i64 a0_10, D.int IntKind.i64 a0_11]] = impl_LengthOf.res n a0_0 a0_1 a0_2 a0_3 a0_4 a0_5 a0_6 a0_7 a0_8 a0_9 a0_10 a0_11 := by kernel_rfl
theorem impl_LengthOf.ev {n : Nat} {a0_0 : ByteArray} {a0_1 : Int} {a0_2 : Int} {a0_3 : Int} {a0_4 : Int} {a0_5 : Int} {a0_6 : Int} {a0_7 : Int} {a0_8 : Int} {a0_9 : Int} {a0_10 : Int} {a0_11 : Int} {r : List Q} (h : impl_LengthOf.res n a0_0 a0_1 a0_2 a0_3 a0_4 a0_5 a0_6 a0_7 a0_8 a0_9 a0_10 a0_11 = some r) : Snd Tryd.prog C0 14 [.agg [.str a0_0, .int .i64 a0_1, .int .i64 a0_2, .int .i64 a0_3, .int .i64 a0_4, .int .i64 a0_5, .int .i64 a0_6, .int .i64 a0_7, .int .i64 a0_8, .int .i64 a0_9, .int .i64 a0_10, .int .i64 a0_11]] r :=
  snd_ev (C := impl_LengthOf.cfg) cfg0 mix rfl rfl rfl rfl rfl (.cons impl_Puzzle_length.ok .nil) .nil rfl Tryd.func14 (by kernel_rfl) (by kernel_rfl) rfl ((impl_LengthOf.run n a0_0 a0_1 a0_2 a0_3 a0_4 a0_5 a0_6 a0_7 a0_8 a0_9 a0_10 a0_11).trans h)

def impl_LengthOf.stub : Stub
  | [.agg [.str q, .int .i64 x, .int .i64 y, .int .i64 t, .int .i64 n, .int .i64 e, .int .i64 s, .int .i64 w, .int .i64 b, .int .i64 px, .int .i64 py, .int .i64 pt]] => .gd (decide (q.size < LIM)) (.ret [.one (.int .i64 (Sp.lenO (Sp.solF q ⟨x, y, ⟨t, n, e, s, w, b⟩⟩ px py pt))), .one (.bool (Sp.isSO (Sp.solF q ⟨x, y, ⟨t, n, e, s, w, b⟩⟩ px py pt)))])
  | _ => .fail
theorem impl_LengthOf.ok : StubOk Tryd.prog C0 14 impl_LengthOf.stub := by
  intro args res h
  unfold impl_LengthOf.stub at h
  split at h
  · rename_i q x y t n e s w b px py pt
    obtain ⟨hs, h0⟩ := gd_out h
    cases h0
    refine impl_LengthOf.ev (n := 0) ?_
    unfold LIM at hs
    unfold impl_LengthOf.res
    rw [hs]
    rfl
  · cases h
/-! laws_FnExactLengthOf -/
noncomputable def laws_FnExactLengthOf.cfg : Cfg := { C0 with keep := fun _ => none, nb := 0, M := tabM [(11, laws_szPuzzle.stub), (13, laws_toPuzzle.stub), (12, spec_LengthOf.stub), (14, impl_LengthOf.stub)], MM := tabB [] }
noncomputable def laws_FnExactLengthOf.res (n : Nat) (a0_0 : ByteArray) (a0_1 : Int) (a0_2 : Int) (a0_3 : Int) (a0_4 : Int) (a0_5 : Int) (a0_6 : Int) (a0_7 : Int) (a0_8 : Int) (a0_9 : Int) (a0_10 : Int) (a0_11 : Int) : Option (List Q) :=
  bif decide (ByteArray.size a0_0 ≤ (9223372036854775807 : Nat)) then bif decide ((bif decide (ByteArray.size a0_0 ≤ (1048576 : Nat)) then (1048576 : Int) - (↑(ByteArray.size a0_0) : Int) else (-1 : Int)) < (0 : Int)) then some [Q.one (D.bool true)] else bif decide (ByteArray.size a0_0 < (17179869184 : Nat)) then bif lenO (solF a0_0 (Sta.mk a0_1 a0_2 (Die.mk a0_3 a0_4 a0_5 a0_6 a0_7 a0_8)) a0_9 a0_10 a0_11) != lenO (solF a0_0 (Sta.mk a0_1 a0_2 (Die.mk a0_3 a0_4 a0_5 a0_6 a0_7 a0_8)) a0_9 a0_10 a0_11) then some [Q.one (D.bool false)] else bif !isSO (solF a0_0 (Sta.mk a0_1 a0_2 (Die.mk a0_3 a0_4 a0_5 a0_6 a0_7 a0_8)) a0_9 a0_10 a0_11) == isSO (solF a0_0 (Sta.mk a0_1 a0_2 (Die.mk a0_3 a0_4 a0_5 a0_6 a0_7 a0_8)) a0_9 a0_10 a0_11) then some [Q.one (D.bool false)] else some [Q.one (D.bool true)] else none else none
theorem laws_FnExactLengthOf.run (n : Nat) (a0_0 : ByteArray) (a0_1 : Int) (a0_2 : Int) (a0_3 : Int) (a0_4 : Int) (a0_5 : Int) (a0_6 : Int) (a0_7 : Int) (a0_8 : Int) (a0_9 : Int) (a0_10 : Int) (a0_11 : Int) :
    run1 laws_FnExactLengthOf.cfg [RK.one LK.bool] n Tryd.f3 [Q.agg [D.str a0_0, D.int IntKind.i64 a0_1, D.int IntKind.i64 a0_2, D.int IntKind.i64 a0_3, D.int IntKind.i64 a0_4, D.int IntKind.i64 a0_5, D.int IntKind.i64 a0_6, D.int IntKind.i64 a0_7, D.int IntKind.i64 a0_8, D.int IntKind.i64 a0_9, D.int IntKind.i64 a0_10, D.int IntKind.i64 a0_11]] = laws_FnExactLengthOf.res n a0_0 a0_1 a0_2 a0_3 a0_4 a0_5 a0_6 a0_7 a0_8 a0_9 a0_10 a0_11 := by kernel_rfl
theorem laws_FnExactLengthOf.ev {n : Nat} {a0_0 : ByteArray} {a0_1 : Int} {a0_2 : Int} {a0_3 : Int} {a0_4 : Int} {a0_5 : Int} {a0_6 : Int} {a0_7 : Int} {a0_8 : Int} {a0_9 : Int} {a0_10 : Int} {a0_11 : Int} {r : List Q} (h : laws_FnExactLengthOf.res n a0_0 a0_1 a0_2 a0_3 a0_4 a0_5 a0_6 a0_7 a0_8 a0_9 a0_10 a0_11 = some r) : Snd Tryd.prog C0 3 [.agg [.str a0_0, .int .i64 a0_1, .int .i64 a0_2, .int .i64 a0_3, .int .i64 a0_4, .int .i64 a0_5, .int .i64 a0_6, .int .i64 a0_7, .int .i64 a0_8, .int .i64 a0_9, .int .i64 a0_10, .int .i64 a0_11]] r :=
  snd_ev (C := laws_FnExactLengthOf.cfg) cfg0 mix rfl rfl rfl rfl rfl (.cons laws_szPuzzle.ok (.cons laws_toPuzzle.ok (.cons spec_LengthOf.ok (.cons impl_LengthOf.ok .nil)))) .nil rfl Tryd.func3 (by kernel_rfl) (by kernel_rfl) rfl ((laws_FnExactLengthOf.run n a0_0 a0_1 a0_2 a0_3 a0_4 a0_5 a0_6 a0_7 a0_8 a0_9 a0_10 a0_11).trans h)

theorem laws_FnExactLengthOf.law (q : ByteArray) (hq : q.size ≤ 9223372036854775807) (x y t n e s w b px py pt : Int) : Snd Tryd.prog C0 3 [.agg [.str q, .int .i64 x, .int .i64 y, .int .i64 t, .int .i64 n, .int .i64 e, .int .i64 s, .int .i64 w, .int .i64 b, .int .i64 px, .int .i64 py, .int .i64 pt]] [.one (.bool true)] := by
  refine laws_FnExactLengthOf.ev (n := 0) ?_
  unfold laws_FnExactLengthOf.res
  simp only [hq, decide_true, cond_true, szNeg]
  by_cases hs : q.size ≤ 1048576
  · have h1 : q.size < 17179869184 := by omega
    simp only [hs, h1, decide_true, cond_true, Bool.not_true, cond_false, strEq_refl, beq_self_eq_true, bne_self_eq_false]
  · simp only [hs, decide_false, Bool.not_false, cond_true, cond_false]
/-! laws_FnExactSolutionOf -/
noncomputable def laws_FnExactSolutionOf.cfg : Cfg := { C0 with keep := fun _ => none, nb := 0, M := tabM [(11, laws_szPuzzle.stub), (13, laws_toPuzzle.stub), (15, spec_SolutionOf.stub), (16, impl_SolutionOf.stub)], MM := tabB [] }
noncomputable def laws_FnExactSolutionOf.res (n : Nat) (a0_0 : ByteArray) (a0_1 : Int) (a0_2 : Int) (a0_3 : Int) (a0_4 : Int) (a0_5 : Int) (a0_6 : Int) (a0_7 : Int) (a0_8 : Int) (a0_9 : Int) (a0_10 : Int) (a0_11 : Int) : Option (List Q) :=
  bif decide (ByteArray.size a0_0 ≤ (9223372036854775807 : Nat)) then bif decide ((bif decide (ByteArray.size a0_0 ≤ (1048576 : Nat)) then (1048576 : Int) - (↑(ByteArray.size a0_0) : Int) else (-1 : Int)) < (0 : Int)) then some [Q.one (D.bool true)] else bif decide (ByteArray.size a0_0 < (17179869184 : Nat)) then bif !strEq (mkO (solF a0_0 (Sta.mk a0_1 a0_2 (Die.mk a0_3 a0_4 a0_5 a0_6 a0_7 a0_8)) a0_9 a0_10 a0_11)) (mkO (solF a0_0 (Sta.mk a0_1 a0_2 (Die.mk a0_3 a0_4 a0_5 a0_6 a0_7 a0_8)) a0_9 a0_10 a0_11)) then some [Q.one (D.bool false)] else bif !isSO (solF a0_0 (Sta.mk a0_1 a0_2 (Die.mk a0_3 a0_4 a0_5 a0_6 a0_7 a0_8)) a0_9 a0_10 a0_11) == isSO (solF a0_0 (Sta.mk a0_1 a0_2 (Die.mk a0_3 a0_4 a0_5 a0_6 a0_7 a0_8)) a0_9 a0_10 a0_11) then some [Q.one (D.bool false)] else some [Q.one (D.bool true)] else none else none
theorem laws_FnExactSolutionOf.run (n : Nat) (a0_0 : ByteArray) (a0_1 : Int) (a0_2 : Int) (a0_3 : Int) (a0_4 : Int) (a0_5 : Int) (a0_6 : Int) (a0_7 : Int) (a0_8 : Int) (a0_9 : Int) (a0_10 : Int) (a0_11 : Int) :
    run1 laws_FnExactSolutionOf.cfg [RK.one LK.bool] n Tryd.f4 [Q.agg [D.str a0_0, D.int IntKind.i64 a0_1, D.int IntKind.i64 a0_2, D.int IntKind.i64 a0_3, D.int IntKind.i64 a0_4, D.int IntKind.i64 a0_5, D.int IntKind.i64 a0_6, D.int IntKind.i64 a0_7, D.int IntKind.i64 a0_8, D.int IntKind.i64 a0_9, D.int IntKind.i64 a0_10, D.int IntKind.i64 a0_11]] = laws_FnExactSolutionOf.res n a0_0 a0_1 a0_2 a0_3 a0_4 a0_5 a0_6 a0_7 a0_8 a0_9 a0_10 a0_11 := by kernel_rfl
theorem laws_FnExactSolutionOf.ev {n : Nat} {a0_0 : ByteArray} {a0_1 : Int} {a0_2 : Int} {a0_3 : Int} {a0_4 : Int} {a0_5 : Int} {a0_6 : Int} {a0_7 : Int} {a0_8 : Int} {a0_9 : Int} {a0_10 : Int} {a0_11 : Int} {r : List Q} (h : laws_FnExactSolutionOf.res n a0_0 a0_1 a0_2 a0_3 a0_4 a0_5 a0_6 a0_7 a0_8 a0_9 a0_10 a0_11 = some r) : Snd Tryd.prog C0 4 [.agg [.str a0_0, .int .i64 a0_1, .int .i64 a0_2, .int .i64 a0_3, .int .i64 a0_4, .int .i64 a0_5, .int .i64 a0_6, .int .i64 a0_7, .int .i64 a0_8, .int .i64 a0_9, .int .i64 a0_10, .int .i64 a0_11]] r :=
  snd_ev (C := laws_FnExactSolutionOf.cfg) cfg0 mix rfl rfl rfl rfl rfl (.cons laws_szPuzzle.ok (.cons laws_toPuzzle.ok (.cons spec_SolutionOf.ok (.cons impl_SolutionOf.ok .nil)))) .nil rfl Tryd.func4 (by kernel_rfl) (by kernel_rfl) rfl ((laws_FnExactSolutionOf.run n a0_0 a0_1 a0_2 a0_3 a0_4 a0_5 a0_6 a0_7 a0_8 a0_9 a0_10 a0_11).trans h)

theorem laws_FnExactSolutionOf.law (q : ByteArray) (hq : q.size ≤ 9223372036854775807) (x y t n e s w b px py pt : Int) : Snd Tryd.prog C0 4 [.agg [.str q, .int .i64 x, .int .i64 y, .int .i64 t, .int .i64 n, .int .i64 e, .int .i64 s, .int .i64 w, .int .i64 b, .int .i64 px, .int .i64 py, .int .i64 pt]] [.one (.bool true)] := by
  refine laws_FnExactSolutionOf.ev (n := 0) ?_
  unfold laws_FnExactSolutionOf.res
  simp only [hq, decide_true, cond_true, szNeg]
  by_cases hs : q.size ≤ 1048576
  · have h1 : q.size < 17179869184 := by omega
    simp only [hs, h1, decide_true, cond_true, Bool.not_true, cond_false, strEq_refl, beq_self_eq_true, bne_self_eq_false]
  · simp only [hs, decide_false, Bool.not_false, cond_true, cond_false]
end Go.Proofs.EV.PL
set_option linter.unusedVariables false
set_option linter.unusedSimpArgs false
/-! Texts of puzzles. -/
namespace Go.Proofs.EV.PL
open Go Go.Proofs Go.Proofs.EV Sp
/-! i_strconv_small -/
noncomputable def i_strconv_small.cfg : Cfg := { C0 with keep := fun _ => none, nb := 0, M := tabM [], MM := tabB [] }
noncomputable def i_strconv_small.res (n : Nat) (a0 : Int) : Option (List Q) :=
  bif decide (a0 < (10 : Int)) then bif decide ((0 : Int) ≤ IntKind.wrap IntKind.i64 (a0 + (1 : Int))) then bif decide (IntKind.wrap IntKind.i64 (a0 + (1 : Int)) ≤ (36 : Int)) then bif decide ((0 : Int) ≤ a0) then bif decide (a0 ≤ (↑(Int.toNat (IntKind.wrap IntKind.i64 (a0 + (1 : Int)))) : Int)) then some [Q.one (D.str (ByteArray.extract (ByteArray.mk #[(48 : UInt8), (49 : UInt8), (50 : UInt8), (51 : UInt8), (52 : UInt8), (53 : UInt8), (54 : UInt8), (55 : UInt8), (56 : UInt8), (57 : UInt8), (97 : UInt8), (98 : UInt8), (99 : UInt8), (100 : UInt8), (101 : UInt8), (102 : UInt8), (103 : UInt8), (104 : UInt8), (105 : UInt8), (106 : UInt8), (107 : UInt8), (108 : UInt8), (109 : UInt8), (110 : UInt8), (111 : UInt8), (112 : UInt8), (113 : UInt8), (114 : UInt8), (115 : UInt8), (116 : UInt8), (117 : UInt8), (118 : UInt8), (119 : UInt8), (120 : UInt8), (121 : UInt8), (122 : UInt8)]) (Int.toNat a0) (Int.toNat (IntKind.wrap IntKind.i64 (a0 + (1 : Int))))))] else none else none else none else none else bif decide ((0 : Int) ≤ IntKind.wrap IntKind.i64 (IntKind.wrap IntKind.i64 (a0 * (2 : Int)) + (2 : Int))) then bif decide (IntKind.wrap IntKind.i64 (IntKind.wrap IntKind.i64 (a0 * (2 : Int)) + (2 : Int)) ≤ (200 : Int)) then bif decide ((0 : Int) ≤ IntKind.wrap IntKind.i64 (a0 * (2 : Int))) then bif decide (IntKind.wrap IntKind.i64 (a0 * (2 : Int)) ≤ (↑(Int.toNat (IntKind.wrap IntKind.i64 (IntKind.wrap IntKind.i64 (a0 * (2 : Int)) + (2 : Int)))) : Int)) then some [Q.one (D.str (ByteArray.extract (ByteArray.mk #[(48 : UInt8), (48 : UInt8), (48 : UInt8), (49 : UInt8), (48 : UInt8), (50 : UInt8), (48 : UInt8), (51 : UInt8), (48 : UInt8), (52 : UInt8), (48 : UInt8), (53 : UInt8), (48 : UInt8), (54 : UInt8), (48 : UInt8), (55 : UInt8), (48 : UInt8), (56 : UInt8), (48 : UInt8), (57 : UInt8), (49 : UInt8), (48 : UInt8), (49 : UInt8), (49 : UInt8), (49 : UInt8), (50 : UInt8), (49 : UInt8), (51 : UInt8), (49 : UInt8), (52 : UInt8), (49 : UInt8), (53 : UInt8), (49 : UInt8), (54 : UInt8), (49 : UInt8), (55 : UInt8), (49 : UInt8), (56 : UInt8), (49 : UInt8), (57 : UInt8), (50 : UInt8), (48 : UInt8), (50 : UInt8), (49 : UInt8), (50 : UInt8), (50 : UInt8), (50 : UInt8), (51 : UInt8), (50 : UInt8), (52 : UInt8), (50 : UInt8), (53 : UInt8), (50 : UInt8), (54 : UInt8), (50 : UInt8), (55 : UInt8), (50 : UInt8), (56 : UInt8), (50 : UInt8), (57 : UInt8), (51 : UInt8), (48 : UInt8), (51 : UInt8), (49 : UInt8), (51 : UInt8), (50 : UInt8), (51 : UInt8), (51 : UInt8), (51 : UInt8), (52 : UInt8), (51 : UInt8), (53 : UInt8), (51 : UInt8), (54 : UInt8), (51 : UInt8), (55 : UInt8), (51 : UInt8), (56 : UInt8), (51 : UInt8), (57 : UInt8), (52 : UInt8), (48 : UInt8), (52 : UInt8), (49 : UInt8), (52 : UInt8), (50 : UInt8), (52 : UInt8), (51 : UInt8), (52 : UInt8), (52 : UInt8), (52 : UInt8), (53 : UInt8), (52 : UInt8), (54 : UInt8), (52 : UInt8), (55 : UInt8), (52 : UInt8), (56 : UInt8), (52 : UInt8), (57 : UInt8), (53 : UInt8), (48 : UInt8), (53 : UInt8), (49 : UInt8), (53 : UInt8), (50 : UInt8), (53 : UInt8), (51 : UInt8), (53 : UInt8), (52 : UInt8), (53 : UInt8), (53 : UInt8), (53 : UInt8), (54 : UInt8), (53 : UInt8), (55 : UInt8), (53 : UInt8), (56 : UInt8), (53 : UInt8), (57 : UInt8), (54 : UInt8), (48 : UInt8), (54 : UInt8), (49 : UInt8), (54 : UInt8), (50 : UInt8), (54 : UInt8), (51 : UInt8), (54 : UInt8), (52 : UInt8), (54 : UInt8), (53 : UInt8), (54 : UInt8), (54 : UInt8), (54 : UInt8), (55 : UInt8), (54 : UInt8), (56 : UInt8), (54 : UInt8), (57 : UInt8), (55 : UInt8), (48 : UInt8), (55 : UInt8), (49 : UInt8), (55 : UInt8), (50 : UInt8), (55 : UInt8), (51 : UInt8), (55 : UInt8), (52 : UInt8), (55 : UInt8), (53 : UInt8), (55 : UInt8), (54 : UInt8), (55 : UInt8), (55 : UInt8), (55 : UInt8), (56 : UInt8), (55 : UInt8), (57 : UInt8), (56 : UInt8), (48 : UInt8), (56 : UInt8), (49 : UInt8), (56 : UInt8), (50 : UInt8), (56 : UInt8), (51 : UInt8), (56 : UInt8), (52 : UInt8), (56 : UInt8), (53 : UInt8), (56 : UInt8), (54 : UInt8), (56 : UInt8), (55 : UInt8), (56 : UInt8), (56 : UInt8), (56 : UInt8), (57 : UInt8), (57 : UInt8), (48 : UInt8), (57 : UInt8), (49 : UInt8), (57 : UInt8), (50 : UInt8), (57 : UInt8), (51 : UInt8), (57 : UInt8), (52 : UInt8), (57 : UInt8), (53 : UInt8), (57 : UInt8), (54 : UInt8), (57 : UInt8), (55 : UInt8), (57 : UInt8), (56 : UInt8), (57 : UInt8), (57 : UInt8)]) (Int.toNat (IntKind.wrap IntKind.i64 (a0 * (2 : Int)))) (Int.toNat (IntKind.wrap IntKind.i64 (IntKind.wrap IntKind.i64 (a0 * (2 : Int)) + (2 : Int))))))] else none else none else none else none
theorem i_strconv_small.run (n : Nat) (a0 : Int) :
    run1 i_strconv_small.cfg [RK.one LK.str] n Tryd.f131 [Q.one (D.int IntKind.i64 a0)] = i_strconv_small.res n a0 := by kernel_rfl
theorem i_strconv_small.ev {n : Nat} {a0 : Int} {r : List Q} (h : i_strconv_small.res n a0 = some r) : Snd Tryd.prog C0 131 [.one (.int .i64 a0)] r :=
  snd_ev (C := i_strconv_small.cfg) cfg0 mix rfl rfl rfl rfl rfl .nil .nil rfl Tryd.func131 (by kernel_rfl) (by kernel_rfl) rfl ((i_strconv_small.run n a0).trans h)

def i_strconv_small.stub : Stub
  | [.one (.int .i64 n)] => .gd (Sp.inR n 0 9) (.ret [.one (.str (Sp.mkB [Sp.sgn n]))])
  | _ => .fail
theorem small_ext {n : Int} (h : inR n 0 9 = true) : ByteArray.extract (ByteArray.mk #[48, 49, 50, 51, 52, 53, 54, 55, 56, 57, 97, 98, 99, 100, 101, 102, 103, 104, 105, 106, 107, 108, 109, 110, 111, 112, 113, 114, 115, 116, 117, 118, 119, 120, 121, 122]) n.toNat (IntKind.wrap .i64 (n + 1)).toNat = mkB [sgn n] := by
  obtain ⟨h0, h9⟩ := inR_out h
  rw [wrap_in (by omega) (by omega)]
  obtain ⟨D, rfl⟩ := Int.eq_ofNat_of_zero_le h0
  have hD : D < 10 := by omega
  match D, hD with
  | 0, _ => rfl
  | 1, _ => rfl
  | 2, _ => rfl
  | 3, _ => rfl
  | 4, _ => rfl
  | 5, _ => rfl
  | 6, _ => rfl
  | 7, _ => rfl
  | 8, _ => rfl
  | 9, _ => rfl
  | D + 10, h => omega
theorem i_strconv_small.ok : StubOk Tryd.prog C0 131 i_strconv_small.stub := by
  intro args res h
  unfold i_strconv_small.stub at h
  split at h
  · rename_i k
    obtain ⟨h1, h0⟩ := gd_out h
    cases h0
    obtain ⟨k0, k9⟩ := inR_out h1
    refine i_strconv_small.ev (n := 0) ?_
    unfold i_strconv_small.res
    have e := small_ext h1
    have g1 : k < 10 := by omega
    have g2 : IntKind.wrap .i64 (k + 1) = k + 1 := wrap_in (by omega) (by omega)
    have g3 : 0 ≤ k + 1 := by omega
    have g4 : k + 1 ≤ 36 := by omega
    have g5 : k ≤ ((k + 1).toNat : Int) := by omega
    rw [g2] at e
    simp only [g1, g2, g3, g4, g5, k0, e, decide_true, cond_true]
  · cases h
/-! i_strconv_FormatInt -/
noncomputable def i_strconv_FormatInt.cfg : Cfg := { C0 with keep := fun _ => none, nb := 0, M := tabM [(131, i_strconv_small.stub)], MM := tabB [] }
noncomputable def i_strconv_FormatInt.res (n : Nat) (a0 : Int) (a1 : Int) : Option (List Q) :=
  bif a1 == (10 : Int) then bif decide ((0 : Int) ≤ a0) then bif decide (a0 < (100 : Int)) then bif inR a0 (0 : Int) (9 : Int) then some [Q.one (D.str (mkB [sgn a0]))] else none else bif decide (a0 < (0 : Int)) then none else none else bif decide (a0 < (0 : Int)) then none else none else none
theorem i_strconv_FormatInt.run (n : Nat) (a0 : Int) (a1 : Int) :
    run1 i_strconv_FormatInt.cfg [RK.one LK.str] n Tryd.f114 [Q.one (D.int IntKind.i64 a0), Q.one (D.int IntKind.i64 a1)] = i_strconv_FormatInt.res n a0 a1 := by kernel_rfl
theorem i_strconv_FormatInt.ev {n : Nat} {a0 : Int} {a1 : Int} {r : List Q} (h : i_strconv_FormatInt.res n a0 a1 = some r) : Snd Tryd.prog C0 114 [.one (.int .i64 a0), .one (.int .i64 a1)] r :=
  snd_ev (C := i_strconv_FormatInt.cfg) cfg0 mix rfl rfl rfl rfl rfl (.cons i_strconv_small.ok .nil) .nil rfl Tryd.func114 (by kernel_rfl) (by kernel_rfl) rfl ((i_strconv_FormatInt.run n a0 a1).trans h)

def i_strconv_FormatInt.stub : Stub
  | [.one (.int .i64 n), .one (.int .i64 b)] => .gd (Sp.inR n 0 9) (.gd (decide (b = 10)) (.ret [.one (.str (Sp.mkB [Sp.sgn n]))]))
  | _ => .fail
theorem i_strconv_FormatInt.ok : StubOk Tryd.prog C0 114 i_strconv_FormatInt.stub := by
  intro args res h
  unfold i_strconv_FormatInt.stub at h
  split at h
  · rename_i k b
    obtain ⟨h1, h0⟩ := gd_out h
    obtain ⟨h2, h0⟩ := gd_out h0
    cases h0
    have h2 := of_decide_eq_true h2
    subst h2
    obtain ⟨k0, k9⟩ := inR_out h1
    refine i_strconv_FormatInt.ev (n := 0) ?_
    unfold i_strconv_FormatInt.res
    have g1 : k < 100 := by omega
    have g2 : IntKind.wrap .i64 k = k := wrap_in (by omega) (by omega)
    simp only [g1, g2, k0, h1, decide_true, cond_true, beq_self_eq_true]
    try rfl
  · cases h
/-! i_strconv_Itoa -/
noncomputable def i_strconv_Itoa.cfg : Cfg := { C0 with keep := fun _ => none, nb := 0, M := tabM [(114, i_strconv_FormatInt.stub)], MM := tabB [] }
noncomputable def i_strconv_Itoa.res (n : Nat) (a0 : Int) : Option (List Q) :=
  bif inR a0 (0 : Int) (9 : Int) then some [Q.one (D.str (mkB [sgn a0]))] else none
theorem i_strconv_Itoa.run (n : Nat) (a0 : Int) :
    run1 i_strconv_Itoa.cfg [RK.one LK.str] n Tryd.f95 [Q.one (D.int IntKind.i64 a0)] = i_strconv_Itoa.res n a0 := by kernel_rfl
theorem i_strconv_Itoa.ev {n : Nat} {a0 : Int} {r : List Q} (h : i_strconv_Itoa.res n a0 = some r) : Snd Tryd.prog C0 95 [.one (.int .i64 a0)] r :=
  snd_ev (C := i_strconv_Itoa.cfg) cfg0 mix rfl rfl rfl rfl rfl (.cons i_strconv_FormatInt.ok .nil) .nil rfl Tryd.func95 (by kernel_rfl) (by kernel_rfl) rfl ((i_strconv_Itoa.run n a0).trans h)

def i_strconv_Itoa.stub : Stub
  | [.one (.int .i64 n)] => .gd (Sp.inR n 0 9) (.ret [.one (.str (Sp.mkB [Sp.sgn n]))])
  | _ => .fail
theorem i_strconv_Itoa.ok : StubOk Tryd.prog C0 95 i_strconv_Itoa.stub := by
  intro args res h
  unfold i_strconv_Itoa.stub at h
  split at h
  · rename_i k
    obtain ⟨h1, h0⟩ := gd_out h
    cases h0
    obtain ⟨k0, k9⟩ := inR_out h1
    refine i_strconv_Itoa.ev (n := 0) ?_
    unfold i_strconv_Itoa.res
    have g2 : IntKind.wrap .i64 k = k := wrap_in (by omega) (by omega)
    simp only [g2, h1, cond_true]
    try rfl
  · cases h
/-! strconv_Itoa -/
noncomputable def strconv_Itoa.cfg : Cfg := { C0 with keep := fun _ => none, nb := 0, M := tabM [(95, i_strconv_Itoa.stub)], MM := tabB [] }
noncomputable def strconv_Itoa.res (n : Nat) (a0 : Int) : Option (List Q) :=
  bif inR a0 (0 : Int) (9 : Int) then some [Q.one (D.str (mkB [sgn a0]))] else none
theorem strconv_Itoa.run (n : Nat) (a0 : Int) :
    run1 strconv_Itoa.cfg [RK.one LK.str] n Tryd.f59 [Q.one (D.int IntKind.i64 a0)] = strconv_Itoa.res n a0 := by kernel_rfl
theorem strconv_Itoa.ev {n : Nat} {a0 : Int} {r : List Q} (h : strconv_Itoa.res n a0 = some r) : Snd Tryd.prog C0 59 [.one (.int .i64 a0)] r :=
  snd_ev (C := strconv_Itoa.cfg) cfg0 mix rfl rfl rfl rfl rfl (.cons i_strconv_Itoa.ok .nil) .nil rfl Tryd.func59 (by kernel_rfl) (by kernel_rfl) rfl ((strconv_Itoa.run n a0).trans h)

def strconv_Itoa.stub : Stub
  | [.one (.int .i64 n)] => .gd (Sp.inR n 0 9) (.ret [.one (.str (Sp.mkB [Sp.sgn n]))])
  | _ => .fail
theorem strconv_Itoa.ok : StubOk Tryd.prog C0 59 strconv_Itoa.stub := by
  intro args res h
  unfold strconv_Itoa.stub at h
  split at h
  · rename_i k
    obtain ⟨h1, h0⟩ := gd_out h
    cases h0
    refine strconv_Itoa.ev (n := 0) ?_
    unfold strconv_Itoa.res
    rw [h1]; rfl
  · cases h
/-! impl_State_texts -/
noncomputable def impl_State_texts.cfg : Cfg := { C0 with keep := fun _ => none, nb := 0, M := tabM [(91, impl_DieText.stub), (59, strconv_Itoa.stub)], MM := tabB [] }
noncomputable def impl_State_texts.res (n : Nat) (a0_0 : Int) (a0_1 : Int) (a0_2 : Int) (a0_3 : Int) (a0_4 : Int) (a0_5 : Int) (a0_6 : Int) (a0_7 : Int) : Option (List Q) :=
  bif Die.good (Die.mk a0_2 a0_3 a0_4 a0_5 a0_6 a0_7) then bif inR a0_0 (0 : Int) (9 : Int) then bif inR a0_1 (0 : Int) (9 : Int) then some [Q.one (D.str (mkB [sgn a0_0])), Q.one (D.str (mkB [sgn a0_1])), Q.one (D.str (dieT (Die.mk a0_2 a0_3 a0_4 a0_5 a0_6 a0_7)))] else none else none else none
theorem impl_State_texts.run (n : Nat) (a0_0 : Int) (a0_1 : Int) (a0_2 : Int) (a0_3 : Int) (a0_4 : Int) (a0_5 : Int) (a0_6 : Int) (a0_7 : Int) :
    run1 impl_State_texts.cfg [RK.one LK.str, RK.one LK.str, RK.one LK.str] n Tryd.f57 [Q.agg [D.int IntKind.i64 a0_0, D.int IntKind.i64 a0_1, D.int IntKind.i64 a0_2, D.int IntKind.i64 a0_3, D.int IntKind.i64 a0_4, D.int IntKind.i64 a0_5, D.int IntKind.i64 a0_6, D.int IntKind.i64 a0_7]] = impl_State_texts.res n a0_0 a0_1 a0_2 a0_3 a0_4 a0_5 a0_6 a0_7 := by kernel_rfl
theorem impl_State_texts.ev {n : Nat} {a0_0 : Int} {a0_1 : Int} {a0_2 : Int} {a0_3 : Int} {a0_4 : Int} {a0_5 : Int} {a0_6 : Int} {a0_7 : Int} {r : List Q} (h : impl_State_texts.res n a0_0 a0_1 a0_2 a0_3 a0_4 a0_5 a0_6 a0_7 = some r) : Snd Tryd.prog C0 57 [.agg [.int .i64 a0_0, .int .i64 a0_1, .int .i64 a0_2, .int .i64 a0_3, .int .i64 a0_4, .int .i64 a0_5, .int .i64 a0_6, .int .i64 a0_7]] r :=
  snd_ev (C := impl_State_texts.cfg) cfg0 mix rfl rfl rfl rfl rfl (.cons impl_DieText.ok (.cons strconv_Itoa.ok .nil)) .nil rfl Tryd.func57 (by kernel_rfl) (by kernel_rfl) rfl ((impl_State_texts.run n a0_0 a0_1 a0_2 a0_3 a0_4 a0_5 a0_6 a0_7).trans h)

def impl_State_texts.stub : Stub
  | [.agg [.int .i64 x, .int .i64 y, .int .i64 t, .int .i64 n, .int .i64 e, .int .i64 s, .int .i64 w, .int .i64 b]] => .gd (Sp.inR x 0 9) (.gd (Sp.inR y 0 9) (.gd (Sp.Die.good ⟨t, n, e, s, w, b⟩) (.ret [.one (.str (Sp.mkB [Sp.sgn x])), .one (.str (Sp.mkB [Sp.sgn y])), .one (.str (Sp.dieT ⟨t, n, e, s, w, b⟩))])))
  | _ => .fail
theorem impl_State_texts.ok : StubOk Tryd.prog C0 57 impl_State_texts.stub := by
  intro args res h
  unfold impl_State_texts.stub at h
  split at h
  · rename_i x y t n e s w b
    obtain ⟨h1, h0⟩ := gd_out h
    obtain ⟨h2, h0⟩ := gd_out h0
    obtain ⟨h3, h0⟩ := gd_out h0
    cases h0
    refine impl_State_texts.ev (n := 0) ?_
    unfold impl_State_texts.res
    rw [h1, h2, h3]; rfl
  · cases h
def strings_JoinC.stub : Stub
  | [.one (.sl 1 es), .one (.str t)] => .any (strC.decs es) fun l => .gd (Sp.isCol t) (.gd (decide ((Sp.jnc 58 (Sp.lb l)).length ≤ LIM)) (.ret [.one (.str (Sp.mkB (Sp.jnc 58 (Sp.lb l))))]))
  | _ => .fail
theorem strings_JoinC.ok : StubOk Tryd.prog C0 58 strings_JoinC.stub := by
  intro args res h
  unfold strings_JoinC.stub at h
  split at h
  · rename_i es t
    obtain ⟨l, h1, h0⟩ := any_out h
    obtain ⟨rfl, hl⟩ := Cod.decs_inv h1
    obtain ⟨h2, h0⟩ := gd_out h0
    obtain ⟨h3, h0⟩ := gd_out h0
    cases h0
    have h3 := of_decide_eq_true h3
    have h2 := of_decide_eq_true h2
    subst h2
    have e : Lib.join (l.map (·.data.toList)) (ByteArray.mk #[58]).data.toList = jnc 58 (lb l) := jnc_join 58 (lb l)
    have key := join_ok (C := C0) (fun h => h) Tryd.strJoin Tryd.strJoin_extra (f := 58) rfl Tryd.func58 (by kernel_rfl) (by kernel_rfl) rfl l ⟨#[58]⟩ hl (by rw [e]; exact h3)
    rw [e] at key
    exact key
  · cases h
theorem puT_len {q : ByteArray} {s : Sta} {px py pt : Int} (h : pzOk q s px py pt = true) : (jnc 58 [bl q, [sgn s.x], [sgn s.y], [sgn s.d.t, sgn s.d.n, sgn s.d.e, sgn s.d.s, sgn s.d.w, sgn s.d.b], [sgn px], [sgn py], [sgn pt]]).length ≤ 100 := by
  have h1 := isBo_size (okSt_out (puz_ok h).1).1
  rw [← bl_len] at h1
  simp [jnc]
  omega
theorem in69 {x : Int} (h : inR x 0 6 = true) : inR x 0 9 = true := by
  have := inR_out h
  unfold inR
  rw [Bool.and_eq_true, decide_eq_true_eq, decide_eq_true_eq]; omega
/-! impl_PuzzleText -/
noncomputable def impl_PuzzleText.cfg : Cfg := { C0 with keep := fun _ => none, nb := 0, M := tabM [(40, impl_IsPuzzle.stub), (57, impl_State_texts.stub), (59, strconv_Itoa.stub), (58, strings_JoinC.stub)], MM := tabB [] }
noncomputable def impl_PuzzleText.res (n : Nat) (a0_0 : ByteArray) (a0_1 : Int) (a0_2 : Int) (a0_3 : Int) (a0_4 : Int) (a0_5 : Int) (a0_6 : Int) (a0_7 : Int) (a0_8 : Int) (a0_9 : Int) (a0_10 : Int) (a0_11 : Int) : Option (List Q) :=
  bif decide (ByteArray.size a0_0 < (17179869184 : Nat)) then bif !(isBo brd a0_0 && (Die.good (Die.mk a0_3 a0_4 a0_5 a0_6 a0_7 a0_8) && isFl (rws a0_0) a0_1 a0_2) && (isFl (rws a0_0) a0_9 a0_10 && inR a0_11 (0 : Int) (9 : Int))) then some [Q.one (D.str (ByteArray.mk #[])), Q.one (D.bool false)] else bif inR a0_1 (0 : Int) (9 : Int) then bif inR a0_2 (0 : Int) (9 : Int) then bif Die.good (Die.mk a0_3 a0_4 a0_5 a0_6 a0_7 a0_8) then bif inR a0_9 (0 : Int) (9 : Int) then bif inR a0_10 (0 : Int) (9 : Int) then bif inR a0_11 (0 : Int) (9 : Int) then bif decide (List.length (jnc (58 : UInt8) (lb [a0_0, mkB [sgn a0_1], mkB [sgn a0_2], dieT (Die.mk a0_3 a0_4 a0_5 a0_6 a0_7 a0_8), mkB [sgn a0_9], mkB [sgn a0_10], mkB [sgn a0_11]])) ≤ (17179869184 : Nat)) then some [Q.one (D.str (mkB (jnc (58 : UInt8) (lb [a0_0, mkB [sgn a0_1], mkB [sgn a0_2], dieT (Die.mk a0_3 a0_4 a0_5 a0_6 a0_7 a0_8), mkB [sgn a0_9], mkB [sgn a0_10], mkB [sgn a0_11]])))), Q.one (D.bool true)] else none else none else none else none else none else none else none else none
theorem impl_PuzzleText.run (n : Nat) (a0_0 : ByteArray) (a0_1 : Int) (a0_2 : Int) (a0_3 : Int) (a0_4 : Int) (a0_5 : Int) (a0_6 : Int) (a0_7 : Int) (a0_8 : Int) (a0_9 : Int) (a0_10 : Int) (a0_11 : Int) :
    run1 impl_PuzzleText.cfg [RK.one LK.str, RK.one LK.bool] n Tryd.f29 [Q.agg [D.str a0_0, D.int IntKind.i64 a0_1, D.int IntKind.i64 a0_2, D.int IntKind.i64 a0_3, D.int IntKind.i64 a0_4, D.int IntKind.i64 a0_5, D.int IntKind.i64 a0_6, D.int IntKind.i64 a0_7, D.int IntKind.i64 a0_8, D.int IntKind.i64 a0_9, D.int IntKind.i64 a0_10, D.int IntKind.i64 a0_11]] = impl_PuzzleText.res n a0_0 a0_1 a0_2 a0_3 a0_4 a0_5 a0_6 a0_7 a0_8 a0_9 a0_10 a0_11 := by kernel_rfl
theorem impl_PuzzleText.ev {n : Nat} {a0_0 : ByteArray} {a0_1 : Int} {a0_2 : Int} {a0_3 : Int} {a0_4 : Int} {a0_5 : Int} {a0_6 : Int} {a0_7 : Int} {a0_8 : Int} {a0_9 : Int} {a0_10 : Int} {a0_11 : Int} {r : List Q} (h : impl_PuzzleText.res n a0_0 a0_1 a0_2 a0_3 a0_4 a0_5 a0_6 a0_7 a0_8 a0_9 a0_10 a0_11 = some r) : Snd Tryd.prog C0 29 [.agg [.str a0_0, .int .i64 a0_1, .int .i64 a0_2, .int .i64 a0_3, .int .i64 a0_4, .int .i64 a0_5, .int .i64 a0_6, .int .i64 a0_7, .int .i64 a0_8, .int .i64 a0_9, .int .i64 a0_10, .int .i64 a0_11]] r :=
  snd_ev (C := impl_PuzzleText.cfg) cfg0 mix rfl rfl rfl rfl rfl (.cons impl_IsPuzzle.ok (.cons impl_State_texts.ok (.cons strconv_Itoa.ok (.cons strings_JoinC.ok .nil)))) .nil rfl Tryd.func29 (by kernel_rfl) (by kernel_rfl) rfl ((impl_PuzzleText.run n a0_0 a0_1 a0_2 a0_3 a0_4 a0_5 a0_6 a0_7 a0_8 a0_9 a0_10 a0_11).trans h)

def impl_PuzzleText.stub : Stub
  | [.agg [.str q, .int .i64 x, .int .i64 y, .int .i64 t, .int .i64 n, .int .i64 e, .int .i64 s, .int .i64 w, .int .i64 b, .int .i64 px, .int .i64 py, .int .i64 pt]] => .gd (decide (q.size < LIM)) (.ret [.one (.str (Sp.puTO q ⟨x, y, ⟨t, n, e, s, w, b⟩⟩ px py pt)), .one (.bool (Sp.pzOk q ⟨x, y, ⟨t, n, e, s, w, b⟩⟩ px py pt))])
  | _ => .fail
theorem impl_PuzzleText.ok : StubOk Tryd.prog C0 29 impl_PuzzleText.stub := by
  intro args res h
  unfold impl_PuzzleText.stub at h
  split at h
  · rename_i q x y t n e s w b px py pt
    obtain ⟨hs, h0⟩ := gd_out h
    cases h0
    refine impl_PuzzleText.ev (n := 0) ?_
    unfold LIM at hs
    unfold impl_PuzzleText.res puTO
    rw [hs, show (isBo brd q && (Die.good ⟨t, n, e, s, w, b⟩ && isFl (rws q) x y) && (isFl (rws q) px py && inR pt 0 9)) = pzOk q ⟨x, y, ⟨t, n, e, s, w, b⟩⟩ px py pt from rfl]
    cases hz : pzOk q ⟨x, y, ⟨t, n, e, s, w, b⟩⟩ px py pt with
    | false => rfl
    | true =>
      obtain ⟨ho, g1, g2, g3⟩ := pz_out hz
      obtain ⟨hb, hg, hfl, hx, hy⟩ := okSt_out ho
      have hg : Die.good ⟨t, n, e, s, w, b⟩ = true := hg
      have hx : inR x 0 6 = true := hx
      have hy : inR y 0 6 = true := hy
      have hlen := puT_len hz
      have eL : lb [q, mkB [sgn x], mkB [sgn y], dieT ⟨t, n, e, s, w, b⟩, mkB [sgn px], mkB [sgn py], mkB [sgn pt]] = [bl q, [sgn x], [sgn y], [sgn t, sgn n, sgn e, sgn s, sgn w, sgn b], [sgn px], [sgn py], [sgn pt]] := by
        unfold lb dieT
        simp only [List.map_cons, List.map_nil, bl_mkB]
      have hl : (jnc 58 [bl q, [sgn x], [sgn y], [sgn t, sgn n, sgn e, sgn s, sgn w, sgn b], [sgn px], [sgn py], [sgn pt]]).length ≤ 17179869184 := by
        have : (jnc 58 [bl q, [sgn x], [sgn y], [sgn t, sgn n, sgn e, sgn s, sgn w, sgn b], [sgn px], [sgn py], [sgn pt]]).length ≤ 100 := hlen
        omega
      simp only [Bool.not_true, cond_false, cond_true, in69 hx, in69 hy, hg, in69 g1, in69 g2, g3, eL, hl, decide_true]
      rfl
  · cases h
/-! spec_puText -/
noncomputable def spec_puText.cfg : Cfg := { C0 with keep := fun _ => none, nb := 0, M := tabM [(89, spec_l1Num.stub), (90, spec_diText.stub)], MM := tabB [] }
noncomputable def spec_puText.res (n : Nat) (a0_0 : ByteArray) (a0_1 : Int) (a0_2 : Int) (a0_3 : Int) (a0_4 : Int) (a0_5 : Int) (a0_6 : Int) (a0_7 : Int) (a0_8 : Int) (a0_9 : Int) (a0_10 : Int) (a0_11 : Int) : Option (List Q) :=
  bif decide (ByteArray.size a0_0 + ByteArray.size (ByteArray.mk #[(58 : UInt8)]) ≤ (17179869184 : Nat)) then bif inR a0_1 (0 : Int) (9 : Int) then bif decide (ByteArray.size (a0_0 ++ ByteArray.mk #[(58 : UInt8)]) + ByteArray.size (mkB [sgn a0_1]) ≤ (17179869184 : Nat)) then bif decide (ByteArray.size (a0_0 ++ ByteArray.mk #[(58 : UInt8)] ++ mkB [sgn a0_1]) + ByteArray.size (ByteArray.mk #[(58 : UInt8)]) ≤ (17179869184 : Nat)) then bif inR a0_2 (0 : Int) (9 : Int) then bif decide (ByteArray.size (a0_0 ++ ByteArray.mk #[(58 : UInt8)] ++ mkB [sgn a0_1] ++ ByteArray.mk #[(58 : UInt8)]) + ByteArray.size (mkB [sgn a0_2]) ≤ (17179869184 : Nat)) then bif decide (ByteArray.size (a0_0 ++ ByteArray.mk #[(58 : UInt8)] ++ mkB [sgn a0_1] ++ ByteArray.mk #[(58 : UInt8)] ++ mkB [sgn a0_2]) + ByteArray.size (ByteArray.mk #[(58 : UInt8)]) ≤ (17179869184 : Nat)) then bif Die.good (Die.mk a0_3 a0_4 a0_5 a0_6 a0_7 a0_8) then bif decide (ByteArray.size (a0_0 ++ ByteArray.mk #[(58 : UInt8)] ++ mkB [sgn a0_1] ++ ByteArray.mk #[(58 : UInt8)] ++ mkB [sgn a0_2] ++ ByteArray.mk #[(58 : UInt8)]) + ByteArray.size (dieT (Die.mk a0_3 a0_4 a0_5 a0_6 a0_7 a0_8)) ≤ (17179869184 : Nat)) then bif decide (ByteArray.size (a0_0 ++ ByteArray.mk #[(58 : UInt8)] ++ mkB [sgn a0_1] ++ ByteArray.mk #[(58 : UInt8)] ++ mkB [sgn a0_2] ++ ByteArray.mk #[(58 : UInt8)] ++ dieT (Die.mk a0_3 a0_4 a0_5 a0_6 a0_7 a0_8)) + ByteArray.size (ByteArray.mk #[(58 : UInt8)]) ≤ (17179869184 : Nat)) then bif inR a0_9 (0 : Int) (9 : Int) then bif decide (ByteArray.size (a0_0 ++ ByteArray.mk #[(58 : UInt8)] ++ mkB [sgn a0_1] ++ ByteArray.mk #[(58 : UInt8)] ++ mkB [sgn a0_2] ++ ByteArray.mk #[(58 : UInt8)] ++ dieT (Die.mk a0_3 a0_4 a0_5 a0_6 a0_7 a0_8) ++ ByteArray.mk #[(58 : UInt8)]) + ByteArray.size (mkB [sgn a0_9]) ≤ (17179869184 : Nat)) then bif decide (ByteArray.size (a0_0 ++ ByteArray.mk #[(58 : UInt8)] ++ mkB [sgn a0_1] ++ ByteArray.mk #[(58 : UInt8)] ++ mkB [sgn a0_2] ++ ByteArray.mk #[(58 : UInt8)] ++ dieT (Die.mk a0_3 a0_4 a0_5 a0_6 a0_7 a0_8) ++ ByteArray.mk #[(58 : UInt8)] ++ mkB [sgn a0_9]) + ByteArray.size (ByteArray.mk #[(58 : UInt8)]) ≤ (17179869184 : Nat)) then bif inR a0_10 (0 : Int) (9 : Int) then bif decide (ByteArray.size (a0_0 ++ ByteArray.mk #[(58 : UInt8)] ++ mkB [sgn a0_1] ++ ByteArray.mk #[(58 : UInt8)] ++ mkB [sgn a0_2] ++ ByteArray.mk #[(58 : UInt8)] ++ dieT (Die.mk a0_3 a0_4 a0_5 a0_6 a0_7 a0_8) ++ ByteArray.mk #[(58 : UInt8)] ++ mkB [sgn a0_9] ++ ByteArray.mk #[(58 : UInt8)]) + ByteArray.size (mkB [sgn a0_10]) ≤ (17179869184 : Nat)) then bif decide (ByteArray.size (a0_0 ++ ByteArray.mk #[(58 : UInt8)] ++ mkB [sgn a0_1] ++ ByteArray.mk #[(58 : UInt8)] ++ mkB [sgn a0_2] ++ ByteArray.mk #[(58 : UInt8)] ++ dieT (Die.mk a0_3 a0_4 a0_5 a0_6 a0_7 a0_8) ++ ByteArray.mk #[(58 : UInt8)] ++ mkB [sgn a0_9] ++ ByteArray.mk #[(58 : UInt8)] ++ mkB [sgn a0_10]) + ByteArray.size (ByteArray.mk #[(58 : UInt8)]) ≤ (17179869184 : Nat)) then bif inR a0_11 (0 : Int) (9 : Int) then bif decide (ByteArray.size (a0_0 ++ ByteArray.mk #[(58 : UInt8)] ++ mkB [sgn a0_1] ++ ByteArray.mk #[(58 : UInt8)] ++ mkB [sgn a0_2] ++ ByteArray.mk #[(58 : UInt8)] ++ dieT (Die.mk a0_3 a0_4 a0_5 a0_6 a0_7 a0_8) ++ ByteArray.mk #[(58 : UInt8)] ++ mkB [sgn a0_9] ++ ByteArray.mk #[(58 : UInt8)] ++ mkB [sgn a0_10] ++ ByteArray.mk #[(58 : UInt8)]) + ByteArray.size (mkB [sgn a0_11]) ≤ (17179869184 : Nat)) then some [Q.one (D.str (a0_0 ++ ByteArray.mk #[(58 : UInt8)] ++ mkB [sgn a0_1] ++ ByteArray.mk #[(58 : UInt8)] ++ mkB [sgn a0_2] ++ ByteArray.mk #[(58 : UInt8)] ++ dieT (Die.mk a0_3 a0_4 a0_5 a0_6 a0_7 a0_8) ++ ByteArray.mk #[(58 : UInt8)] ++ mkB [sgn a0_9] ++ ByteArray.mk #[(58 : UInt8)] ++ mkB [sgn a0_10] ++ ByteArray.mk #[(58 : UInt8)] ++ mkB [sgn a0_11]))] else none else none else none else none else none else none else none else none else none else none else none else none else none else none else none else none else none else none
theorem spec_puText.run (n : Nat) (a0_0 : ByteArray) (a0_1 : Int) (a0_2 : Int) (a0_3 : Int) (a0_4 : Int) (a0_5 : Int) (a0_6 : Int) (a0_7 : Int) (a0_8 : Int) (a0_9 : Int) (a0_10 : Int) (a0_11 : Int) :
    run1 spec_puText.cfg [RK.one LK.str] n Tryd.f56 [Q.agg [D.str a0_0, D.int IntKind.i64 a0_1, D.int IntKind.i64 a0_2, D.int IntKind.i64 a0_3, D.int IntKind.i64 a0_4, D.int IntKind.i64 a0_5, D.int IntKind.i64 a0_6, D.int IntKind.i64 a0_7, D.int IntKind.i64 a0_8, D.int IntKind.i64 a0_9, D.int IntKind.i64 a0_10, D.int IntKind.i64 a0_11]] = spec_puText.res n a0_0 a0_1 a0_2 a0_3 a0_4 a0_5 a0_6 a0_7 a0_8 a0_9 a0_10 a0_11 := by kernel_rfl
theorem spec_puText.ev {n : Nat} {a0_0 : ByteArray} {a0_1 : Int} {a0_2 : Int} {a0_3 : Int} {a0_4 : Int} {a0_5 : Int} {a0_6 : Int} {a0_7 : Int} {a0_8 : Int} {a0_9 : Int} {a0_10 : Int} {a0_11 : Int} {r : List Q} (h : spec_puText.res n a0_0 a0_1 a0_2 a0_3 a0_4 a0_5 a0_6 a0_7 a0_8 a0_9 a0_10 a0_11 = some r) : Snd Tryd.prog C0 56 [.agg [.str a0_0, .int .i64 a0_1, .int .i64 a0_2, .int .i64 a0_3, .int .i64 a0_4, .int .i64 a0_5, .int .i64 a0_6, .int .i64 a0_7, .int .i64 a0_8, .int .i64 a0_9, .int .i64 a0_10, .int .i64 a0_11]] r :=
  snd_ev (C := spec_puText.cfg) cfg0 mix rfl rfl rfl rfl rfl (.cons spec_l1Num.ok (.cons spec_diText.ok .nil)) .nil rfl Tryd.func56 (by kernel_rfl) (by kernel_rfl) rfl ((spec_puText.run n a0_0 a0_1 a0_2 a0_3 a0_4 a0_5 a0_6 a0_7 a0_8 a0_9 a0_10 a0_11).trans h)

def spec_puText.stub : Stub
  | [.agg [.str q, .int .i64 x, .int .i64 y, .int .i64 t, .int .i64 n, .int .i64 e, .int .i64 s, .int .i64 w, .int .i64 b, .int .i64 px, .int .i64 py, .int .i64 pt]] => .gd (Sp.pzOk q ⟨x, y, ⟨t, n, e, s, w, b⟩⟩ px py pt) (.ret [.one (.str (Sp.puT q ⟨x, y, ⟨t, n, e, s, w, b⟩⟩ px py pt))])
  | _ => .fail
theorem spec_puText.ok : StubOk Tryd.prog C0 56 spec_puText.stub := by
  intro args res h
  unfold spec_puText.stub at h
  split at h
  · rename_i q x y t n e s w b px py pt
    obtain ⟨hz, h0⟩ := gd_out h
    cases h0
    refine spec_puText.ev (n := 0) ?_
    obtain ⟨ho, g1, g2, g3⟩ := pz_out hz
    obtain ⟨hb, hg, hfl, hx, hy⟩ := okSt_out ho
    have hg : Die.good ⟨t, n, e, s, w, b⟩ = true := hg
    have hx : inR x 0 6 = true := hx
    have hy : inR y 0 6 = true := hy
    have hs := isBo_size hb
    obtain ⟨l, hl⟩ : ∃ l, q = mkB l := ⟨bl q, (mkB_bl q).symm⟩
    have hll : l.length ≤ 42 := by rw [hl, mkB_size] at hs; exact hs
    unfold spec_puText.res puT dieT
    have ec : ByteArray.mk #[58] = mkB [58] := rfl
    simp only [hl, ec, mkB_app, mkB_size, bl_mkB, List.length_append, List.length_cons, List.length_nil, in69 hx, in69 hy, hg, in69 g1, in69 g2, g3, cond_true]
    simp (disch := omega) only [decide_eq_true, cond_true]
    simp only [jnc, List.map_cons, List.map_nil, List.flatten_cons, List.flatten_nil, List.append_assoc, List.cons_append, List.nil_append, List.append_nil]
  · cases h
/-! spec_PuzzleText -/
noncomputable def spec_PuzzleText.cfg : Cfg := { C0 with keep := fun _ => none, nb := 0, M := tabM [(55, spec_puGood.stub), (56, spec_puText.stub)], MM := tabB [] }
noncomputable def spec_PuzzleText.res (n : Nat) (a0_0 : ByteArray) (a0_1 : Int) (a0_2 : Int) (a0_3 : Int) (a0_4 : Int) (a0_5 : Int) (a0_6 : Int) (a0_7 : Int) (a0_8 : Int) (a0_9 : Int) (a0_10 : Int) (a0_11 : Int) : Option (List Q) :=
  bif !(isBo brd a0_0 && (Die.good (Die.mk a0_3 a0_4 a0_5 a0_6 a0_7 a0_8) && isFl (rws a0_0) a0_1 a0_2) && (isFl (rws a0_0) a0_9 a0_10 && inR a0_11 (0 : Int) (9 : Int))) then some [Q.one (D.str (ByteArray.mk #[])), Q.one (D.bool false)] else bif pzOk a0_0 (Sta.mk a0_1 a0_2 (Die.mk a0_3 a0_4 a0_5 a0_6 a0_7 a0_8)) a0_9 a0_10 a0_11 then some [Q.one (D.str (puT a0_0 (Sta.mk a0_1 a0_2 (Die.mk a0_3 a0_4 a0_5 a0_6 a0_7 a0_8)) a0_9 a0_10 a0_11)), Q.one (D.bool true)] else none
theorem spec_PuzzleText.run (n : Nat) (a0_0 : ByteArray) (a0_1 : Int) (a0_2 : Int) (a0_3 : Int) (a0_4 : Int) (a0_5 : Int) (a0_6 : Int) (a0_7 : Int) (a0_8 : Int) (a0_9 : Int) (a0_10 : Int) (a0_11 : Int) :
    run1 spec_PuzzleText.cfg [RK.one LK.str, RK.one LK.bool] n Tryd.f28 [Q.agg [D.str a0_0, D.int IntKind.i64 a0_1, D.int IntKind.i64 a0_2, D.int IntKind.i64 a0_3, D.int IntKind.i64 a0_4, D.int IntKind.i64 a0_5, D.int IntKind.i64 a0_6, D.int IntKind.i64 a0_7, D.int IntKind.i64 a0_8, D.int IntKind.i64 a0_9, D.int IntKind.i64 a0_10, D.int IntKind.i64 a0_11]] = spec_PuzzleText.res n a0_0 a0_1 a0_2 a0_3 a0_4 a0_5 a0_6 a0_7 a0_8 a0_9 a0_10 a0_11 := by kernel_rfl
theorem spec_PuzzleText.ev {n : Nat} {a0_0 : ByteArray} {a0_1 : Int} {a0_2 : Int} {a0_3 : Int} {a0_4 : Int} {a0_5 : Int} {a0_6 : Int} {a0_7 : Int} {a0_8 : Int} {a0_9 : Int} {a0_10 : Int} {a0_11 : Int} {r : List Q} (h : spec_PuzzleText.res n a0_0 a0_1 a0_2 a0_3 a0_4 a0_5 a0_6 a0_7 a0_8 a0_9 a0_10 a0_11 = some r) : Snd Tryd.prog C0 28 [.agg [.str a0_0, .int .i64 a0_1, .int .i64 a0_2, .int .i64 a0_3, .int .i64 a0_4, .int .i64 a0_5, .int .i64 a0_6, .int .i64 a0_7, .int .i64 a0_8, .int .i64 a0_9, .int .i64 a0_10, .int .i64 a0_11]] r :=
  snd_ev (C := spec_PuzzleText.cfg) cfg0 mix rfl rfl rfl rfl rfl (.cons spec_puGood.ok (.cons spec_puText.ok .nil)) .nil rfl Tryd.func28 (by kernel_rfl) (by kernel_rfl) rfl ((spec_PuzzleText.run n a0_0 a0_1 a0_2 a0_3 a0_4 a0_5 a0_6 a0_7 a0_8 a0_9 a0_10 a0_11).trans h)

def spec_PuzzleText.stub : Stub
  | [.agg [.str q, .int .i64 x, .int .i64 y, .int .i64 t, .int .i64 n, .int .i64 e, .int .i64 s, .int .i64 w, .int .i64 b, .int .i64 px, .int .i64 py, .int .i64 pt]] => .ret [.one (.str (Sp.puTO q ⟨x, y, ⟨t, n, e, s, w, b⟩⟩ px py pt)), .one (.bool (Sp.pzOk q ⟨x, y, ⟨t, n, e, s, w, b⟩⟩ px py pt))]
  | _ => .fail
theorem spec_PuzzleText.ok : StubOk Tryd.prog C0 28 spec_PuzzleText.stub := by
  intro args res h
  unfold spec_PuzzleText.stub at h
  split at h
  · rename_i q x y t n e s w b px py pt
    cases h
    refine spec_PuzzleText.ev (n := 0) ?_
    unfold spec_PuzzleText.res puTO
    rw [show (isBo brd q && (Die.good ⟨t, n, e, s, w, b⟩ && isFl (rws q) x y) && (isFl (rws q) px py && inR pt 0 9)) = pzOk q ⟨x, y, ⟨t, n, e, s, w, b⟩⟩ px py pt from rfl]
    cases pzOk q ⟨x, y, ⟨t, n, e, s, w, b⟩⟩ px py pt <;> rfl
  · cases h
/-! laws_FnExactPuzzleText -/
noncomputable def laws_FnExactPuzzleText.cfg : Cfg := { C0 with keep := fun _ => none, nb := 0, M := tabM [(11, laws_szPuzzle.stub), (13, laws_toPuzzle.stub), (28, spec_PuzzleText.stub), (29, impl_PuzzleText.stub)], MM := tabB [] }
noncomputable def laws_FnExactPuzzleText.res (n : Nat) (a0_0 : ByteArray) (a0_1 : Int) (a0_2 : Int) (a0_3 : Int) (a0_4 : Int) (a0_5 : Int) (a0_6 : Int) (a0_7 : Int) (a0_8 : Int) (a0_9 : Int) (a0_10 : Int) (a0_11 : Int) : Option (List Q) :=
  bif decide (ByteArray.size a0_0 ≤ (9223372036854775807 : Nat)) then bif decide ((bif decide (ByteArray.size a0_0 ≤ (1048576 : Nat)) then (1048576 : Int) - (↑(ByteArray.size a0_0) : Int) else (-1 : Int)) < (0 : Int)) then some [Q.one (D.bool true)] else bif decide (ByteArray.size a0_0 < (17179869184 : Nat)) then bif !strEq (puTO a0_0 (Sta.mk a0_1 a0_2 (Die.mk a0_3 a0_4 a0_5 a0_6 a0_7 a0_8)) a0_9 a0_10 a0_11) (puTO a0_0 (Sta.mk a0_1 a0_2 (Die.mk a0_3 a0_4 a0_5 a0_6 a0_7 a0_8)) a0_9 a0_10 a0_11) then some [Q.one (D.bool false)] else bif !pzOk a0_0 (Sta.mk a0_1 a0_2 (Die.mk a0_3 a0_4 a0_5 a0_6 a0_7 a0_8)) a0_9 a0_10 a0_11 == pzOk a0_0 (Sta.mk a0_1 a0_2 (Die.mk a0_3 a0_4 a0_5 a0_6 a0_7 a0_8)) a0_9 a0_10 a0_11 then some [Q.one (D.bool false)] else some [Q.one (D.bool true)] else none else none
theorem laws_FnExactPuzzleText.run (n : Nat) (a0_0 : ByteArray) (a0_1 : Int) (a0_2 : Int) (a0_3 : Int) (a0_4 : Int) (a0_5 : Int) (a0_6 : Int) (a0_7 : Int) (a0_8 : Int) (a0_9 : Int) (a0_10 : Int) (a0_11 : Int) :
    run1 laws_FnExactPuzzleText.cfg [RK.one LK.bool] n Tryd.f8 [Q.agg [D.str a0_0, D.int IntKind.i64 a0_1, D.int IntKind.i64 a0_2, D.int IntKind.i64 a0_3, D.int IntKind.i64 a0_4, D.int IntKind.i64 a0_5, D.int IntKind.i64 a0_6, D.int IntKind.i64 a0_7, D.int IntKind.i64 a0_8, D.int IntKind.i64 a0_9, D.int IntKind.i64 a0_10, D.int IntKind.i64 a0_11]] = laws_FnExactPuzzleText.res n a0_0 a0_1 a0_2 a0_3 a0_4 a0_5 a0_6 a0_7 a0_8 a0_9 a0_10 a0_11 := by kernel_rfl
theorem laws_FnExactPuzzleText.ev {n : Nat} {a0_0 : ByteArray} {a0_1 : Int} {a0_2 : Int} {a0_3 : Int} {a0_4 : Int} {a0_5 : Int} {a0_6 : Int} {a0_7 : Int} {a0_8 : Int} {a0_9 : Int} {a0_10 : Int} {a0_11 : Int} {r : List Q} (h : laws_FnExactPuzzleText.res n a0_0 a0_1 a0_2 a0_3 a0_4 a0_5 a0_6 a0_7 a0_8 a0_9 a0_10 a0_11 = some r) : Snd Tryd.prog C0 8 [.agg [.str a0_0, .int .i64 a0_1, .int .i64 a0_2, .int .i64 a0_3, .int .i64 a0_4, .int .i64 a0_5, .int .i64 a0_6, .int .i64 a0_7, .int .i64 a0_8, .int .i64 a0_9, .int .i64 a0_10, .int .i64 a0_11]] r :=
  snd_ev (C := laws_FnExactPuzzleText.cfg) cfg0 mix rfl rfl rfl rfl rfl (.cons laws_szPuzzle.ok (.cons laws_toPuzzle.ok (.cons spec_PuzzleText.ok (.cons impl_PuzzleText.ok .nil)))) .nil rfl Tryd.func8 (by kernel_rfl) (by kernel_rfl) rfl ((laws_FnExactPuzzleText.run n a0_0 a0_1 a0_2 a0_3 a0_4 a0_5 a0_6 a0_7 a0_8 a0_9 a0_10 a0_11).trans h)

theorem laws_FnExactPuzzleText.law (q : ByteArray) (hq : q.size ≤ 9223372036854775807) (x y t n e s w b px py pt : Int) : Snd Tryd.prog C0 8 [.agg [.str q, .int .i64 x, .int .i64 y, .int .i64 t, .int .i64 n, .int .i64 e, .int .i64 s, .int .i64 w, .int .i64 b, .int .i64 px, .int .i64 py, .int .i64 pt]] [.one (.bool true)] := by
  refine laws_FnExactPuzzleText.ev (n := 0) ?_
  unfold laws_FnExactPuzzleText.res
  simp only [hq, decide_true, cond_true, szNeg]
  by_cases hs : q.size ≤ 1048576
  · have h1 : q.size < 17179869184 := by omega
    simp only [hs, h1, decide_true, cond_true, Bool.not_true, cond_false, strEq_refl, beq_self_eq_true, bne_self_eq_false]
  · simp only [hs, decide_false, Bool.not_false, cond_true, cond_false]
end Go.Proofs.EV.PL
