import Derived.RangeFuncBox
import Derived.RangeFuncLeaves
import Derived.Shelf.Abstract
import Derived.WalkKit
import Derived.OwnWalkIn
import Derived.TacticsInMore
import Derived.LoopNIn
import Derived.LoopIn
import Derived.Maps.AppendAt
import Derived.Test.YtapigfcnpjchbaaGreatDoorPlA
set_option linter.unusedVariables false
set_option linter.unusedSimpArgs false
set_option maxHeartbeats 4000000
/-! The program's die rolls over cells. -/
namespace Go.Proofs.EV.PL
open Go Go.Proofs Go.Proofs.EV Sp
/-! slices_Index_Sint_int -/
noncomputable def slices_Index_Sint_int.cfg : Cfg := { C0 with keep := fun | 2 => some [0, 1, 7, 8] | _ => none, nb := 0, M := tabM [], MM := tabB [] }
noncomputable def slices_Index_Sint_int.l2 (n : Nat) (m2 : Nat) (l0 : List (List D)) (i1 : Int) (i2 : Int) (i3 : Int) : Option (List Q) :=
  loopAt slices_Index_Sint_int.cfg [RK.one (LK.int IntKind.i64)] n Tryz.f148 [1, 0, 1, 0] [] m2 (St.mk [V.one false (D.sl (1 : Nat) l0), V.one true (D.int IntKind.i64 i1), V.undef, V.undef, V.undef, V.undef, V.undef, V.one true (D.int IntKind.i64 i2), V.one true (D.int IntKind.i64 i3), V.undef, V.undef, V.undef, V.undef, V.undef, V.undef, V.undef, V.undef, V.undef, V.undef] [])
theorem slices_Index_Sint_int.l2_eq (n : Nat) (m2 : Nat) (l0 : List (List D)) (i1 : Int) (i2 : Int) (i3 : Int) :
    slices_Index_Sint_int.l2 n (m2 + 1) l0 i1 i2 i3 = bif decide (i3 < i2) then bif decide ((0 : Int) ≤ i3) then bif decide (i3 < (↑(List.length l0) : Int)) then Option.bind (Option.bind (some (cellD l0 (Int.toNat i3) (0 : Nat))) (D.int? IntKind.i64)) fun (i1_1 : Int) => bif i1 == i1_1 then some [Q.one (D.int IntKind.i64 i3)] else slices_Index_Sint_int.l2 n m2 l0 i1 i2 (IntKind.wrap IntKind.i64 (i3 + (1 : Int))) else none else none else some [Q.one (D.int IntKind.i64 (-1 : Int))] := by kernel_rfl
noncomputable def slices_Index_Sint_int.res (n : Nat) (a0 : List (List D)) (a1 : Int) : Option (List Q) :=
  slices_Index_Sint_int.l2 n n a0 a1 (↑(List.length a0) : Int) (0 : Int)
theorem slices_Index_Sint_int.run (n : Nat) (a0 : List (List D)) (a1 : Int) :
    run1 slices_Index_Sint_int.cfg [RK.one (LK.int IntKind.i64)] n Tryz.f148 [Q.one (D.sl (1 : Nat) a0), Q.one (D.int IntKind.i64 a1)] = slices_Index_Sint_int.res n a0 a1 := by kernel_rfl
theorem slices_Index_Sint_int.ev {n : Nat} {a0 : List (List D)} {a1 : Int} {r : List Q} (h : slices_Index_Sint_int.res n a0 a1 = some r) : Snd Tryz.prog C0 148 [.one (.sl 1 a0), .one (.int .i64 a1)] r :=
  snd_ev (C := slices_Index_Sint_int.cfg) cfg0 mix rfl rfl rfl rfl rfl .nil .nil rfl Tryz.func148 (by kernel_rfl) (by kernel_rfl) rfl ((slices_Index_Sint_int.run n a0 a1).trans h)

theorem slices_Index_Sint_int.l2_run {n : Nat} {l : List Int} {v : Int} (hl : l.length ≤ LIM) : ∀ (d k m : Nat), k + d = l.length → d < m →
    slices_Index_Sint_int.l2 n m (intC.encs l) v ((l.length : Nat) : Int) (k : Int) = some [Q.one (D.int .i64 (bif decide (ixI (l.drop k) v < 0) then -1 else ixI (l.drop k) v + k))] := by
  intro d
  induction d with
  | zero =>
    intro k m hk hm
    obtain ⟨m, rfl⟩ : ∃ m', m = m' + 1 := ⟨m - 1, by omega⟩
    have h1 : ¬ (k : Int) < ((l.length : Nat) : Int) := by omega
    rw [slices_Index_Sint_int.l2_eq, List.drop_of_length_le (by omega)]
    simp -implicitDefEqProofs only [h1, decide_false, cond_false]
    rfl
  | succ d ih =>
    intro k m hk hm
    obtain ⟨m, rfl⟩ : ∃ m', m = m' + 1 := ⟨m - 1, by omega⟩
    have hkl : k < l.length := by omega
    have h1 : (k : Int) < ((l.length : Nat) : Int) := by omega
    have step := ih (k + 1) m (by omega) (by omega)
    rw [slices_Index_Sint_int.l2_eq, List.drop_eq_getElem_cons hkl, ixI]
    simp -implicitDefEqProofs only [h1, Cod.encs_len, Int.natCast_nonneg, Int.toNat_natCast, intC_gd hkl, gd_get hkl, decide_true, cond_true, Option.bind_some, wrap_succ (show k ≤ LIM by omega), step]
    by_cases hv : v = l[k]
    · have e : (v == l[k]) = true := by simpa using hv
      have : ¬ (0 : Int) < 0 := by omega
      rw [e, decide_eq_true hv, cond_true, cond_true, decide_eq_false this, cond_false, Int.zero_add]
    · have e : (v == l[k]) = false := by simpa using hv
      rw [e, decide_eq_false hv, cond_false, cond_false]
      by_cases hn : ixI (l.drop (k + 1)) v < 0
      · have : (-1 : Int) < 0 := by omega
        rw [decide_eq_true hn]
        simp only [cond_true]
        rw [decide_eq_true this, cond_true]
      · have : ¬ ixI (l.drop (k + 1)) v + 1 < 0 := by omega
        rw [decide_eq_false hn]
        simp only [cond_false]
        rw [decide_eq_false this, cond_false]
        congr 4
        omega
def slices_Index_Sint_int.stub : Stub
  | [.one (.sl 1 es), .one (.int .i64 v)] => .any (intC.decs es) fun l => .ret [.one (.int .i64 (Sp.ixI l v))]
  | _ => .fail
theorem ixI_ge : ∀ (l : List Int) (v : Int), -1 ≤ ixI l v
  | [], _ => by rw [ixI]; omega
  | a :: l, v => by
    have := ixI_ge l v
    rw [ixI]
    cases decide (v = a) with
    | true => rw [cond_true]; omega
    | false =>
      rw [cond_false]
      by_cases h : ixI l v < 0
      · rw [decide_eq_true h, cond_true]; omega
      · rw [decide_eq_false h, cond_false]; omega
theorem slices_Index_Sint_int.ok : StubOk Tryz.prog C0 148 slices_Index_Sint_int.stub := by
  intro args res h
  unfold slices_Index_Sint_int.stub at h
  split at h
  · rename_i es v
    obtain ⟨l, h1, h0⟩ := any_out h
    obtain ⟨rfl, hl⟩ := Cod.decs_inv h1
    cases h0
    refine slices_Index_Sint_int.ev (n := l.length + 1) ?_
    unfold slices_Index_Sint_int.res
    rw [Cod.encs_len]
    have key := slices_Index_Sint_int.l2_run (n := l.length + 1) (v := v) hl l.length 0 (l.length + 1) (by omega) (by omega)
    refine Eq.trans key ?_
    rw [List.drop_zero]
    have := ixI_ge l v
    by_cases hn : ixI l v < 0
    · have e : ixI l v = -1 := by omega
      rw [e]; rfl
    · rw [decide_eq_false hn, cond_false]
      simp
  · cases h
/-! slices_Contains_Sint_int -/
noncomputable def slices_Contains_Sint_int.cfg : Cfg := { C0 with keep := fun _ => none, nb := 0, M := tabM [(148, slices_Index_Sint_int.stub)], MM := tabB [] }
noncomputable def slices_Contains_Sint_int.res (n : Nat) (a0 : List (List D)) (a1 : Int) : Option (List Q) :=
  Option.bind (Cod.decs intC a0) fun (l1 : List Int) => some [Q.one (D.bool (decide (ixI l1 a1 ≥ (0 : Int))))]
theorem slices_Contains_Sint_int.run (n : Nat) (a0 : List (List D)) (a1 : Int) :
    run1 slices_Contains_Sint_int.cfg [RK.one LK.bool] n Tryz.f109 [Q.one (D.sl (1 : Nat) a0), Q.one (D.int IntKind.i64 a1)] = slices_Contains_Sint_int.res n a0 a1 := by kernel_rfl
theorem slices_Contains_Sint_int.ev {n : Nat} {a0 : List (List D)} {a1 : Int} {r : List Q} (h : slices_Contains_Sint_int.res n a0 a1 = some r) : Snd Tryz.prog C0 109 [.one (.sl 1 a0), .one (.int .i64 a1)] r :=
  snd_ev (C := slices_Contains_Sint_int.cfg) cfg0 mix rfl rfl rfl rfl rfl (.cons slices_Index_Sint_int.ok .nil) .nil rfl Tryz.func109 (by kernel_rfl) (by kernel_rfl) rfl ((slices_Contains_Sint_int.run n a0 a1).trans h)

def slices_Contains_Sint_int.stub : Stub
  | [.one (.sl 1 es), .one (.int .i64 v)] => .any (intC.decs es) fun l => .ret [.one (.bool (Sp.hasI l v))]
  | _ => .fail
theorem slices_Contains_Sint_int.ok : StubOk Tryz.prog C0 109 slices_Contains_Sint_int.stub := by
  intro args res h
  unfold slices_Contains_Sint_int.stub at h
  split at h
  · rename_i es v
    obtain ⟨l, h1, h0⟩ := any_out h
    cases h0
    refine slices_Contains_Sint_int.ev (n := 0) ?_
    unfold slices_Contains_Sint_int.res hasI
    rw [h1, Option.bind_some, ← ixI_has]
  · cases h
/-! impl_piece_fold -/
noncomputable def impl_piece_fold.cfg : Cfg := { C0 with keep := fun | 3 => some [0, 4, 5, 20, 21] | 10 => some [0, 4, 5, 7, 8, 9] | 14 => some [0, 4, 5, 7, 8, 9, 10, 49] | _ => none, nb := 0, M := tabM [(91, impl_piece_place.stub), (90, impl_plain.stub), (92, impl_next.stub), (93, impl_Die_roll.stub)], MM := tabB [] }
noncomputable def impl_piece_fold.l3 (n : Nat) (m3 : Nat) (l0 : List (List D)) (i1 : Int) (i2 : Int) (l3 : List (List D)) (l4 : List (List D)) : Option (List Q) :=
  loopAt impl_piece_fold.cfg [RK.own (1 : Nat), RK.own (1 : Nat)] n Tryz.f68 [1, 1, 0, 1, 0] [] m3 (St.mk [V.one false (D.sl (2 : Nat) l0), V.undef, V.undef, V.undef, V.rw (0 : Nat), V.rw (1 : Nat), V.undef, V.undef, V.undef, V.undef, V.undef, V.undef, V.undef, V.undef, V.undef, V.undef, V.undef, V.undef, V.undef, V.undef, V.one true (D.int IntKind.i64 i1), V.one true (D.int IntKind.i64 i2), V.undef, V.undef, V.undef, V.undef, V.undef, V.undef, V.undef, V.undef, V.undef, V.undef, V.undef, V.undef, V.undef, V.undef, V.undef, V.undef, V.undef, V.undef, V.undef, V.undef, V.undef, V.undef, V.undef, V.undef, V.undef, V.undef, V.undef, V.undef, V.undef, V.undef, V.undef, V.undef, V.undef, V.undef, V.undef, V.undef, V.undef, V.undef, V.undef, V.undef, V.undef, V.undef, V.undef, V.undef, V.undef, V.undef, V.undef, V.undef, V.undef, V.undef, V.undef, V.undef, V.undef, V.undef, V.undef, V.undef, V.undef, V.undef, V.undef, V.undef, V.undef, V.undef, V.undef, V.undef, V.undef, V.undef, V.undef, V.undef, V.undef, V.undef, V.undef, V.undef, V.undef, V.undef, V.undef, V.undef, V.undef, V.undef, V.undef, V.undef, V.undef, V.undef, V.undef, V.undef, V.undef, V.undef, V.undef, V.undef, V.undef] [Ob.row false (1 : Nat) l3, Ob.row false (1 : Nat) l4])
noncomputable def impl_piece_fold.l10 (n : Nat) (m10 : Nat) (l0 : List (List D)) (i1 : Int) (l2 : List (List D)) (l3 : List (List D)) (l4 : List (List D)) (l5 : List (List D)) : Option (List Q) :=
  loopAt impl_piece_fold.cfg [RK.own (1 : Nat), RK.own (1 : Nat)] n Tryz.f68 [1, 1, 1, 1, 1, 0, 1, 0] [] m10 (St.mk [V.one false (D.sl (2 : Nat) l0), V.undef, V.undef, V.undef, V.rw (0 : Nat), V.rw (1 : Nat), V.undef, V.rw (2 : Nat), V.rw (3 : Nat), V.one true (D.int IntKind.i64 i1), V.undef, V.undef, V.undef, V.undef, V.undef, V.undef, V.undef, V.undef, V.undef, V.undef, V.undef, V.undef, V.undef, V.undef, V.undef, V.undef, V.undef, V.undef, V.undef, V.undef, V.undef, V.undef, V.undef, V.undef, V.undef, V.undef, V.undef, V.undef, V.undef, V.undef, V.undef, V.undef, V.undef, V.undef, V.undef, V.undef, V.undef, V.undef, V.undef, V.undef, V.undef, V.undef, V.undef, V.undef, V.undef, V.undef, V.undef, V.undef, V.undef, V.undef, V.undef, V.undef, V.undef, V.undef, V.undef, V.undef, V.undef, V.undef, V.undef, V.undef, V.undef, V.undef, V.undef, V.undef, V.undef, V.undef, V.undef, V.undef, V.undef, V.undef, V.undef, V.undef, V.undef, V.undef, V.undef, V.undef, V.undef, V.undef, V.undef, V.undef, V.undef, V.undef, V.undef, V.undef, V.undef, V.undef, V.undef, V.undef, V.undef, V.undef, V.undef, V.undef, V.undef, V.undef, V.undef, V.undef, V.undef, V.undef, V.undef, V.undef, V.undef] [Ob.row false (1 : Nat) l2, Ob.row false (1 : Nat) l3, Ob.row false (6 : Nat) l4, Ob.row false (1 : Nat) l5])
noncomputable def impl_piece_fold.l14 (n : Nat) (m10 : Nat) (m14 : Nat) (l0 : List (List D)) (i1 : Int) (i2 : Int) (i3 : Int) (l4 : List (List D)) (l5 : List (List D)) (l6 : List (List D)) (l7 : List (List D)) : Option (List Q) :=
  loopAt impl_piece_fold.cfg [RK.own (1 : Nat), RK.own (1 : Nat)] n Tryz.f68 [1, 1, 1, 1, 1, 0, 1, 0, 0, 1, 0, 0, 1, 1, 0] [m10] m14 (St.mk [V.one false (D.sl (2 : Nat) l0), V.undef, V.undef, V.undef, V.rw (0 : Nat), V.rw (1 : Nat), V.undef, V.rw (2 : Nat), V.rw (3 : Nat), V.one true (D.int IntKind.i64 i1), V.one true (D.int IntKind.i64 i2), V.undef, V.undef, V.undef, V.undef, V.undef, V.undef, V.undef, V.undef, V.undef, V.undef, V.undef, V.undef, V.undef, V.undef, V.undef, V.undef, V.undef, V.undef, V.undef, V.undef, V.undef, V.undef, V.undef, V.undef, V.undef, V.undef, V.undef, V.undef, V.undef, V.undef, V.undef, V.undef, V.undef, V.undef, V.undef, V.undef, V.undef, V.undef, V.one true (D.int IntKind.i64 i3), V.undef, V.undef, V.undef, V.undef, V.undef, V.undef, V.undef, V.undef, V.undef, V.undef, V.undef, V.undef, V.undef, V.undef, V.undef, V.undef, V.undef, V.undef, V.undef, V.undef, V.undef, V.undef, V.undef, V.undef, V.undef, V.undef, V.undef, V.undef, V.undef, V.undef, V.undef, V.undef, V.undef, V.undef, V.undef, V.undef, V.undef, V.undef, V.undef, V.undef, V.undef, V.undef, V.undef, V.undef, V.undef, V.undef, V.undef, V.undef, V.undef, V.undef, V.undef, V.undef, V.undef, V.undef, V.undef, V.undef, V.undef, V.undef, V.undef, V.undef, V.undef] [Ob.row false (1 : Nat) l4, Ob.row false (1 : Nat) l5, Ob.row false (6 : Nat) l6, Ob.row false (1 : Nat) l7])
theorem impl_piece_fold.l3_eq (n : Nat) (m3 : Nat) (l0 : List (List D)) (i1 : Int) (i2 : Int) (l3 : List (List D)) (l4 : List (List D)) :
    impl_piece_fold.l3 n (m3 + 1) l0 i1 i2 l3 l4 = bif decide (i2 < i1) then bif decide ((0 : Int) ≤ i2) then bif decide (i2 < (↑(List.length l4) : Int)) then impl_piece_fold.l3 n m3 l0 i1 (IntKind.wrap IntKind.i64 (i2 + (1 : Int))) l3 (setRow (1 : Nat) l4 (Int.toNat i2) (0 : Nat) [D.int IntKind.i64 (-1 : Int)]) else none else none else bif decide ((↑(List.length l0) : Int) ≤ (↑(List.length l0) : Int)) then bif decide ((↑(List.length l0) : Int) ≤ (17179869184 : Int)) then bif decide ((0 : Int) < (↑(List.length (List.replicate (Int.toNat (↑(List.length l0) : Int)) [D.int IntKind.i64 (0 : Int), D.int IntKind.i64 (0 : Int), D.int IntKind.i64 (0 : Int), D.int IntKind.i64 (0 : Int), D.int IntKind.i64 (0 : Int), D.int IntKind.i64 (0 : Int)])) : Int)) then bif decide ((0 : Int) < (↑(List.length l3) : Int)) then bif decide ((0 : Int) < (↑(List.length l4) : Int)) then impl_piece_fold.l10 n n l0 (0 : Int) (setRow (1 : Nat) l3 (Int.toNat (0 : Int)) (0 : Nat) [D.int IntKind.i64 (5 : Int)]) (setRow (1 : Nat) l4 (Int.toNat (0 : Int)) (0 : Nat) [D.int IntKind.i64 (0 : Int)]) (setRow (6 : Nat) (List.replicate (Int.toNat (↑(List.length l0) : Int)) [D.int IntKind.i64 (0 : Int), D.int IntKind.i64 (0 : Int), D.int IntKind.i64 (0 : Int), D.int IntKind.i64 (0 : Int), D.int IntKind.i64 (0 : Int), D.int IntKind.i64 (0 : Int)]) (Int.toNat (0 : Int)) (0 : Nat) [D.int IntKind.i64 (Die.t unitD), D.int IntKind.i64 (Die.n unitD), D.int IntKind.i64 (Die.e unitD), D.int IntKind.i64 (Die.s unitD), D.int IntKind.i64 (Die.w unitD), D.int IntKind.i64 (Die.b unitD)]) [[D.int IntKind.i64 (0 : Int)]] else none else none else none else none else none := by kernel_rfl
theorem impl_piece_fold.l10_eq (n : Nat) (m10 : Nat) (l0 : List (List D)) (i1 : Int) (l2 : List (List D)) (l3 : List (List D)) (l4 : List (List D)) (l5 : List (List D)) :
    impl_piece_fold.l10 n (m10 + 1) l0 i1 l2 l3 l4 l5 = bif decide (i1 < (↑(List.length l5) : Int)) then bif decide ((0 : Int) ≤ i1) then bif decide (i1 < (↑(List.length l5) : Int)) then Option.bind (Option.bind (some (cellD l5 (Int.toNat i1) (0 : Nat))) (D.int? IntKind.i64)) fun (i1_1 : Int) => impl_piece_fold.l14 n m10 n l0 i1 i1_1 (0 : Int) l2 l3 l4 l5 else none else none else some [Q.one (D.sl (1 : Nat) l2), Q.one (D.sl (1 : Nat) l3)] := by kernel_rfl
theorem impl_piece_fold.l14_eq (n : Nat) (m10 : Nat) (m14 : Nat) (l0 : List (List D)) (i1 : Int) (i2 : Int) (i3 : Int) (l4 : List (List D)) (l5 : List (List D)) (l6 : List (List D)) (l7 : List (List D)) :
    impl_piece_fold.l14 n m10 (m14 + 1) l0 i1 i2 i3 l4 l5 l6 l7 = bif decide (i3 < (4 : Int)) then bif decide ((0 : Int) ≤ i2) then bif decide (i2 < (↑(List.length l0) : Int)) then Option.bind (Option.bind (some (cellD l0 (Int.toNat i2) (0 : Nat))) (D.int? IntKind.i64)) fun (i2_1 : Int) => bif decide ((0 : Int) ≤ i2) then bif decide (i2 < (↑(List.length l0) : Int)) then Option.bind (Option.bind (some (cellD l0 (Int.toNat i2) (1 : Nat))) (D.int? IntKind.i64)) fun (i3_1 : Int) => bif decide ((0 : Int) ≤ i3) then bif decide (i3 < (4 : Int)) then bif inR i2_1 (0 : Int) (6 : Int) then bif inR i3_1 (0 : Int) (6 : Int) then Option.bind (Cod.decs xyC l0) fun (l4_1 : List (Int × Int)) => bif decide (plOf l4_1 (nxX i2_1 (dix (byteAt (ByteArray.mk #[(110 : UInt8), (101 : UInt8), (115 : UInt8), (119 : UInt8)]) (Int.toNat i3)))) (nxY i3_1 (dix (byteAt (ByteArray.mk #[(110 : UInt8), (101 : UInt8), (115 : UInt8), (119 : UInt8)]) (Int.toNat i3)))) < (0 : Int)) then impl_piece_fold.l14 n m10 m14 l0 i1 i2 (IntKind.wrap IntKind.i64 (i3 + (1 : Int))) l4 l5 l6 l7 else bif decide ((0 : Int) ≤ plOf l4_1 (nxX i2_1 (dix (byteAt (ByteArray.mk #[(110 : UInt8), (101 : UInt8), (115 : UInt8), (119 : UInt8)]) (Int.toNat i3)))) (nxY i3_1 (dix (byteAt (ByteArray.mk #[(110 : UInt8), (101 : UInt8), (115 : UInt8), (119 : UInt8)]) (Int.toNat i3))))) then bif decide (plOf l4_1 (nxX i2_1 (dix (byteAt (ByteArray.mk #[(110 : UInt8), (101 : UInt8), (115 : UInt8), (119 : UInt8)]) (Int.toNat i3)))) (nxY i3_1 (dix (byteAt (ByteArray.mk #[(110 : UInt8), (101 : UInt8), (115 : UInt8), (119 : UInt8)]) (Int.toNat i3)))) < (↑(List.length l5) : Int)) then Option.bind (Option.bind (some (cellD l5 (Int.toNat (plOf l4_1 (nxX i2_1 (dix (byteAt (ByteArray.mk #[(110 : UInt8), (101 : UInt8), (115 : UInt8), (119 : UInt8)]) (Int.toNat i3)))) (nxY i3_1 (dix (byteAt (ByteArray.mk #[(110 : UInt8), (101 : UInt8), (115 : UInt8), (119 : UInt8)]) (Int.toNat i3)))))) (0 : Nat))) (D.int? IntKind.i64)) fun (i5 : Int) => bif decide (i5 ≥ (0 : Int)) then impl_piece_fold.l14 n m10 m14 l0 i1 i2 (IntKind.wrap IntKind.i64 (i3 + (1 : Int))) l4 l5 l6 l7 else bif decide ((0 : Int) ≤ i2) then bif decide (i2 < (↑(List.length l6) : Int)) then Option.bind (Option.bind (some (cellD l6 (Int.toNat i2) (0 : Nat))) (D.int? IntKind.i64)) fun (i6 : Int) => Option.bind (Option.bind (some (cellD l6 (Int.toNat i2) (1 : Nat))) (D.int? IntKind.i64)) fun (i7 : Int) => Option.bind (Option.bind (some (cellD l6 (Int.toNat i2) (2 : Nat))) (D.int? IntKind.i64)) fun (i8 : Int) => Option.bind (Option.bind (some (cellD l6 (Int.toNat i2) (3 : Nat))) (D.int? IntKind.i64)) fun (i9 : Int) => Option.bind (Option.bind (some (cellD l6 (Int.toNat i2) (4 : Nat))) (D.int? IntKind.i64)) fun (i10 : Int) => Option.bind (Option.bind (some (cellD l6 (Int.toNat i2) (5 : Nat))) (D.int? IntKind.i64)) fun (i11 : Int) => bif decide ((0 : Int) ≤ i3) then bif decide (i3 < (4 : Int)) then bif decide ((0 : Int) ≤ i2) then bif decide (i2 < (↑(List.length l5) : Int)) then Option.bind (Option.bind (some (cellD l5 (Int.toNat i2) (0 : Nat))) (D.int? IntKind.i64)) fun (i12 : Int) => bif decide ((0 : Int) ≤ plOf l4_1 (nxX i2_1 (dix (byteAt (ByteArray.mk #[(110 : UInt8), (101 : UInt8), (115 : UInt8), (119 : UInt8)]) (Int.toNat i3)))) (nxY i3_1 (dix (byteAt (ByteArray.mk #[(110 : UInt8), (101 : UInt8), (115 : UInt8), (119 : UInt8)]) (Int.toNat i3))))) then bif decide (plOf l4_1 (nxX i2_1 (dix (byteAt (ByteArray.mk #[(110 : UInt8), (101 : UInt8), (115 : UInt8), (119 : UInt8)]) (Int.toNat i3)))) (nxY i3_1 (dix (byteAt (ByteArray.mk #[(110 : UInt8), (101 : UInt8), (115 : UInt8), (119 : UInt8)]) (Int.toNat i3)))) < (↑(List.length l6) : Int)) then bif decide ((0 : Int) ≤ plOf l4_1 (nxX i2_1 (dix (byteAt (ByteArray.mk #[(110 : UInt8), (101 : UInt8), (115 : UInt8), (119 : UInt8)]) (Int.toNat i3)))) (nxY i3_1 (dix (byteAt (ByteArray.mk #[(110 : UInt8), (101 : UInt8), (115 : UInt8), (119 : UInt8)]) (Int.toNat i3))))) then bif decide (plOf l4_1 (nxX i2_1 (dix (byteAt (ByteArray.mk #[(110 : UInt8), (101 : UInt8), (115 : UInt8), (119 : UInt8)]) (Int.toNat i3)))) (nxY i3_1 (dix (byteAt (ByteArray.mk #[(110 : UInt8), (101 : UInt8), (115 : UInt8), (119 : UInt8)]) (Int.toNat i3)))) < (↑(List.length l5) : Int)) then bif decide ((0 : Int) ≤ plOf l4_1 (nxX i2_1 (dix (byteAt (ByteArray.mk #[(110 : UInt8), (101 : UInt8), (115 : UInt8), (119 : UInt8)]) (Int.toNat i3)))) (nxY i3_1 (dix (byteAt (ByteArray.mk #[(110 : UInt8), (101 : UInt8), (115 : UInt8), (119 : UInt8)]) (Int.toNat i3))))) then bif decide (plOf l4_1 (nxX i2_1 (dix (byteAt (ByteArray.mk #[(110 : UInt8), (101 : UInt8), (115 : UInt8), (119 : UInt8)]) (Int.toNat i3)))) (nxY i3_1 (dix (byteAt (ByteArray.mk #[(110 : UInt8), (101 : UInt8), (115 : UInt8), (119 : UInt8)]) (Int.toNat i3)))) < (↑(List.length (setRow (6 : Nat) l6 (Int.toNat (plOf l4_1 (nxX i2_1 (dix (byteAt (ByteArray.mk #[(110 : UInt8), (101 : UInt8), (115 : UInt8), (119 : UInt8)]) (Int.toNat i3)))) (nxY i3_1 (dix (byteAt (ByteArray.mk #[(110 : UInt8), (101 : UInt8), (115 : UInt8), (119 : UInt8)]) (Int.toNat i3)))))) (0 : Nat) [D.int IntKind.i64 (Die.t (rollB (Die.mk i6 i7 i8 i9 i10 i11) (byteAt (ByteArray.mk #[(110 : UInt8), (101 : UInt8), (115 : UInt8), (119 : UInt8)]) (Int.toNat i3)))), D.int IntKind.i64 (Die.n (rollB (Die.mk i6 i7 i8 i9 i10 i11) (byteAt (ByteArray.mk #[(110 : UInt8), (101 : UInt8), (115 : UInt8), (119 : UInt8)]) (Int.toNat i3)))), D.int IntKind.i64 (Die.e (rollB (Die.mk i6 i7 i8 i9 i10 i11) (byteAt (ByteArray.mk #[(110 : UInt8), (101 : UInt8), (115 : UInt8), (119 : UInt8)]) (Int.toNat i3)))), D.int IntKind.i64 (Die.s (rollB (Die.mk i6 i7 i8 i9 i10 i11) (byteAt (ByteArray.mk #[(110 : UInt8), (101 : UInt8), (115 : UInt8), (119 : UInt8)]) (Int.toNat i3)))), D.int IntKind.i64 (Die.w (rollB (Die.mk i6 i7 i8 i9 i10 i11) (byteAt (ByteArray.mk #[(110 : UInt8), (101 : UInt8), (115 : UInt8), (119 : UInt8)]) (Int.toNat i3)))), D.int IntKind.i64 (Die.b (rollB (Die.mk i6 i7 i8 i9 i10 i11) (byteAt (ByteArray.mk #[(110 : UInt8), (101 : UInt8), (115 : UInt8), (119 : UInt8)]) (Int.toNat i3))))])) : Int)) then Option.bind (Option.bind (some (cellD (setRow (6 : Nat) l6 (Int.toNat (plOf l4_1 (nxX i2_1 (dix (byteAt (ByteArray.mk #[(110 : UInt8), (101 : UInt8), (115 : UInt8), (119 : UInt8)]) (Int.toNat i3)))) (nxY i3_1 (dix (byteAt (ByteArray.mk #[(110 : UInt8), (101 : UInt8), (115 : UInt8), (119 : UInt8)]) (Int.toNat i3)))))) (0 : Nat) [D.int IntKind.i64 (Die.t (rollB (Die.mk i6 i7 i8 i9 i10 i11) (byteAt (ByteArray.mk #[(110 : UInt8), (101 : UInt8), (115 : UInt8), (119 : UInt8)]) (Int.toNat i3)))), D.int IntKind.i64 (Die.n (rollB (Die.mk i6 i7 i8 i9 i10 i11) (byteAt (ByteArray.mk #[(110 : UInt8), (101 : UInt8), (115 : UInt8), (119 : UInt8)]) (Int.toNat i3)))), D.int IntKind.i64 (Die.e (rollB (Die.mk i6 i7 i8 i9 i10 i11) (byteAt (ByteArray.mk #[(110 : UInt8), (101 : UInt8), (115 : UInt8), (119 : UInt8)]) (Int.toNat i3)))), D.int IntKind.i64 (Die.s (rollB (Die.mk i6 i7 i8 i9 i10 i11) (byteAt (ByteArray.mk #[(110 : UInt8), (101 : UInt8), (115 : UInt8), (119 : UInt8)]) (Int.toNat i3)))), D.int IntKind.i64 (Die.w (rollB (Die.mk i6 i7 i8 i9 i10 i11) (byteAt (ByteArray.mk #[(110 : UInt8), (101 : UInt8), (115 : UInt8), (119 : UInt8)]) (Int.toNat i3)))), D.int IntKind.i64 (Die.b (rollB (Die.mk i6 i7 i8 i9 i10 i11) (byteAt (ByteArray.mk #[(110 : UInt8), (101 : UInt8), (115 : UInt8), (119 : UInt8)]) (Int.toNat i3))))]) (Int.toNat (plOf l4_1 (nxX i2_1 (dix (byteAt (ByteArray.mk #[(110 : UInt8), (101 : UInt8), (115 : UInt8), (119 : UInt8)]) (Int.toNat i3)))) (nxY i3_1 (dix (byteAt (ByteArray.mk #[(110 : UInt8), (101 : UInt8), (115 : UInt8), (119 : UInt8)]) (Int.toNat i3)))))) (5 : Nat))) (D.int? IntKind.i64)) fun (i13 : Int) => bif decide ((0 : Int) ≤ plOf l4_1 (nxX i2_1 (dix (byteAt (ByteArray.mk #[(110 : UInt8), (101 : UInt8), (115 : UInt8), (119 : UInt8)]) (Int.toNat i3)))) (nxY i3_1 (dix (byteAt (ByteArray.mk #[(110 : UInt8), (101 : UInt8), (115 : UInt8), (119 : UInt8)]) (Int.toNat i3))))) then bif decide (plOf l4_1 (nxX i2_1 (dix (byteAt (ByteArray.mk #[(110 : UInt8), (101 : UInt8), (115 : UInt8), (119 : UInt8)]) (Int.toNat i3)))) (nxY i3_1 (dix (byteAt (ByteArray.mk #[(110 : UInt8), (101 : UInt8), (115 : UInt8), (119 : UInt8)]) (Int.toNat i3)))) < (↑(List.length l4) : Int)) then bif decide (List.length l7 + (1 : Nat) ≤ (17179869184 : Nat)) then impl_piece_fold.l14 n m10 m14 l0 i1 i2 (IntKind.wrap IntKind.i64 (i3 + (1 : Int))) (setRow (1 : Nat) l4 (Int.toNat (plOf l4_1 (nxX i2_1 (dix (byteAt (ByteArray.mk #[(110 : UInt8), (101 : UInt8), (115 : UInt8), (119 : UInt8)]) (Int.toNat i3)))) (nxY i3_1 (dix (byteAt (ByteArray.mk #[(110 : UInt8), (101 : UInt8), (115 : UInt8), (119 : UInt8)]) (Int.toNat i3)))))) (0 : Nat) [D.int IntKind.i64 i13]) (setRow (1 : Nat) l5 (Int.toNat (plOf l4_1 (nxX i2_1 (dix (byteAt (ByteArray.mk #[(110 : UInt8), (101 : UInt8), (115 : UInt8), (119 : UInt8)]) (Int.toNat i3)))) (nxY i3_1 (dix (byteAt (ByteArray.mk #[(110 : UInt8), (101 : UInt8), (115 : UInt8), (119 : UInt8)]) (Int.toNat i3)))))) (0 : Nat) [D.int IntKind.i64 (IntKind.wrap IntKind.i64 (i12 + (1 : Int)))]) (setRow (6 : Nat) l6 (Int.toNat (plOf l4_1 (nxX i2_1 (dix (byteAt (ByteArray.mk #[(110 : UInt8), (101 : UInt8), (115 : UInt8), (119 : UInt8)]) (Int.toNat i3)))) (nxY i3_1 (dix (byteAt (ByteArray.mk #[(110 : UInt8), (101 : UInt8), (115 : UInt8), (119 : UInt8)]) (Int.toNat i3)))))) (0 : Nat) [D.int IntKind.i64 (Die.t (rollB (Die.mk i6 i7 i8 i9 i10 i11) (byteAt (ByteArray.mk #[(110 : UInt8), (101 : UInt8), (115 : UInt8), (119 : UInt8)]) (Int.toNat i3)))), D.int IntKind.i64 (Die.n (rollB (Die.mk i6 i7 i8 i9 i10 i11) (byteAt (ByteArray.mk #[(110 : UInt8), (101 : UInt8), (115 : UInt8), (119 : UInt8)]) (Int.toNat i3)))), D.int IntKind.i64 (Die.e (rollB (Die.mk i6 i7 i8 i9 i10 i11) (byteAt (ByteArray.mk #[(110 : UInt8), (101 : UInt8), (115 : UInt8), (119 : UInt8)]) (Int.toNat i3)))), D.int IntKind.i64 (Die.s (rollB (Die.mk i6 i7 i8 i9 i10 i11) (byteAt (ByteArray.mk #[(110 : UInt8), (101 : UInt8), (115 : UInt8), (119 : UInt8)]) (Int.toNat i3)))), D.int IntKind.i64 (Die.w (rollB (Die.mk i6 i7 i8 i9 i10 i11) (byteAt (ByteArray.mk #[(110 : UInt8), (101 : UInt8), (115 : UInt8), (119 : UInt8)]) (Int.toNat i3)))), D.int IntKind.i64 (Die.b (rollB (Die.mk i6 i7 i8 i9 i10 i11) (byteAt (ByteArray.mk #[(110 : UInt8), (101 : UInt8), (115 : UInt8), (119 : UInt8)]) (Int.toNat i3))))]) (l7 ++ [[D.int IntKind.i64 (plOf l4_1 (nxX i2_1 (dix (byteAt (ByteArray.mk #[(110 : UInt8), (101 : UInt8), (115 : UInt8), (119 : UInt8)]) (Int.toNat i3)))) (nxY i3_1 (dix (byteAt (ByteArray.mk #[(110 : UInt8), (101 : UInt8), (115 : UInt8), (119 : UInt8)]) (Int.toNat i3)))))]]) else none else none else none else none else none else none else none else none else none else none else none else none else none else none else none else none else none else none else none else none else none else none else none else none else none else impl_piece_fold.l10 n m10 l0 (IntKind.wrap IntKind.i64 (i1 + (1 : Int))) l4 l5 l6 l7 := by kernel_rfl
noncomputable def impl_piece_fold.res (n : Nat) (a0 : List (List D)) : Option (List Q) :=
  bif decide ((↑(List.length a0) : Int) ≤ (↑(List.length a0) : Int)) then bif decide ((↑(List.length a0) : Int) ≤ (17179869184 : Int)) then bif decide ((↑(List.length a0) : Int) ≤ (↑(List.length a0) : Int)) then bif decide ((↑(List.length a0) : Int) ≤ (17179869184 : Int)) then impl_piece_fold.l3 n n a0 (↑(List.length (List.replicate (Int.toNat (↑(List.length a0) : Int)) [D.int IntKind.i64 (0 : Int)])) : Int) (0 : Int) (List.replicate (Int.toNat (↑(List.length a0) : Int)) [D.int IntKind.i64 (0 : Int)]) (List.replicate (Int.toNat (↑(List.length a0) : Int)) [D.int IntKind.i64 (0 : Int)]) else none else none else none else none
theorem impl_piece_fold.run (n : Nat) (a0 : List (List D)) :
    run1 impl_piece_fold.cfg [RK.own (1 : Nat), RK.own (1 : Nat)] n Tryz.f68 [Q.one (D.sl (2 : Nat) a0)] = impl_piece_fold.res n a0 := by kernel_rfl
theorem impl_piece_fold.ev {n : Nat} {a0 : List (List D)} {r : List Q} (h : impl_piece_fold.res n a0 = some r) : Snd Tryz.prog C0 68 [.one (.sl 2 a0)] r :=
  snd_ev (C := impl_piece_fold.cfg) cfg0 mix rfl rfl rfl rfl rfl (.cons impl_piece_place.ok (.cons impl_plain.ok (.cons impl_next.ok (.cons impl_Die_roll.ok .nil)))) .nil rfl Tryz.func68 (by kernel_rfl) (by kernel_rfl) rfl ((impl_piece_fold.run n a0).trans h)

theorem dix_dir {d : Nat} (h : d < 4) : dix (byteAt (ByteArray.mk #[110, 101, 115, 119]) d) = (d : Int) := by
  rcases (show d = 0 ∨ d = 1 ∨ d = 2 ∨ d = 3 by omega) with rfl | rfl | rfl | rfl <;> rfl
section
variable {n : Nat} {P : List (Int × Int)}
theorem xyIn_at (hP : xyIn P = true) {k : Nat} (hk : k < P.length) : inR (P.getD k (0, 0)).1 0 6 = true ∧ inR (P.getD k (0, 0)).2 0 6 = true := by
  have := List.all_eq_true.1 hP P[k] (List.getElem_mem hk)
  rw [gd_get hk]
  simpa only [Bool.and_eq_true] using this
theorem impl_piece_fold.l14_run (hP : xyIn P = true) (hPl : P.length ≤ 36) {a m10 : Nat} : ∀ (d dir m : Nat) (s : Fo), dir + d = 4 → d < m → FoOk P.length s → a < s.q.length →
    impl_piece_fold.l14 n m10 m (xyC.encs P) (a : Int) (s.q.getD a 0) (dir : Int) (intC.encs s.pl) (intC.encs s.fa) (dieC.encs s.di) (intC.encs s.q) = impl_piece_fold.l10 n m10 (xyC.encs P) ((a + 1 : Nat) : Int) (intC.encs (foIn (nbF P) (s.q.getD a 0) d dir s).pl) (intC.encs (foIn (nbF P) (s.q.getD a 0) d dir s).fa) (dieC.encs (foIn (nbF P) (s.q.getD a 0) d dir s).di) (intC.encs (foIn (nbF P) (s.q.getD a 0) d dir s).q) := by
  intro d
  induction d with
  | zero =>
    intro dir m s hd hm hq ha
    obtain ⟨m, rfl⟩ : ∃ m', m = m' + 1 := ⟨m - 1, by omega⟩
    have h1 : ¬ (dir : Int) < 4 := by omega
    have hql := hq.qle
    rw [impl_piece_fold.l14_eq, foIn]
    simp -implicitDefEqProofs only [h1, decide_false, cond_false, wrap_succ (show a ≤ LIM by unfold LIM; omega)]
  | succ d ih =>
    intro dir m s hd hm hq ha
    obtain ⟨m, rfl⟩ : ∃ m', m = m' + 1 := ⟨m - 1, by omega⟩
    have h1 : (dir : Int) < 4 := by omega
    have hql := hq.qle
    have hqm : s.q.getD a 0 ∈ s.q := by rw [gd_get ha]; exact List.getElem_mem ha
    obtain ⟨i1, i2, i3⟩ := hq.q _ hqm
    have hnb := fun k dir => nbF_in P k dir
    obtain ⟨b1, b2, b3, b4⟩ := hq.step hnb hqm dir
    have step := ih (dir + 1) m (foStep (nbF P) (s.q.getD a 0) dir s) (by omega) (by omega) b1 (by omega)
    rw [b3 a ha] at step
    have hnk := nbF_in P (s.q.getD a 0) dir
    obtain ⟨K, hK⟩ : ∃ K : Nat, s.q.getD a 0 = (K : Int) := ⟨(s.q.getD a 0).toNat, by omega⟩
    rw [foIn, ← step, impl_piece_fold.l14_eq]
    clear step ih b1 b2 b3 b4
    unfold foStep
    rw [hK] at hnk i1 i2 i3 ⊢
    rw [Int.toNat_natCast] at i3
    have hKl : K < P.length := by omega
    have hKi : (K : Int) < ((P.length : Nat) : Int) := by omega
    have hKf : K < s.fa.length := by rw [hq.fa]; exact hKl
    have hKfi : (K : Int) < ((s.fa.length : Nat) : Int) := by omega
    have hKd : K < s.di.length := by rw [hq.di]; exact hKl
    have hKdi : (K : Int) < ((s.di.length : Nat) : Int) := by omega
    obtain ⟨x1, x2⟩ := xyIn_at hP hKl
    have hdec : xyC.decs (xyC.encs P) = some P := Cod.decs_encs (by unfold LIM; omega)
    have hnbe : plOf P (nxX (P.getD K (0, 0)).1 (dir : Int)) (nxY (P.getD K (0, 0)).2 (dir : Int)) = nbF P (K : Int) dir := by unfold nbF; rw [Int.toNat_natCast]
    have hrl : ∀ D : Die, rollB D (byteAt (ByteArray.mk #[110, 101, 115, 119]) dir) = roll D (dir : Int) := fun D => by rw [← roll_dix, dix_dir (by omega)]
    simp -implicitDefEqProofs only [h1, hKi, xyC_0 hKl, xyC_1 hKl, x1, x2, hdec, dix_dir (show dir < 4 by omega), hnbe, Cod.encs_len, Int.natCast_nonneg, Int.toNat_natCast, decide_true, cond_true, Option.bind_some, wrap_succ (show dir ≤ LIM by unfold LIM; omega), ge_iff_le]
    rcases hnk with e | e
    · rw [e]
      have n2 : (-1 : Int) < 0 := by omega
      simp -implicitDefEqProofs only [n2, decide_true, cond_true, Bool.true_or]
    · obtain ⟨T, hT⟩ : ∃ T : Nat, nbF P (K : Int) dir = (T : Int) := ⟨(nbF P (K : Int) dir).toNat, by omega⟩
      rw [hT] at e ⊢
      have hTf : T < s.fa.length := by rw [hq.fa]; omega
      have hTfi : (T : Int) < ((s.fa.length : Nat) : Int) := by omega
      have hTd : T < s.di.length := by rw [hq.di]; omega
      have hTdi : (T : Int) < ((s.di.length : Nat) : Int) := by omega
      have hTp : T < s.pl.length := by rw [hq.pl]; omega
      have hTpi : (T : Int) < ((s.pl.length : Nat) : Int) := by omega
      have n1 : ¬ (T : Int) < 0 := by omega
      have hq2 : s.q.length + 1 ≤ 17179869184 := by omega
      have hfk := hq.far (s.fa.getD K 0) (by rw [gd_get hKf]; exact List.getElem_mem hKf)
      have hwr : IntKind.wrap .i64 (s.fa.getD K 0 + 1) = s.fa.getD K 0 + 1 := wrap_in (by omega) (by omega)
      have hTs : ∀ x, T < (s.di.set T x).length := fun x => by rw [List.length_set]; exact hTd
      by_cases ho : 0 ≤ s.fa.getD T 0
      · simp -implicitDefEqProofs only [n1, hTfi, ho, intC_gd hTf, Cod.encs_len, Int.natCast_nonneg, Int.toNat_natCast, decide_false, decide_true, cond_false, cond_true, Option.bind_some, Bool.false_or]
      · simp -implicitDefEqProofs only [n1, h1, hTfi, hTdi, hTpi, hKfi, hKdi, ho, hq2, hwr, hrl, intC_gd hTf, intC_gd hKf, dieG_t hKd, dieG_n hKd, dieG_e hKd, dieG_s hKd, dieG_w hKd, dieG_b hKd, Die.eta, dieC_set, dieG_b (hTs _), set_get_same hTd, List.length_set, Cod.encs_len, Int.natCast_nonneg, Int.toNat_natCast, decide_false, decide_true, cond_false, cond_true, Option.bind_some, intC_set, intC_snoc, Bool.false_or]
theorem impl_piece_fold.l10_run (hn : 10 ≤ n) (hP : xyIn P = true) (hPl : P.length ≤ 36) : ∀ (f a m : Nat) (s : Fo), a + f = 100 → f < m → FoOk P.length s →
    impl_piece_fold.l10 n m (xyC.encs P) (a : Int) (intC.encs s.pl) (intC.encs s.fa) (dieC.encs s.di) (intC.encs s.q) = some [Q.one (D.sl 1 (intC.encs (foAll (nbF P) f a s).pl)), Q.one (D.sl 1 (intC.encs (foAll (nbF P) f a s).fa))] := by
  intro f
  induction f with
  | zero =>
    intro a m s hf hm hq
    obtain ⟨m, rfl⟩ : ∃ m', m = m' + 1 := ⟨m - 1, by omega⟩
    have hql := hq.qle
    have h1 : ¬ (a : Int) < ((s.q.length : Nat) : Int) := by omega
    rw [impl_piece_fold.l10_eq, foAll]
    simp -implicitDefEqProofs only [h1, Cod.encs_len, decide_false, cond_false]
  | succ f ih =>
    intro a m s hf hm hq
    obtain ⟨m, rfl⟩ : ∃ m', m = m' + 1 := ⟨m - 1, by omega⟩
    rw [impl_piece_fold.l10_eq, foAll]
    by_cases ha : a < s.q.length
    · have h1 : (a : Int) < ((s.q.length : Nat) : Int) := by omega
      have hqm : s.q.getD a 0 ∈ s.q := by rw [gd_get ha]; exact List.getElem_mem ha
      have key := impl_piece_fold.l14_run (n := n) (m10 := m) hP hPl 4 0 n s rfl (by omega) hq ha
      simp -implicitDefEqProofs only [h1, ha, intC_gd ha, Cod.encs_len, Int.natCast_nonneg, Int.toNat_natCast, decide_true, cond_true, Option.bind_some]
      refine Eq.trans key ?_
      exact ih (a + 1) m _ (by omega) (by omega) (hq.inn (fun k dir => nbF_in P k dir) 4 0 hqm).1
    · have h1 : ¬ (a : Int) < ((s.q.length : Nat) : Int) := by omega
      simp -implicitDefEqProofs only [h1, ha, Cod.encs_len, decide_false, cond_false]
theorem impl_piece_fold.l3_run (hn : 200 ≤ n) (hP : xyIn P = true) (hPl : P.length ≤ 36) (h0 : 0 < P.length) : ∀ (d k m : Nat), k + d = P.length → d < m →
    impl_piece_fold.l3 n m (xyC.encs P) ((P.length : Nat) : Int) (k : Int) (intC.encs (List.replicate P.length 0)) (intC.encs (List.replicate k (-1) ++ (List.replicate P.length 0).drop k)) = some [Q.one (D.sl 1 (intC.encs (foldO P).pl)), Q.one (D.sl 1 (intC.encs (foldO P).fa))] := by
  intro d
  induction d with
  | zero =>
    intro k m hk hm
    obtain ⟨m, rfl⟩ : ∃ m', m = m' + 1 := ⟨m - 1, by omega⟩
    obtain rfl : k = P.length := by omega
    have h1 : ¬ ((P.length : Nat) : Int) < ((P.length : Nat) : Int) := by omega
    have h2 : ((P.length : Nat) : Int) ≤ 17179869184 := by omega
    have h3 : (0 : Int) < ((P.length : Nat) : Int) := by omega
    have t0 : Int.toNat 0 = 0 := rfl
    have hdr : (List.replicate P.length (0 : Int)).drop P.length = [] := List.drop_of_length_le (by simp)
    have hset : ∀ (l : List Die) (i : Nat), setRow 6 (dieC.encs l) i 0 [D.int .i64 (Die.t unitD), D.int .i64 (Die.n unitD), D.int .i64 (Die.e unitD), D.int .i64 (Die.s unitD), D.int .i64 (Die.w unitD), D.int .i64 (Die.b unitD)] = dieC.encs (l.set i unitD) := fun l i => dieC_set l i unitD
    rw [impl_piece_fold.l3_eq, hdr, List.append_nil]
    simp -implicitDefEqProofs only [h1, h2, h3, t0, hset, die_rep, Cod.encs_len, List.length_replicate, Int.le_refl, Int.toNat_natCast, decide_false, decide_true, cond_false, cond_true, intC_set]
    have key := impl_piece_fold.l10_run (n := n) (P := P) (by omega) hP hPl 100 0 n (fo0 P.length) (by omega) (by omega) (fo0_ok h0)
    exact key
  | succ d ih =>
    intro k m hk hm
    obtain ⟨m, rfl⟩ : ∃ m', m = m' + 1 := ⟨m - 1, by omega⟩
    have h1 : (k : Int) < ((P.length : Nat) : Int) := by omega
    have hl : (List.replicate k (-1 : Int) ++ (List.replicate P.length 0).drop k).length = P.length := by simp; omega
    have step := ih (k + 1) m (by omega) (by omega)
    rw [← fill_run k (l := List.replicate P.length 0) (by simp; omega) (-1)] at step
    rw [impl_piece_fold.l3_eq]
    simp -implicitDefEqProofs only [h1, hl, Cod.encs_len, Int.natCast_nonneg, Int.toNat_natCast, decide_true, cond_true, intC_set, wrap_succ (show k ≤ LIM by unfold LIM; omega)]
    exact step
end
def impl_piece_fold.stub : Stub
  | [.one (.sl 2 es)] => .any (xyC.decs es) fun P => .gd (decide (0 < P.length)) (.gd (decide (P.length ≤ 36)) (.gd (Sp.xyIn P) (.ret [.one (.sl 1 (intC.encs (Sp.foldO P).pl)), .one (.sl 1 (intC.encs (Sp.foldO P).fa))])))
  | _ => .fail
theorem impl_piece_fold.ok : StubOk Tryz.prog C0 68 impl_piece_fold.stub := by
  intro args res h
  unfold impl_piece_fold.stub at h
  split at h
  · rename_i es
    obtain ⟨P, h1, h0⟩ := any_out h
    obtain ⟨rfl, hl⟩ := Cod.decs_inv h1
    obtain ⟨k1, h0⟩ := gd_out h0
    obtain ⟨k2, h0⟩ := gd_out h0
    obtain ⟨k3, h0⟩ := gd_out h0
    cases h0
    have k1 := of_decide_eq_true k1
    have k2 := of_decide_eq_true k2
    obtain ⟨N, hN⟩ : ∃ N, 200 ≤ N := ⟨200, Nat.le_refl _⟩
    refine impl_piece_fold.ev (n := N) ?_
    unfold impl_piece_fold.res
    have h2 : ((P.length : Nat) : Int) ≤ 17179869184 := by omega
    simp -implicitDefEqProofs only [h2, Cod.encs_len, List.length_replicate, Int.le_refl, Int.toNat_natCast, decide_true, cond_true, intC_rep]
    exact impl_piece_fold.l3_run (n := N) hN k3 k2 k1 P.length 0 N (by omega) (by omega)
  · cases h
/-! impl_piece_hangs -/
noncomputable def impl_piece_hangs.cfg : Cfg := { C0 with keep := fun _ => none, nb := 0, M := tabM [(68, impl_piece_fold.stub), (109, slices_Contains_Sint_int.stub)], MM := tabB [] }
noncomputable def impl_piece_hangs.res (n : Nat) (a0 : List (List D)) : Option (List Q) :=
  Option.bind (Cod.decs xyC a0) fun (l1 : List (Int × Int)) => bif decide ((0 : Nat) < List.length l1) then bif decide (List.length l1 ≤ (36 : Nat)) then bif xyIn l1 then Option.bind (Cod.decs intC (Cod.encs intC (Fo.fa (foldO l1)))) fun (l2 : List Int) => some [Q.one (D.bool !hasI l2 (-1 : Int))] else none else none else none
theorem impl_piece_hangs.run (n : Nat) (a0 : List (List D)) :
    run1 impl_piece_hangs.cfg [RK.one LK.bool] n Tryz.f89 [Q.one (D.sl (2 : Nat) a0)] = impl_piece_hangs.res n a0 := by kernel_rfl
theorem impl_piece_hangs.ev {n : Nat} {a0 : List (List D)} {r : List Q} (h : impl_piece_hangs.res n a0 = some r) : Snd Tryz.prog C0 89 [.one (.sl 2 a0)] r :=
  snd_ev (C := impl_piece_hangs.cfg) cfg0 mix rfl rfl rfl rfl rfl (.cons impl_piece_fold.ok (.cons slices_Contains_Sint_int.ok .nil)) .nil rfl Tryz.func89 (by kernel_rfl) (by kernel_rfl) rfl ((impl_piece_hangs.run n a0).trans h)

def impl_piece_hangs.stub : Stub
  | [.one (.sl 2 es)] => .any (xyC.decs es) fun P => .gd (decide (0 < P.length)) (.gd (decide (P.length ≤ 36)) (.gd (Sp.xyIn P) (.ret [.one (.bool (Sp.hangP P))])))
  | _ => .fail
theorem foldO_ok {P : List (Int × Int)} (h0 : 0 < P.length) : FoOk P.length (foldO P) := by
  have : ∀ (f a : Nat) (s : Fo), FoOk P.length s → FoOk P.length (foAll (nbF P) f a s) := by
    intro f
    induction f with
    | zero => intro a s h; exact h
    | succ f ih =>
      intro a s h
      rw [foAll]
      by_cases ha : a < s.q.length
      · have hqm : s.q.getD a 0 ∈ s.q := by rw [gd_get ha]; exact List.getElem_mem ha
        rw [decide_eq_true ha, cond_true]
        exact ih _ _ (h.inn (fun k dir => nbF_in P k dir) 4 0 hqm).1
      · rw [decide_eq_false ha]; exact h
  exact this 100 0 _ (fo0_ok h0)
theorem impl_piece_hangs.ok : StubOk Tryz.prog C0 89 impl_piece_hangs.stub := by
  intro args res h
  unfold impl_piece_hangs.stub at h
  split at h
  · rename_i es
    obtain ⟨P, h1, h0⟩ := any_out h
    obtain ⟨rfl, hl⟩ := Cod.decs_inv h1
    obtain ⟨k1, h0⟩ := gd_out h0
    obtain ⟨k2, h0⟩ := gd_out h0
    obtain ⟨k3, h0⟩ := gd_out h0
    cases h0
    refine impl_piece_hangs.ev (n := 0) ?_
    unfold impl_piece_hangs.res
    have hfa : intC.decs (intC.encs (foldO P).fa) = some (foldO P).fa := Cod.decs_encs (by
      rw [(foldO_ok (of_decide_eq_true k1)).fa]
      have := of_decide_eq_true k2
      unfold LIM; omega)
    rw [h1, Option.bind_some, k1, k2, k3, hfa]
    rfl
  · cases h
end Go.Proofs.EV.PL
set_option linter.unusedVariables false
set_option linter.unusedSimpArgs false
set_option maxHeartbeats 4000000
/-! Numbers sorted by insertion, each once. -/
namespace Go.Proofs.EV.PL
open Go Go.Proofs Go.Proofs.EV Sp
theorem int_beq (a b : Int) : (a == b) = decide (a = b) := by rw [Bool.eq_iff_iff, beq_iff_eq, decide_eq_true_eq]
theorem int_bne (a b : Int) : (a != b) = !decide (a = b) := by rw [bne, int_beq]
/-! slices_Compact_Sint_int -/
noncomputable def slices_Compact_Sint_int.cfg : Cfg := { C0 with keep := fun | 4 => some [0, 3] | 9 => some [0, 3, 4, 5] | _ => none, nb := 1, M := tabM [], MM := tabB [] }
noncomputable def slices_Compact_Sint_int.l4 (n : Nat) (m4 : Nat) (i0 : Int) (l1 : List (List D)) : Option (List V × List Ob) :=
  loopAtB slices_Compact_Sint_int.cfg n Tryz.f110 [1, 1, 0, 1, 0] [] m4 (St.mk [V.rw (0 : Nat), V.undef, V.undef, V.one true (D.int IntKind.i64 i0), V.undef, V.undef, V.undef, V.undef, V.undef, V.undef, V.undef, V.undef, V.undef, V.undef, V.undef, V.undef, V.undef, V.undef, V.undef, V.undef, V.undef, V.undef, V.undef, V.undef, V.undef, V.undef, V.undef, V.undef, V.undef, V.undef, V.undef, V.undef, V.undef, V.undef, V.undef, V.undef, V.undef, V.undef, V.undef, V.undef, V.undef, V.undef, V.undef, V.undef, V.undef, V.undef, V.undef, V.undef, V.undef, V.undef, V.undef, V.undef, V.undef, V.undef, V.undef, V.undef, V.undef, V.undef, V.undef, V.undef, V.undef] [Ob.row false (1 : Nat) l1])
noncomputable def slices_Compact_Sint_int.l9 (n : Nat) (m4 : Nat) (m9 : Nat) (i0 : Int) (j1 : Nat) (j2 : Nat) (i3 : Int) (l4 : List (List D)) : Option (List V × List Ob) :=
  loopAtB slices_Compact_Sint_int.cfg n Tryz.f110 [1, 1, 0, 1, 0, 0, 1, 0, 0, 1, 0, 1, 0, 1, 0] [m4] m9 (St.mk [V.rw (0 : Nat), V.undef, V.undef, V.one true (D.int IntKind.i64 i0), V.rs (0 : Nat) j1 j2, V.one true (D.int IntKind.i64 i3), V.undef, V.undef, V.undef, V.undef, V.undef, V.undef, V.undef, V.undef, V.undef, V.undef, V.undef, V.undef, V.undef, V.undef, V.undef, V.undef, V.undef, V.undef, V.undef, V.undef, V.undef, V.undef, V.undef, V.undef, V.undef, V.undef, V.undef, V.undef, V.undef, V.undef, V.undef, V.undef, V.undef, V.undef, V.undef, V.undef, V.undef, V.undef, V.undef, V.undef, V.undef, V.undef, V.undef, V.undef, V.undef, V.undef, V.undef, V.undef, V.undef, V.undef, V.undef, V.undef, V.undef, V.undef, V.undef] [Ob.row false (1 : Nat) l4])
theorem slices_Compact_Sint_int.l4_eq (n : Nat) (m4 : Nat) (i0 : Int) (l1 : List (List D)) :
    slices_Compact_Sint_int.l4 n (m4 + 1) i0 l1 = bif decide (i0 < (↑(List.length l1) : Int)) then bif decide ((0 : Int) ≤ i0) then bif decide (i0 < (↑(List.length l1) : Int)) then Option.bind (Option.bind (some (cellD l1 (Int.toNat i0) (0 : Nat))) (D.int? IntKind.i64)) fun (i1 : Int) => bif decide ((0 : Int) ≤ IntKind.wrap IntKind.i64 (i0 - (1 : Int))) then bif decide (IntKind.wrap IntKind.i64 (i0 - (1 : Int)) < (↑(List.length l1) : Int)) then Option.bind (Option.bind (some (cellD l1 (Int.toNat (IntKind.wrap IntKind.i64 (i0 - (1 : Int)))) (0 : Nat))) (D.int? IntKind.i64)) fun (i2 : Int) => bif i1 == i2 then bif decide ((0 : Int) ≤ i0) then bif decide (i0 ≤ (↑(List.length l1) : Int)) then slices_Compact_Sint_int.l9 n m4 n i0 (Int.toNat i0) (List.length l1 - Int.toNat i0) (1 : Int) l1 else none else none else slices_Compact_Sint_int.l4 n m4 (IntKind.wrap IntKind.i64 (i0 + (1 : Int))) l1 else none else none else none else none else some ([V.rw (0 : Nat)], [Ob.row false (1 : Nat) l1]) := by kernel_rfl
theorem slices_Compact_Sint_int.l9_eq (n : Nat) (m4 : Nat) (m9 : Nat) (i0 : Int) (j1 : Nat) (j2 : Nat) (i3 : Int) (l4 : List (List D)) :
    slices_Compact_Sint_int.l9 n m4 (m9 + 1) i0 j1 j2 i3 l4 = bif decide (i3 < (↑j2 : Int)) then bif decide ((0 : Int) ≤ i3) then bif decide (i3 < (↑j2 : Int)) then Option.bind (Option.bind (some (cellD l4 (j1 + Int.toNat i3) (0 : Nat))) (D.int? IntKind.i64)) fun (i3_1 : Int) => bif decide ((0 : Int) ≤ IntKind.wrap IntKind.i64 (i3 - (1 : Int))) then bif decide (IntKind.wrap IntKind.i64 (i3 - (1 : Int)) < (↑j2 : Int)) then Option.bind (Option.bind (some (cellD l4 (j1 + Int.toNat (IntKind.wrap IntKind.i64 (i3 - (1 : Int)))) (0 : Nat))) (D.int? IntKind.i64)) fun (i4 : Int) => bif i3_1 != i4 then bif decide ((0 : Int) ≤ i3) then bif decide (i3 < (↑j2 : Int)) then Option.bind (Option.bind (some (cellD l4 (j1 + Int.toNat i3) (0 : Nat))) (D.int? IntKind.i64)) fun (i5 : Int) => bif decide ((0 : Int) ≤ i0) then bif decide (i0 < (↑(List.length l4) : Int)) then slices_Compact_Sint_int.l9 n m4 m9 (IntKind.wrap IntKind.i64 (i0 + (1 : Int))) j1 j2 (IntKind.wrap IntKind.i64 (i3 + (1 : Int))) (setRow (1 : Nat) l4 (Int.toNat i0) (0 : Nat) [D.int IntKind.i64 i5]) else none else none else none else none else slices_Compact_Sint_int.l9 n m4 m9 i0 j1 j2 (IntKind.wrap IntKind.i64 (i3 + (1 : Int))) l4 else none else none else none else none else bif decide ((0 : Int) ≤ i0) then bif decide (i0 ≤ (↑(List.length l4) : Int)) then bif decide ((0 : Int) ≤ i0) then bif decide (i0 ≤ (↑(List.length (splice l4 (Int.toNat i0) (List.replicate (List.length l4 - Int.toNat i0) [D.int IntKind.i64 (0 : Int)]))) : Int)) then some ([V.rs (0 : Nat) (0 : Nat) (Int.toNat i0 - (0 : Nat))], [Ob.row false (1 : Nat) (splice l4 (Int.toNat i0) (List.replicate (List.length l4 - Int.toNat i0) [D.int IntKind.i64 (0 : Int)]))]) else none else none else none else none := by kernel_rfl
noncomputable def slices_Compact_Sint_int.res (n : Nat) (es : List (List D)) : Option (List V × List Ob) :=
  bif decide ((↑(List.length es) : Int) < (2 : Int)) then some ([V.rw (0 : Nat)], [Ob.row false (1 : Nat) es]) else slices_Compact_Sint_int.l4 n n (1 : Int) es
theorem slices_Compact_Sint_int.run (n : Nat) (es : List (List D)) :
    (fun p : List V × List Ob => runB slices_Compact_Sint_int.cfg n Tryz.f110 p.1 p.2) ([V.rw (0 : Nat)], [Ob.row false (1 : Nat) es]) = slices_Compact_Sint_int.res n es := by kernel_rfl
theorem slices_Compact_Sint_int.ev {n : Nat} {es : List (List D)} {r : List V} {o : List Ob} (h : slices_Compact_Sint_int.res n es = some (r, o)) : SndB Tryz.prog C0 110 [.rw 0] [.row false 1 es] r o :=
  sndB_ev (C := slices_Compact_Sint_int.cfg) cfg0 mix rfl rfl rfl rfl rfl .nil .nil Tryz.func110 (by kernel_rfl) (by kernel_rfl) rfl ((slices_Compact_Sint_int.run n es).trans h)

/-- The row behind the first that stands twice. -/
theorem slices_Compact_Sint_int.l9_run {n m4 : Nat} {l : List Int} {k0 : Nat} (hl : l.length ≤ LIM) : ∀ (d i k m : Nat) (cur : List Int), k0 + i + d = l.length → d < m → 0 < i → k ≤ k0 + i - 1 → k0 + i ≤ l.length →
    cur.length = l.length → cur.take k = uniqI (l.take (k0 + i)) → cur.drop (k0 + i - 1) = l.drop (k0 + i - 1) →
    slices_Compact_Sint_int.l9 n m4 m k k0 (l.length - k0) i (intC.encs cur) = some ([V.rs 0 0 (uniqI l).length], [Ob.row false 1 (intC.encs (uniqI l ++ zerosI (l.length - (uniqI l).length)))]) := by
  intro d
  induction d with
  | zero =>
    intro i k m cur hd hm hi hk hle hc ht hdr
    obtain ⟨m, rfl⟩ : ∃ m', m = m' + 1 := ⟨m - 1, by omega⟩
    have h1 : ¬ (i : Int) < ((l.length - k0 : Nat) : Int) := by omega
    have h2 : (k : Int) ≤ cur.length := by omega
    rw [show k0 + i = l.length by omega, List.take_length] at ht
    have hkl : (uniqI l).length = k := by rw [← ht, List.length_take]; omega
    rw [slices_Compact_Sint_int.l9_eq]
    have hs : splice (intC.encs cur) k (List.replicate (cur.length - k) [D.int .i64 0]) = intC.encs (uniqI l ++ zerosI (l.length - k)) := by
      unfold splice
      rw [zerosI_rep, Cod.encs_take, ht, Cod.encs_append, List.drop_of_length_le (by simp [zerosI]; omega), List.append_nil, hc]
    have hsl : (uniqI l ++ zerosI (l.length - k)).length = l.length := by simp [zerosI, hkl]; omega
    have h3 : (k : Int) ≤ l.length := by omega
    simp only [h1, h2, decide_false, decide_true, cond_false, cond_true, Cod.encs_len, Int.natCast_nonneg, Int.toNat_natCast, hs, hsl, h3, hkl, Nat.sub_zero]
  | succ d ih =>
    intro i k m cur hd hm hi hk hle hc ht hdr
    obtain ⟨m, rfl⟩ : ∃ m', m = m' + 1 := ⟨m - 1, by omega⟩
    obtain ⟨i, rfl⟩ : ∃ i', i = i' + 1 := ⟨i - 1, by omega⟩
    have h1 : ((i + 1 : Nat) : Int) < ((l.length - k0 : Nat) : Int) := by omega
    have h1' : ((i : Nat) : Int) < ((l.length - k0 : Nat) : Int) := by omega
    have c1 : k0 + (i + 1) < cur.length := by omega
    have c2 : k0 + i < cur.length := by omega
    have c3 : (k : Int) < cur.length := by omega
    have e1 : cur[k0 + (i + 1)] = l[k0 + (i + 1)]'(by omega) := by
      have := congrArg (fun q => q[1]?) hdr
      simp only [List.getElem?_drop] at this
      rw [show k0 + (i + 1) - 1 + 1 = k0 + (i + 1) by omega, List.getElem?_eq_getElem c1, List.getElem?_eq_getElem (by omega)] at this
      exact Option.some.inj this
    have e2 : cur[k0 + i] = l[k0 + i]'(by omega) := by
      have := congrArg (fun q => q[0]?) hdr
      simp only [List.getElem?_drop] at this
      rw [show k0 + (i + 1) - 1 + 0 = k0 + i by omega, List.getElem?_eq_getElem c2, List.getElem?_eq_getElem (by omega)] at this
      exact Option.some.inj this
    have ht1 : l.take (k0 + (i + 1)) = l.take (k0 + i) ++ [l[k0 + i]'(by omega)] := by
      rw [show k0 + (i + 1) = k0 + i + 1 by omega, List.take_succ_eq_append_getElem (by omega)]
    have ht2 : l.take (k0 + (i + 1 + 1)) = l.take (k0 + i) ++ [l[k0 + i]'(by omega)] ++ [l[k0 + (i + 1)]'(by omega)] := by
      rw [← ht1, show k0 + (i + 1 + 1) = k0 + (i + 1) + 1 by omega, List.take_succ_eq_append_getElem (by omega)]
    have hu := uniqI_snoc (l[k0 + (i + 1)]'(by omega)) (l[k0 + i]'(by omega)) (l.take (k0 + i))
    rw [← ht2, ← ht1] at hu
    rw [slices_Compact_Sint_int.l9_eq]
    simp only [h1, h1', wrap_back (show i ≤ LIM by omega), decide_true, cond_true, Cod.encs_len, Int.natCast_nonneg, Int.toNat_natCast, intC_int' c1, intC_int' c2, Option.bind_some, int_beq, int_bne, c3, intC_set, wrap_succ (show k ≤ LIM by omega), wrap_succ (show i + 1 ≤ LIM by omega)]
    rw [e1, e2]
    by_cases he : l[k0 + (i + 1)]'(by omega) = l[k0 + i]'(by omega)
    · simp only [he, decide_true, Bool.not_true, cond_false]
      refine ih (i + 1 + 1) k m cur (by omega) (by omega) (by omega) (by omega) (by omega) hc ?_ ?_
      · rw [hu, ht]; simp [he]
      · rw [show k0 + (i + 1 + 1) - 1 = (k0 + (i + 1) - 1) + 1 by omega, ← List.drop_drop, hdr, List.drop_drop]
    · simp only [he, decide_false, Bool.not_false, cond_true]
      have he' : ¬ l[k0 + i]'(by omega) = l[k0 + (i + 1)]'(by omega) := fun e => he e.symm
      refine ih (i + 1 + 1) (k + 1) m _ (by omega) (by omega) (by omega) (by omega) (by omega) (by simpa using hc) ?_ ?_
      · rw [hu]
        simp only [he', decide_false, cond_false]
        rw [← ht, List.take_succ_eq_append_getElem (by simp; omega), List.take_set_of_le (Nat.le_refl _), List.getElem_set_self]
      · rw [List.drop_set_of_lt (by omega), show k0 + (i + 1 + 1) - 1 = (k0 + (i + 1) - 1) + 1 by omega, ← List.drop_drop, hdr, List.drop_drop]
theorem slices_Compact_Sint_int.l4_run {n : Nat} {l : List Int} (hl : l.length ≤ LIM) (hn : l.length < n) : ∀ (d i m : Nat), i + 1 + d = l.length → d < m → uniqI (l.take (i + 1)) = l.take (i + 1) →
    ∃ r, slices_Compact_Sint_int.l4 n m ((i + 1 : Nat) : Int) (intC.encs l) = some ([r], [Ob.row false 1 (intC.encs (uniqI l ++ zerosI (l.length - (uniqI l).length)))]) ∧ (r = V.rs 0 0 (uniqI l).length ∨ r = V.rw 0 ∧ (uniqI l).length = l.length) := by
  intro d
  induction d with
  | zero =>
    intro i m hd hm hu
    obtain ⟨m, rfl⟩ : ∃ m', m = m' + 1 := ⟨m - 1, by omega⟩
    have h1 : ¬ ((i + 1 : Nat) : Int) < l.length := by omega
    rw [show i + 1 = l.length by omega, List.take_length] at hu
    refine ⟨V.rw 0, ?_, .inr ⟨rfl, by rw [hu]⟩⟩
    rw [slices_Compact_Sint_int.l4_eq]
    simp only [Cod.encs_len, h1, decide_false, cond_false, hu, Nat.sub_self]
    simp [zerosI]
  | succ d ih =>
    intro i m hd hm hu
    obtain ⟨m, rfl⟩ : ∃ m', m = m' + 1 := ⟨m - 1, by omega⟩
    have c1 : i + 1 < l.length := by omega
    have c2 : i < l.length := by omega
    have h1 : ((i + 1 : Nat) : Int) < l.length := by omega
    have h1' : ((i : Nat) : Int) < l.length := by omega
    have h2 : ((i + 1 : Nat) : Int) ≤ l.length := by omega
    have ht1 : l.take (i + 1) = l.take i ++ [l[i]] := List.take_succ_eq_append_getElem c2
    have ht2 : l.take (i + 1 + 1) = l.take i ++ [l[i]] ++ [l[i + 1]] := by rw [← ht1, List.take_succ_eq_append_getElem c1]
    have hs := uniqI_snoc l[i + 1] l[i] (l.take i)
    rw [← ht2, ← ht1] at hs
    rw [slices_Compact_Sint_int.l4_eq]
    simp only [h1, h1', h2, wrap_back (show i ≤ LIM by omega), decide_true, cond_true, Cod.encs_len, Int.natCast_nonneg, Int.toNat_natCast, intC_int' c1, intC_int' c2, Option.bind_some, int_beq, int_bne, wrap_succ (show i + 1 ≤ LIM by omega)]
    by_cases he : l[i + 1] = l[i]
    · simp only [he, decide_true, cond_true]
      have hlen : (l.take (i + 1)).length = i + 1 := by rw [List.length_take]; omega
      refine ⟨_, slices_Compact_Sint_int.l9_run (n := n) (m4 := m) (k0 := i + 1) hl (l.length - (i + 2)) 1 (i + 1) n l (by omega) (by omega) (by omega) (by omega) (by omega) rfl ?_ rfl, .inl rfl⟩
      rw [hs, hu]; simp [he]
    · simp only [he, decide_false, cond_false]
      have he' : ¬ l[i] = l[i + 1] := fun e => he e.symm
      refine ih (i + 1) m (by omega) (by omega) ?_
      rw [hs, hu]
      simp only [he', decide_false, cond_false]
      rw [List.take_succ_eq_append_getElem c1]
def slices_Compact_Sint_int.stub : StubB
  | [.rw 0], [.row false 1 es] => .any (intC.decs es) fun l => .ret ([.rs 0 0 (Sp.uniqI l).length], [.row false 1 (intC.encs (Sp.uniqI l ++ Sp.zerosI (l.length - (Sp.uniqI l).length)))])
  | _, _ => .fail
theorem slices_Compact_Sint_int.ok : StubBOk Tryz.prog C0 110 slices_Compact_Sint_int.stub := by
  intro args objs res objs' h
  unfold slices_Compact_Sint_int.stub at h
  split at h
  · obtain ⟨l, h1, h0⟩ := any_out h
    obtain ⟨rfl, hl⟩ := Cod.decs_inv h1
    cases h0
    have key : ∃ r, slices_Compact_Sint_int.res (l.length + 1) (intC.encs l) = some ([r], [Ob.row false 1 (intC.encs (uniqI l ++ zerosI (l.length - (uniqI l).length)))]) ∧ (r = V.rs 0 0 (uniqI l).length ∨ r = V.rw 0 ∧ (uniqI l).length = l.length) := by
      unfold slices_Compact_Sint_int.res
      by_cases h2 : l.length < 2
      · have h3 : (l.length : Int) < 2 := by omega
        simp only [Cod.encs_len, h3, decide_true, cond_true]
        have hu : uniqI l = l := by
          match l, h2 with
          | [], _ => rfl
          | [x], _ => rfl
        refine ⟨V.rw 0, ?_, .inr ⟨rfl, by rw [hu]⟩⟩
        rw [hu]; simp [zerosI]
      · have h3 : ¬ (l.length : Int) < 2 := by omega
        simp only [Cod.encs_len, h3, decide_false, cond_false]
        refine slices_Compact_Sint_int.l4_run (n := l.length + 1) hl (by omega) (l.length - 1) 0 (l.length + 1) (by omega) (by omega) ?_
        match l, h2 with
        | x :: l, _ => rfl
    obtain ⟨r, h2, h3⟩ := key
    have hs := slices_Compact_Sint_int.ev (n := l.length + 1) h2
    rcases h3 with rfl | ⟨rfl, hlen⟩
    · exact hs
    · exact hs.whole (by rw [Cod.encs_len, List.length_append, zerosI, List.length_replicate, hlen]; omega)
  · cases h
/-! cmp_isNaN_int -/
noncomputable def cmp_isNaN_int.cfg : Cfg := { C0 with keep := fun _ => none, nb := 0, M := tabM [], MM := tabB [] }
noncomputable def cmp_isNaN_int.res (n : Nat) (a0 : Int) : Option (List Q) :=
  some [Q.one (D.bool (a0 != a0))]
theorem cmp_isNaN_int.run (n : Nat) (a0 : Int) :
    run1 cmp_isNaN_int.cfg [RK.one LK.bool] n Tryz.f224 [Q.one (D.int IntKind.i64 a0)] = cmp_isNaN_int.res n a0 := by kernel_rfl
theorem cmp_isNaN_int.ev {n : Nat} {a0 : Int} {r : List Q} (h : cmp_isNaN_int.res n a0 = some r) : Snd Tryz.prog C0 224 [.one (.int .i64 a0)] r :=
  snd_ev (C := cmp_isNaN_int.cfg) cfg0 mix rfl rfl rfl rfl rfl .nil .nil rfl Tryz.func224 (by kernel_rfl) (by kernel_rfl) rfl ((cmp_isNaN_int.run n a0).trans h)

def cmp_isNaN_int.stub : Stub
  | [.one (.int .i64 _)] => .ret [.one (.bool false)]
  | _ => .fail
theorem cmp_isNaN_int.ok : StubOk Tryz.prog C0 224 cmp_isNaN_int.stub := by
  intro args res h
  unfold cmp_isNaN_int.stub at h
  split at h
  · cases h
    refine cmp_isNaN_int.ev (n := 0) ?_
    simp [cmp_isNaN_int.res]
  · cases h
/-! cmp_Less_int -/
noncomputable def cmp_Less_int.cfg : Cfg := { C0 with keep := fun _ => none, nb := 0, M := tabM [(224, cmp_isNaN_int.stub)], MM := tabB [] }
noncomputable def cmp_Less_int.res (n : Nat) (a0 : Int) (a1 : Int) : Option (List Q) :=
  some [Q.one (D.bool (decide (a0 < a1)))]
theorem cmp_Less_int.run (n : Nat) (a0 : Int) (a1 : Int) :
    run1 cmp_Less_int.cfg [RK.one LK.bool] n Tryz.f206 [Q.one (D.int IntKind.i64 a0), Q.one (D.int IntKind.i64 a1)] = cmp_Less_int.res n a0 a1 := by kernel_rfl
theorem cmp_Less_int.ev {n : Nat} {a0 : Int} {a1 : Int} {r : List Q} (h : cmp_Less_int.res n a0 a1 = some r) : Snd Tryz.prog C0 206 [.one (.int .i64 a0), .one (.int .i64 a1)] r :=
  snd_ev (C := cmp_Less_int.cfg) cfg0 mix rfl rfl rfl rfl rfl (.cons cmp_isNaN_int.ok .nil) .nil rfl Tryz.func206 (by kernel_rfl) (by kernel_rfl) rfl ((cmp_Less_int.run n a0 a1).trans h)

def cmp_Less_int.stub : Stub
  | [.one (.int .i64 a), .one (.int .i64 b)] => .ret [.one (.bool (decide (a < b)))]
  | _ => .fail
theorem cmp_Less_int.ok : StubOk Tryz.prog C0 206 cmp_Less_int.stub := by
  intro args res h
  unfold cmp_Less_int.stub at h
  split at h
  · cases h
    refine cmp_Less_int.ev (n := 0) ?_
    rfl
  · cases h
/-! slices_insertionSortOrdered_int -/
noncomputable def slices_insertionSortOrdered_int.cfg : Cfg := { C0 with keep := fun | 1 => some [0, 1, 2, 6] | 4 => some [0, 1, 2, 6, 7] | _ => none, nb := 1, M := tabM [(206, cmp_Less_int.stub)], MM := tabB [] }
noncomputable def slices_insertionSortOrdered_int.l1 (n : Nat) (m1 : Nat) (i0 : Int) (i1 : Int) (i2 : Int) (l3 : List (List D)) : Option (List V × List Ob) :=
  loopAtB slices_insertionSortOrdered_int.cfg n Tryz.f200 [1, 0] [] m1 (St.mk [V.rw (0 : Nat), V.one true (D.int IntKind.i64 i0), V.one true (D.int IntKind.i64 i1), V.undef, V.undef, V.undef, V.one true (D.int IntKind.i64 i2), V.undef, V.undef, V.undef, V.undef, V.undef, V.undef, V.undef, V.undef, V.undef, V.undef, V.undef, V.undef, V.undef, V.undef, V.undef, V.undef, V.undef, V.undef, V.undef, V.undef, V.undef, V.undef, V.undef, V.undef, V.undef, V.undef, V.undef, V.undef, V.undef, V.undef, V.undef, V.undef, V.undef, V.undef, V.undef, V.undef, V.undef, V.undef, V.undef, V.undef, V.undef, V.undef] [Ob.row false (1 : Nat) l3])
noncomputable def slices_insertionSortOrdered_int.l4 (n : Nat) (m1 : Nat) (m4 : Nat) (i0 : Int) (i1 : Int) (i2 : Int) (i3 : Int) (l4 : List (List D)) : Option (List V × List Ob) :=
  loopAtB slices_insertionSortOrdered_int.cfg n Tryz.f200 [1, 0, 0, 1, 0, 0, 1, 0] [m1] m4 (St.mk [V.rw (0 : Nat), V.one true (D.int IntKind.i64 i0), V.one true (D.int IntKind.i64 i1), V.undef, V.undef, V.undef, V.one true (D.int IntKind.i64 i2), V.one true (D.int IntKind.i64 i3), V.undef, V.undef, V.undef, V.undef, V.undef, V.undef, V.undef, V.undef, V.undef, V.undef, V.undef, V.undef, V.undef, V.undef, V.undef, V.undef, V.undef, V.undef, V.undef, V.undef, V.undef, V.undef, V.undef, V.undef, V.undef, V.undef, V.undef, V.undef, V.undef, V.undef, V.undef, V.undef, V.undef, V.undef, V.undef, V.undef, V.undef, V.undef, V.undef, V.undef, V.undef] [Ob.row false (1 : Nat) l4])
theorem slices_insertionSortOrdered_int.l1_eq (n : Nat) (m1 : Nat) (i0 : Int) (i1 : Int) (i2 : Int) (l3 : List (List D)) :
    slices_insertionSortOrdered_int.l1 n (m1 + 1) i0 i1 i2 l3 = bif decide (i2 < i1) then slices_insertionSortOrdered_int.l4 n m1 n i0 i1 i2 i2 l3 else some ([], [Ob.row false (1 : Nat) l3]) := by kernel_rfl
theorem slices_insertionSortOrdered_int.l4_eq (n : Nat) (m1 : Nat) (m4 : Nat) (i0 : Int) (i1 : Int) (i2 : Int) (i3 : Int) (l4 : List (List D)) :
    slices_insertionSortOrdered_int.l4 n m1 (m4 + 1) i0 i1 i2 i3 l4 = bif decide (i3 > i0) then bif decide ((0 : Int) ≤ i3) then bif decide (i3 < (↑(List.length l4) : Int)) then Option.bind (Option.bind (some (cellD l4 (Int.toNat i3) (0 : Nat))) (D.int? IntKind.i64)) fun (i1_1 : Int) => bif decide ((0 : Int) ≤ IntKind.wrap IntKind.i64 (i3 - (1 : Int))) then bif decide (IntKind.wrap IntKind.i64 (i3 - (1 : Int)) < (↑(List.length l4) : Int)) then Option.bind (Option.bind (some (cellD l4 (Int.toNat (IntKind.wrap IntKind.i64 (i3 - (1 : Int)))) (0 : Nat))) (D.int? IntKind.i64)) fun (i2_1 : Int) => bif decide (i1_1 < i2_1) then bif decide ((0 : Int) ≤ IntKind.wrap IntKind.i64 (i3 - (1 : Int))) then bif decide (IntKind.wrap IntKind.i64 (i3 - (1 : Int)) < (↑(List.length l4) : Int)) then Option.bind (Option.bind (some (cellD l4 (Int.toNat (IntKind.wrap IntKind.i64 (i3 - (1 : Int)))) (0 : Nat))) (D.int? IntKind.i64)) fun (i3_1 : Int) => bif decide ((0 : Int) ≤ i3) then bif decide (i3 < (↑(List.length l4) : Int)) then Option.bind (Option.bind (some (cellD l4 (Int.toNat i3) (0 : Nat))) (D.int? IntKind.i64)) fun (i4 : Int) => bif decide ((0 : Int) ≤ i3) then bif decide (i3 < (↑(List.length l4) : Int)) then bif decide ((0 : Int) ≤ IntKind.wrap IntKind.i64 (i3 - (1 : Int))) then bif decide (IntKind.wrap IntKind.i64 (i3 - (1 : Int)) < (↑(List.length (setRow (1 : Nat) l4 (Int.toNat i3) (0 : Nat) [D.int IntKind.i64 i3_1])) : Int)) then slices_insertionSortOrdered_int.l4 n m1 m4 i0 i1 i2 (IntKind.wrap IntKind.i64 (i3 - (1 : Int))) (setRow (1 : Nat) (setRow (1 : Nat) l4 (Int.toNat i3) (0 : Nat) [D.int IntKind.i64 i3_1]) (Int.toNat (IntKind.wrap IntKind.i64 (i3 - (1 : Int)))) (0 : Nat) [D.int IntKind.i64 i4]) else none else none else none else none else none else none else none else none else slices_insertionSortOrdered_int.l1 n m1 i0 i1 (IntKind.wrap IntKind.i64 (i2 + (1 : Int))) l4 else none else none else none else none else slices_insertionSortOrdered_int.l1 n m1 i0 i1 (IntKind.wrap IntKind.i64 (i2 + (1 : Int))) l4 := by kernel_rfl
noncomputable def slices_insertionSortOrdered_int.res (n : Nat) (es : List (List D)) (a : Int) (b : Int) : Option (List V × List Ob) :=
  slices_insertionSortOrdered_int.l1 n n a b (IntKind.wrap IntKind.i64 (a + (1 : Int))) es
theorem slices_insertionSortOrdered_int.run (n : Nat) (es : List (List D)) (a : Int) (b : Int) :
    (fun p : List V × List Ob => runB slices_insertionSortOrdered_int.cfg n Tryz.f200 p.1 p.2) ([V.rw (0 : Nat), V.one true (D.int IntKind.i64 a), V.one true (D.int IntKind.i64 b)], [Ob.row false (1 : Nat) es]) = slices_insertionSortOrdered_int.res n es a b := by kernel_rfl
theorem slices_insertionSortOrdered_int.ev {n : Nat} {es : List (List D)} {a : Int} {b : Int} {r : List V} {o : List Ob} (h : slices_insertionSortOrdered_int.res n es a b = some (r, o)) : SndB Tryz.prog C0 200 [.rw 0, .one true (.int .i64 a), .one true (.int .i64 b)] [.row false 1 es] r o :=
  sndB_ev (C := slices_insertionSortOrdered_int.cfg) cfg0 mix rfl rfl rfl rfl rfl (.cons cmp_Less_int.ok .nil) .nil Tryz.func200 (by kernel_rfl) (by kernel_rfl) rfl ((slices_insertionSortOrdered_int.run n es a b).trans h)

theorem swI_len (l : List Int) (j : Nat) : (swI l j).length = l.length := by unfold swI; rw [List.length_set, List.length_set]
theorem swD_len : ∀ (j : Nat) (l : List Int), (swD j l).length = l.length
  | 0, _ => rfl
  | j + 1, l => by
    rw [swD]
    cases decide (l.getD (j + 1) 0 < l.getD j 0) with
    | true => rw [cond_true, swD_len j, swI_len]
    | false => rfl
theorem slices_insertionSortOrdered_int.l4_run {n m1 : Nat} {b i : Int} : ∀ (j m : Nat) (l : List Int), j < l.length → l.length ≤ 100 → j < m →
    slices_insertionSortOrdered_int.l4 n m1 m 0 b i (j : Int) (intC.encs l) = slices_insertionSortOrdered_int.l1 n m1 0 b (IntKind.wrap .i64 (i + 1)) (intC.encs (swD j l)) := by
  intro j
  induction j with
  | zero =>
    intro m l hj hl hm
    obtain ⟨m, rfl⟩ : ∃ m', m = m' + 1 := ⟨m - 1, by omega⟩
    have h1 : ¬ ((0 : Nat) : Int) > 0 := by omega
    rw [slices_insertionSortOrdered_int.l4_eq, swD]
    simp -implicitDefEqProofs only [h1, decide_false, cond_false]
  | succ j ih =>
    intro m l hj hl hm
    obtain ⟨m, rfl⟩ : ∃ m', m = m' + 1 := ⟨m - 1, by omega⟩
    have h1 : ((j + 1 : Nat) : Int) > 0 := by omega
    have h2 : ((j + 1 : Nat) : Int) < ((l.length : Nat) : Int) := by omega
    have h3 : (j : Int) < ((l.length : Nat) : Int) := by omega
    have hjl : j < l.length := by omega
    have hw : IntKind.wrap .i64 (((j + 1 : Nat) : Int) - 1) = (j : Int) := by rw [wrap_in (by omega) (by omega)]; omega
    have step := ih m (swI l j) (by rw [swI_len]; omega) (by rw [swI_len]; omega) (by omega)
    rw [slices_insertionSortOrdered_int.l4_eq, swD]
    simp -implicitDefEqProofs only [h1, h2, h3, hw, intC_gd hj, intC_gd hjl, List.length_set, Cod.encs_len, Int.natCast_nonneg, Int.toNat_natCast, decide_true, cond_true, Option.bind_some, intC_set]
    cases decide (l.getD (j + 1) 0 < l.getD j 0) with
    | true =>
      simp -implicitDefEqProofs only [cond_true]
      exact step
    | false => simp -implicitDefEqProofs only [cond_false]
theorem slices_insertionSortOrdered_int.l1_run {n : Nat} (hn : 100 ≤ n) : ∀ (d i m : Nat) (l : List Int), i + d = l.length → l.length ≤ 99 → d < m →
    slices_insertionSortOrdered_int.l1 n m 0 ((l.length : Nat) : Int) (i : Int) (intC.encs l) = some ([], [Ob.row false 1 (intC.encs (insA d i l))]) := by
  intro d
  induction d with
  | zero =>
    intro i m l hi hl hm
    obtain ⟨m, rfl⟩ : ∃ m', m = m' + 1 := ⟨m - 1, by omega⟩
    have h1 : ¬ (i : Int) < ((l.length : Nat) : Int) := by omega
    rw [slices_insertionSortOrdered_int.l1_eq, insA]
    simp -implicitDefEqProofs only [h1, decide_false, cond_false]
  | succ d ih =>
    intro i m l hi hl hm
    obtain ⟨m, rfl⟩ : ∃ m', m = m' + 1 := ⟨m - 1, by omega⟩
    have h1 : (i : Int) < ((l.length : Nat) : Int) := by omega
    have key := slices_insertionSortOrdered_int.l4_run (n := n) (m1 := m) (b := ((l.length : Nat) : Int)) (i := (i : Int)) i n l (by omega) (by omega) (by omega)
    rw [slices_insertionSortOrdered_int.l1_eq, insA]
    simp -implicitDefEqProofs only [h1, decide_true, cond_true]
    refine Eq.trans key ?_
    have step := ih (i + 1) m (swD i l) (by rw [swD_len]; omega) (by rw [swD_len]; omega) (by omega)
    rw [swD_len] at step
    rw [wrap_succ (show i ≤ LIM by unfold LIM; omega)]
    exact step
def slices_insertionSortOrdered_int.stub : StubB
  | [.rw 0, .one true (.int .i64 a), .one true (.int .i64 b)], [.row false 1 es] => .any (intC.decs es) fun l => .gd (decide (a = 0)) (.gd (decide (b = (l.length : Int))) (.gd (decide (l.length ≤ 12)) (.gd (decide (0 < l.length)) (.ret ([], [.row false 1 (intC.encs (Sp.sortI l))])))))
  | _, _ => .fail
theorem slices_insertionSortOrdered_int.ok : StubBOk Tryz.prog C0 200 slices_insertionSortOrdered_int.stub := by
  intro args objs res objs' h
  unfold slices_insertionSortOrdered_int.stub at h
  split at h
  · rename_i a b es
    obtain ⟨l, h1, h0⟩ := any_out h
    obtain ⟨rfl, hl⟩ := Cod.decs_inv h1
    obtain ⟨k1, h0⟩ := gd_out h0
    obtain ⟨k2, h0⟩ := gd_out h0
    obtain ⟨k3, h0⟩ := gd_out h0
    obtain ⟨k4, h0⟩ := gd_out h0
    cases h0
    have k1 := of_decide_eq_true k1
    have k2 := of_decide_eq_true k2
    have k3 := of_decide_eq_true k3
    have k4 := of_decide_eq_true k4
    subst k1 k2
    obtain ⟨N, hN⟩ : ∃ N, 100 ≤ N := ⟨100, Nat.le_refl _⟩
    refine slices_insertionSortOrdered_int.ev (n := N) ?_
    unfold slices_insertionSortOrdered_int.res
    have w1 : IntKind.wrap .i64 ((0 : Int) + 1) = ((1 : Nat) : Int) := by rw [wrap_in (by omega) (by omega)]; rfl
    rw [w1]
    have key := slices_insertionSortOrdered_int.l1_run (n := N) hN (l.length - 1) 1 N l (by omega) (by omega) (by omega)
    rw [insA_sort k4] at key
    exact key
  · cases h
/-! slices_pdqsortOrdered_int -/
noncomputable def slices_pdqsortOrdered_int.cfg : Cfg := { C0 with keep := fun | 2 => some [0, 1, 2, 3, 8, 9] | _ => none, nb := 1, M := tabM [], MM := tabB [(200, slices_insertionSortOrdered_int.stub)] }
noncomputable def slices_pdqsortOrdered_int.l2 (n : Nat) (m2 : Nat) (i0 : Int) (i1 : Int) (i2 : Int) (b3 : Bool) (b4 : Bool) (l5 : List (List D)) : Option (List V × List Ob) :=
  loopAtB slices_pdqsortOrdered_int.cfg n Tryz.f179 [1, 1, 0] [] m2 (St.mk [V.rw (0 : Nat), V.one true (D.int IntKind.i64 i0), V.one true (D.int IntKind.i64 i1), V.one true (D.int IntKind.i64 i2), V.undef, V.undef, V.undef, V.undef, V.one true (D.bool b3), V.one true (D.bool b4), V.undef, V.undef, V.undef, V.undef, V.undef, V.undef, V.undef, V.undef, V.undef, V.undef, V.undef, V.undef, V.undef, V.undef, V.undef, V.undef, V.undef, V.undef, V.undef, V.undef, V.undef, V.undef, V.undef, V.undef, V.undef, V.undef, V.undef, V.undef, V.undef, V.undef, V.undef, V.undef, V.undef, V.undef, V.undef, V.undef, V.undef, V.undef, V.undef, V.undef, V.undef, V.undef, V.undef, V.undef, V.undef, V.undef, V.undef, V.undef, V.undef, V.undef, V.undef, V.undef, V.undef, V.undef, V.undef, V.undef, V.undef, V.undef, V.undef, V.undef, V.undef, V.undef, V.undef, V.undef, V.undef, V.undef, V.undef, V.undef, V.undef, V.undef, V.undef, V.undef, V.undef, V.undef, V.undef, V.undef, V.undef, V.undef, V.undef, V.undef, V.undef, V.undef, V.undef, V.undef, V.undef, V.undef, V.undef, V.undef, V.undef, V.undef, V.undef, V.undef, V.undef, V.undef, V.undef, V.undef, V.undef, V.undef, V.undef, V.undef, V.undef, V.undef, V.undef, V.undef, V.undef, V.undef, V.undef, V.undef, V.undef, V.undef, V.undef, V.undef, V.undef, V.undef, V.undef, V.undef, V.undef, V.undef, V.undef, V.undef, V.undef, V.undef, V.undef, V.undef] [Ob.row false (1 : Nat) l5])
theorem slices_pdqsortOrdered_int.l2_eq (n : Nat) (m2 : Nat) (i0 : Int) (i1 : Int) (i2 : Int) (b3 : Bool) (b4 : Bool) (l5 : List (List D)) :
    slices_pdqsortOrdered_int.l2 n (m2 + 1) i0 i1 i2 b3 b4 l5 = bif decide (IntKind.wrap IntKind.i64 (i1 - i0) ≤ (12 : Int)) then Option.bind (Cod.decs intC l5) fun (l1 : List Int) => bif decide (i0 = (0 : Int)) then bif decide (i1 = (↑(List.length l1) : Int)) then bif decide (List.length l1 ≤ (12 : Nat)) then bif decide ((0 : Nat) < List.length l1) then some ([], [Ob.row false (1 : Nat) (Cod.encs intC (sortI l1))]) else none else none else none else none else bif i2 == (0 : Int) then none else bif !b3 then none else none := by kernel_rfl
noncomputable def slices_pdqsortOrdered_int.res (n : Nat) (es : List (List D)) (a : Int) (b : Int) (c : Int) : Option (List V × List Ob) :=
  slices_pdqsortOrdered_int.l2 n n a b c true true es
theorem slices_pdqsortOrdered_int.run (n : Nat) (es : List (List D)) (a : Int) (b : Int) (c : Int) :
    (fun p : List V × List Ob => runB slices_pdqsortOrdered_int.cfg n Tryz.f179 p.1 p.2) ([V.rw (0 : Nat), V.one true (D.int IntKind.i64 a), V.one true (D.int IntKind.i64 b), V.one true (D.int IntKind.i64 c)], [Ob.row false (1 : Nat) es]) = slices_pdqsortOrdered_int.res n es a b c := by kernel_rfl
theorem slices_pdqsortOrdered_int.ev {n : Nat} {es : List (List D)} {a : Int} {b : Int} {c : Int} {r : List V} {o : List Ob} (h : slices_pdqsortOrdered_int.res n es a b c = some (r, o)) : SndB Tryz.prog C0 179 [.rw 0, .one true (.int .i64 a), .one true (.int .i64 b), .one true (.int .i64 c)] [.row false 1 es] r o :=
  sndB_ev (C := slices_pdqsortOrdered_int.cfg) cfg0 mix rfl rfl rfl rfl rfl .nil (.cons slices_insertionSortOrdered_int.ok .nil) Tryz.func179 (by kernel_rfl) (by kernel_rfl) rfl ((slices_pdqsortOrdered_int.run n es a b c).trans h)

def slices_pdqsortOrdered_int.stub : StubB
  | [.rw 0, .one true (.int .i64 a), .one true (.int .i64 b), .one true (.int .i64 c)], [.row false 1 es] => .any (intC.decs es) fun l => .gd (decide (a = 0)) (.gd (decide (b = (l.length : Int))) (.gd (decide (l.length ≤ 12)) (.gd (decide (0 < l.length)) (.ret ([], [.row false 1 (intC.encs (Sp.sortI l))])))))
  | _, _ => .fail
theorem slices_pdqsortOrdered_int.ok : StubBOk Tryz.prog C0 179 slices_pdqsortOrdered_int.stub := by
  intro args objs res objs' h
  unfold slices_pdqsortOrdered_int.stub at h
  split at h
  · rename_i a b c es
    obtain ⟨l, h1, h0⟩ := any_out h
    obtain ⟨rfl, hl⟩ := Cod.decs_inv h1
    obtain ⟨k1, h0⟩ := gd_out h0
    obtain ⟨k2, h0⟩ := gd_out h0
    obtain ⟨k3, h0⟩ := gd_out h0
    obtain ⟨k4, h0⟩ := gd_out h0
    cases h0
    have k1' := of_decide_eq_true k1
    have k2' := of_decide_eq_true k2
    have k3' := of_decide_eq_true k3
    subst k1' k2'
    refine slices_pdqsortOrdered_int.ev (n := 1) ?_
    unfold slices_pdqsortOrdered_int.res
    have w1 : IntKind.wrap .i64 (((l.length : Nat) : Int) - 0) = ((l.length : Nat) : Int) := by rw [wrap_in (by omega) (by omega)]; omega
    have h2 : ((l.length : Nat) : Int) ≤ 12 := by omega
    rw [slices_pdqsortOrdered_int.l2_eq]
    simp -implicitDefEqProofs only [w1, h2, h1, k3, k4, decide_true, cond_true, Option.bind_some]
  · cases h
/-! math_bits_Len64 -/
noncomputable def math_bits_Len64.cfg : Cfg := { C0 with keep := fun _ => none, nb := 0, M := tabM [], MM := tabB [] }
noncomputable def math_bits_Len64.res (n : Nat) (a0 : Int) : Option (List Q) :=
  bif decide (a0 ≥ (4294967296 : Int)) then bif decide (Int.fdiv a0 ((2 : Int) ^ min (Int.toNat (32 : Int)) (64 : Nat)) ≥ (65536 : Int)) then bif decide (Int.fdiv (Int.fdiv a0 ((2 : Int) ^ min (Int.toNat (32 : Int)) (64 : Nat))) ((2 : Int) ^ min (Int.toNat (16 : Int)) (64 : Nat)) ≥ (256 : Int)) then bif decide ((0 : Int) ≤ IntKind.wrap IntKind.u8 (Int.fdiv (Int.fdiv (Int.fdiv a0 ((2 : Int) ^ min (Int.toNat (32 : Int)) (64 : Nat))) ((2 : Int) ^ min (Int.toNat (16 : Int)) (64 : Nat))) ((2 : Int) ^ min (Int.toNat (8 : Int)) (64 : Nat)))) then bif decide (IntKind.wrap IntKind.u8 (Int.fdiv (Int.fdiv (Int.fdiv a0 ((2 : Int) ^ min (Int.toNat (32 : Int)) (64 : Nat))) ((2 : Int) ^ min (Int.toNat (16 : Int)) (64 : Nat))) ((2 : Int) ^ min (Int.toNat (8 : Int)) (64 : Nat))) < (256 : Int)) then some [Q.one (D.int IntKind.i64 (IntKind.wrap IntKind.i64 (IntKind.wrap IntKind.i64 (IntKind.wrap IntKind.i64 ((32 : Int) + (16 : Int)) + (8 : Int)) + IntKind.wrap IntKind.i64 (byteAt (ByteArray.mk #[(0 : UInt8), (1 : UInt8), (2 : UInt8), (2 : UInt8), (3 : UInt8), (3 : UInt8), (3 : UInt8), (3 : UInt8), (4 : UInt8), (4 : UInt8), (4 : UInt8), (4 : UInt8), (4 : UInt8), (4 : UInt8), (4 : UInt8), (4 : UInt8), (5 : UInt8), (5 : UInt8), (5 : UInt8), (5 : UInt8), (5 : UInt8), (5 : UInt8), (5 : UInt8), (5 : UInt8), (5 : UInt8), (5 : UInt8), (5 : UInt8), (5 : UInt8), (5 : UInt8), (5 : UInt8), (5 : UInt8), (5 : UInt8), (6 : UInt8), (6 : UInt8), (6 : UInt8), (6 : UInt8), (6 : UInt8), (6 : UInt8), (6 : UInt8), (6 : UInt8), (6 : UInt8), (6 : UInt8), (6 : UInt8), (6 : UInt8), (6 : UInt8), (6 : UInt8), (6 : UInt8), (6 : UInt8), (6 : UInt8), (6 : UInt8), (6 : UInt8), (6 : UInt8), (6 : UInt8), (6 : UInt8), (6 : UInt8), (6 : UInt8), (6 : UInt8), (6 : UInt8), (6 : UInt8), (6 : UInt8), (6 : UInt8), (6 : UInt8), (6 : UInt8), (6 : UInt8), (7 : UInt8), (7 : UInt8), (7 : UInt8), (7 : UInt8), (7 : UInt8), (7 : UInt8), (7 : UInt8), (7 : UInt8), (7 : UInt8), (7 : UInt8), (7 : UInt8), (7 : UInt8), (7 : UInt8), (7 : UInt8), (7 : UInt8), (7 : UInt8), (7 : UInt8), (7 : UInt8), (7 : UInt8), (7 : UInt8), (7 : UInt8), (7 : UInt8), (7 : UInt8), (7 : UInt8), (7 : UInt8), (7 : UInt8), (7 : UInt8), (7 : UInt8), (7 : UInt8), (7 : UInt8), (7 : UInt8), (7 : UInt8), (7 : UInt8), (7 : UInt8), (7 : UInt8), (7 : UInt8), (7 : UInt8), (7 : UInt8), (7 : UInt8), (7 : UInt8), (7 : UInt8), (7 : UInt8), (7 : UInt8), (7 : UInt8), (7 : UInt8), (7 : UInt8), (7 : UInt8), (7 : UInt8), (7 : UInt8), (7 : UInt8), (7 : UInt8), (7 : UInt8), (7 : UInt8), (7 : UInt8), (7 : UInt8), (7 : UInt8), (7 : UInt8), (7 : UInt8), (7 : UInt8), (7 : UInt8), (7 : UInt8), (7 : UInt8), (7 : UInt8), (7 : UInt8), (8 : UInt8), (8 : UInt8), (8 : UInt8), (8 : UInt8), (8 : UInt8), (8 : UInt8), (8 : UInt8), (8 : UInt8), (8 : UInt8), (8 : UInt8), (8 : UInt8), (8 : UInt8), (8 : UInt8), (8 : UInt8), (8 : UInt8), (8 : UInt8), (8 : UInt8), (8 : UInt8), (8 : UInt8), (8 : UInt8), (8 : UInt8), (8 : UInt8), (8 : UInt8), (8 : UInt8), (8 : UInt8), (8 : UInt8), (8 : UInt8), (8 : UInt8), (8 : UInt8), (8 : UInt8), (8 : UInt8), (8 : UInt8), (8 : UInt8), (8 : UInt8), (8 : UInt8), (8 : UInt8), (8 : UInt8), (8 : UInt8), (8 : UInt8), (8 : UInt8), (8 : UInt8), (8 : UInt8), (8 : UInt8), (8 : UInt8), (8 : UInt8), (8 : UInt8), (8 : UInt8), (8 : UInt8), (8 : UInt8), (8 : UInt8), (8 : UInt8), (8 : UInt8), (8 : UInt8), (8 : UInt8), (8 : UInt8), (8 : UInt8), (8 : UInt8), (8 : UInt8), (8 : UInt8), (8 : UInt8), (8 : UInt8), (8 : UInt8), (8 : UInt8), (8 : UInt8), (8 : UInt8), (8 : UInt8), (8 : UInt8), (8 : UInt8), (8 : UInt8), (8 : UInt8), (8 : UInt8), (8 : UInt8), (8 : UInt8), (8 : UInt8), (8 : UInt8), (8 : UInt8), (8 : UInt8), (8 : UInt8), (8 : UInt8), (8 : UInt8), (8 : UInt8), (8 : UInt8), (8 : UInt8), (8 : UInt8), (8 : UInt8), (8 : UInt8), (8 : UInt8), (8 : UInt8), (8 : UInt8), (8 : UInt8), (8 : UInt8), (8 : UInt8), (8 : UInt8), (8 : UInt8), (8 : UInt8), (8 : UInt8), (8 : UInt8), (8 : UInt8), (8 : UInt8), (8 : UInt8), (8 : UInt8), (8 : UInt8), (8 : UInt8), (8 : UInt8), (8 : UInt8), (8 : UInt8), (8 : UInt8), (8 : UInt8), (8 : UInt8), (8 : UInt8), (8 : UInt8), (8 : UInt8), (8 : UInt8), (8 : UInt8), (8 : UInt8), (8 : UInt8), (8 : UInt8), (8 : UInt8), (8 : UInt8), (8 : UInt8), (8 : UInt8), (8 : UInt8), (8 : UInt8), (8 : UInt8), (8 : UInt8), (8 : UInt8), (8 : UInt8), (8 : UInt8)]) (Int.toNat (IntKind.wrap IntKind.u8 (Int.fdiv (Int.fdiv (Int.fdiv a0 ((2 : Int) ^ min (Int.toNat (32 : Int)) (64 : Nat))) ((2 : Int) ^ min (Int.toNat (16 : Int)) (64 : Nat))) ((2 : Int) ^ min (Int.toNat (8 : Int)) (64 : Nat)))))))))] else none else none else bif decide ((0 : Int) ≤ IntKind.wrap IntKind.u8 (Int.fdiv (Int.fdiv a0 ((2 : Int) ^ min (Int.toNat (32 : Int)) (64 : Nat))) ((2 : Int) ^ min (Int.toNat (16 : Int)) (64 : Nat)))) then bif decide (IntKind.wrap IntKind.u8 (Int.fdiv (Int.fdiv a0 ((2 : Int) ^ min (Int.toNat (32 : Int)) (64 : Nat))) ((2 : Int) ^ min (Int.toNat (16 : Int)) (64 : Nat))) < (256 : Int)) then some [Q.one (D.int IntKind.i64 (IntKind.wrap IntKind.i64 (IntKind.wrap IntKind.i64 ((32 : Int) + (16 : Int)) + IntKind.wrap IntKind.i64 (byteAt (ByteArray.mk #[(0 : UInt8), (1 : UInt8), (2 : UInt8), (2 : UInt8), (3 : UInt8), (3 : UInt8), (3 : UInt8), (3 : UInt8), (4 : UInt8), (4 : UInt8), (4 : UInt8), (4 : UInt8), (4 : UInt8), (4 : UInt8), (4 : UInt8), (4 : UInt8), (5 : UInt8), (5 : UInt8), (5 : UInt8), (5 : UInt8), (5 : UInt8), (5 : UInt8), (5 : UInt8), (5 : UInt8), (5 : UInt8), (5 : UInt8), (5 : UInt8), (5 : UInt8), (5 : UInt8), (5 : UInt8), (5 : UInt8), (5 : UInt8), (6 : UInt8), (6 : UInt8), (6 : UInt8), (6 : UInt8), (6 : UInt8), (6 : UInt8), (6 : UInt8), (6 : UInt8), (6 : UInt8), (6 : UInt8), (6 : UInt8), (6 : UInt8), (6 : UInt8), (6 : UInt8), (6 : UInt8), (6 : UInt8), (6 : UInt8), (6 : UInt8), (6 : UInt8), (6 : UInt8), (6 : UInt8), (6 : UInt8), (6 : UInt8), (6 : UInt8), (6 : UInt8), (6 : UInt8), (6 : UInt8), (6 : UInt8), (6 : UInt8), (6 : UInt8), (6 : UInt8), (6 : UInt8), (7 : UInt8), (7 : UInt8), (7 : UInt8), (7 : UInt8), (7 : UInt8), (7 : UInt8), (7 : UInt8), (7 : UInt8), (7 : UInt8), (7 : UInt8), (7 : UInt8), (7 : UInt8), (7 : UInt8), (7 : UInt8), (7 : UInt8), (7 : UInt8), (7 : UInt8), (7 : UInt8), (7 : UInt8), (7 : UInt8), (7 : UInt8), (7 : UInt8), (7 : UInt8), (7 : UInt8), (7 : UInt8), (7 : UInt8), (7 : UInt8), (7 : UInt8), (7 : UInt8), (7 : UInt8), (7 : UInt8), (7 : UInt8), (7 : UInt8), (7 : UInt8), (7 : UInt8), (7 : UInt8), (7 : UInt8), (7 : UInt8), (7 : UInt8), (7 : UInt8), (7 : UInt8), (7 : UInt8), (7 : UInt8), (7 : UInt8), (7 : UInt8), (7 : UInt8), (7 : UInt8), (7 : UInt8), (7 : UInt8), (7 : UInt8), (7 : UInt8), (7 : UInt8), (7 : UInt8), (7 : UInt8), (7 : UInt8), (7 : UInt8), (7 : UInt8), (7 : UInt8), (7 : UInt8), (7 : UInt8), (7 : UInt8), (7 : UInt8), (7 : UInt8), (7 : UInt8), (8 : UInt8), (8 : UInt8), (8 : UInt8), (8 : UInt8), (8 : UInt8), (8 : UInt8), (8 : UInt8), (8 : UInt8), (8 : UInt8), (8 : UInt8), (8 : UInt8), (8 : UInt8), (8 : UInt8), (8 : UInt8), (8 : UInt8), (8 : UInt8), (8 : UInt8), (8 : UInt8), (8 : UInt8), (8 : UInt8), (8 : UInt8), (8 : UInt8), (8 : UInt8), (8 : UInt8), (8 : UInt8), (8 : UInt8), (8 : UInt8), (8 : UInt8), (8 : UInt8), (8 : UInt8), (8 : UInt8), (8 : UInt8), (8 : UInt8), (8 : UInt8), (8 : UInt8), (8 : UInt8), (8 : UInt8), (8 : UInt8), (8 : UInt8), (8 : UInt8), (8 : UInt8), (8 : UInt8), (8 : UInt8), (8 : UInt8), (8 : UInt8), (8 : UInt8), (8 : UInt8), (8 : UInt8), (8 : UInt8), (8 : UInt8), (8 : UInt8), (8 : UInt8), (8 : UInt8), (8 : UInt8), (8 : UInt8), (8 : UInt8), (8 : UInt8), (8 : UInt8), (8 : UInt8), (8 : UInt8), (8 : UInt8), (8 : UInt8), (8 : UInt8), (8 : UInt8), (8 : UInt8), (8 : UInt8), (8 : UInt8), (8 : UInt8), (8 : UInt8), (8 : UInt8), (8 : UInt8), (8 : UInt8), (8 : UInt8), (8 : UInt8), (8 : UInt8), (8 : UInt8), (8 : UInt8), (8 : UInt8), (8 : UInt8), (8 : UInt8), (8 : UInt8), (8 : UInt8), (8 : UInt8), (8 : UInt8), (8 : UInt8), (8 : UInt8), (8 : UInt8), (8 : UInt8), (8 : UInt8), (8 : UInt8), (8 : UInt8), (8 : UInt8), (8 : UInt8), (8 : UInt8), (8 : UInt8), (8 : UInt8), (8 : UInt8), (8 : UInt8), (8 : UInt8), (8 : UInt8), (8 : UInt8), (8 : UInt8), (8 : UInt8), (8 : UInt8), (8 : UInt8), (8 : UInt8), (8 : UInt8), (8 : UInt8), (8 : UInt8), (8 : UInt8), (8 : UInt8), (8 : UInt8), (8 : UInt8), (8 : UInt8), (8 : UInt8), (8 : UInt8), (8 : UInt8), (8 : UInt8), (8 : UInt8), (8 : UInt8), (8 : UInt8), (8 : UInt8), (8 : UInt8), (8 : UInt8), (8 : UInt8), (8 : UInt8), (8 : UInt8), (8 : UInt8)]) (Int.toNat (IntKind.wrap IntKind.u8 (Int.fdiv (Int.fdiv a0 ((2 : Int) ^ min (Int.toNat (32 : Int)) (64 : Nat))) ((2 : Int) ^ min (Int.toNat (16 : Int)) (64 : Nat)))))))))] else none else none else bif decide (Int.fdiv a0 ((2 : Int) ^ min (Int.toNat (32 : Int)) (64 : Nat)) ≥ (256 : Int)) then bif decide ((0 : Int) ≤ IntKind.wrap IntKind.u8 (Int.fdiv (Int.fdiv a0 ((2 : Int) ^ min (Int.toNat (32 : Int)) (64 : Nat))) ((2 : Int) ^ min (Int.toNat (8 : Int)) (64 : Nat)))) then bif decide (IntKind.wrap IntKind.u8 (Int.fdiv (Int.fdiv a0 ((2 : Int) ^ min (Int.toNat (32 : Int)) (64 : Nat))) ((2 : Int) ^ min (Int.toNat (8 : Int)) (64 : Nat))) < (256 : Int)) then some [Q.one (D.int IntKind.i64 (IntKind.wrap IntKind.i64 (IntKind.wrap IntKind.i64 ((32 : Int) + (8 : Int)) + IntKind.wrap IntKind.i64 (byteAt (ByteArray.mk #[(0 : UInt8), (1 : UInt8), (2 : UInt8), (2 : UInt8), (3 : UInt8), (3 : UInt8), (3 : UInt8), (3 : UInt8), (4 : UInt8), (4 : UInt8), (4 : UInt8), (4 : UInt8), (4 : UInt8), (4 : UInt8), (4 : UInt8), (4 : UInt8), (5 : UInt8), (5 : UInt8), (5 : UInt8), (5 : UInt8), (5 : UInt8), (5 : UInt8), (5 : UInt8), (5 : UInt8), (5 : UInt8), (5 : UInt8), (5 : UInt8), (5 : UInt8), (5 : UInt8), (5 : UInt8), (5 : UInt8), (5 : UInt8), (6 : UInt8), (6 : UInt8), (6 : UInt8), (6 : UInt8), (6 : UInt8), (6 : UInt8), (6 : UInt8), (6 : UInt8), (6 : UInt8), (6 : UInt8), (6 : UInt8), (6 : UInt8), (6 : UInt8), (6 : UInt8), (6 : UInt8), (6 : UInt8), (6 : UInt8), (6 : UInt8), (6 : UInt8), (6 : UInt8), (6 : UInt8), (6 : UInt8), (6 : UInt8), (6 : UInt8), (6 : UInt8), (6 : UInt8), (6 : UInt8), (6 : UInt8), (6 : UInt8), (6 : UInt8), (6 : UInt8), (6 : UInt8), (7 : UInt8), (7 : UInt8), (7 : UInt8), (7 : UInt8), (7 : UInt8), (7 : UInt8), (7 : UInt8), (7 : UInt8), (7 : UInt8), (7 : UInt8), (7 : UInt8), (7 : UInt8), (7 : UInt8), (7 : UInt8), (7 : UInt8), (7 : UInt8), (7 : UInt8), (7 : UInt8), (7 : UInt8), (7 : UInt8), (7 : UInt8), (7 : UInt8), (7 : UInt8), (7 : UInt8), (7 : UInt8), (7 : UInt8), (7 : UInt8), (7 : UInt8), (7 : UInt8), (7 : UInt8), (7 : UInt8), (7 : UInt8), (7 : UInt8), (7 : UInt8), (7 : UInt8), (7 : UInt8), (7 : UInt8), (7 : UInt8), (7 : UInt8), (7 : UInt8), (7 : UInt8), (7 : UInt8), (7 : UInt8), (7 : UInt8), (7 : UInt8), (7 : UInt8), (7 : UInt8), (7 : UInt8), (7 : UInt8), (7 : UInt8), (7 : UInt8), (7 : UInt8), (7 : UInt8), (7 : UInt8), (7 : UInt8), (7 : UInt8), (7 : UInt8), (7 : UInt8), (7 : UInt8), (7 : UInt8), (7 : UInt8), (7 : UInt8), (7 : UInt8), (7 : UInt8), (8 : UInt8), (8 : UInt8), (8 : UInt8), (8 : UInt8), (8 : UInt8), (8 : UInt8), (8 : UInt8), (8 : UInt8), (8 : UInt8), (8 : UInt8), (8 : UInt8), (8 : UInt8), (8 : UInt8), (8 : UInt8), (8 : UInt8), (8 : UInt8), (8 : UInt8), (8 : UInt8), (8 : UInt8), (8 : UInt8), (8 : UInt8), (8 : UInt8), (8 : UInt8), (8 : UInt8), (8 : UInt8), (8 : UInt8), (8 : UInt8), (8 : UInt8), (8 : UInt8), (8 : UInt8), (8 : UInt8), (8 : UInt8), (8 : UInt8), (8 : UInt8), (8 : UInt8), (8 : UInt8), (8 : UInt8), (8 : UInt8), (8 : UInt8), (8 : UInt8), (8 : UInt8), (8 : UInt8), (8 : UInt8), (8 : UInt8), (8 : UInt8), (8 : UInt8), (8 : UInt8), (8 : UInt8), (8 : UInt8), (8 : UInt8), (8 : UInt8), (8 : UInt8), (8 : UInt8), (8 : UInt8), (8 : UInt8), (8 : UInt8), (8 : UInt8), (8 : UInt8), (8 : UInt8), (8 : UInt8), (8 : UInt8), (8 : UInt8), (8 : UInt8), (8 : UInt8), (8 : UInt8), (8 : UInt8), (8 : UInt8), (8 : UInt8), (8 : UInt8), (8 : UInt8), (8 : UInt8), (8 : UInt8), (8 : UInt8), (8 : UInt8), (8 : UInt8), (8 : UInt8), (8 : UInt8), (8 : UInt8), (8 : UInt8), (8 : UInt8), (8 : UInt8), (8 : UInt8), (8 : UInt8), (8 : UInt8), (8 : UInt8), (8 : UInt8), (8 : UInt8), (8 : UInt8), (8 : UInt8), (8 : UInt8), (8 : UInt8), (8 : UInt8), (8 : UInt8), (8 : UInt8), (8 : UInt8), (8 : UInt8), (8 : UInt8), (8 : UInt8), (8 : UInt8), (8 : UInt8), (8 : UInt8), (8 : UInt8), (8 : UInt8), (8 : UInt8), (8 : UInt8), (8 : UInt8), (8 : UInt8), (8 : UInt8), (8 : UInt8), (8 : UInt8), (8 : UInt8), (8 : UInt8), (8 : UInt8), (8 : UInt8), (8 : UInt8), (8 : UInt8), (8 : UInt8), (8 : UInt8), (8 : UInt8), (8 : UInt8), (8 : UInt8), (8 : UInt8), (8 : UInt8), (8 : UInt8), (8 : UInt8), (8 : UInt8), (8 : UInt8), (8 : UInt8)]) (Int.toNat (IntKind.wrap IntKind.u8 (Int.fdiv (Int.fdiv a0 ((2 : Int) ^ min (Int.toNat (32 : Int)) (64 : Nat))) ((2 : Int) ^ min (Int.toNat (8 : Int)) (64 : Nat)))))))))] else none else none else bif decide ((0 : Int) ≤ IntKind.wrap IntKind.u8 (Int.fdiv a0 ((2 : Int) ^ min (Int.toNat (32 : Int)) (64 : Nat)))) then bif decide (IntKind.wrap IntKind.u8 (Int.fdiv a0 ((2 : Int) ^ min (Int.toNat (32 : Int)) (64 : Nat))) < (256 : Int)) then some [Q.one (D.int IntKind.i64 (IntKind.wrap IntKind.i64 ((32 : Int) + IntKind.wrap IntKind.i64 (byteAt (ByteArray.mk #[(0 : UInt8), (1 : UInt8), (2 : UInt8), (2 : UInt8), (3 : UInt8), (3 : UInt8), (3 : UInt8), (3 : UInt8), (4 : UInt8), (4 : UInt8), (4 : UInt8), (4 : UInt8), (4 : UInt8), (4 : UInt8), (4 : UInt8), (4 : UInt8), (5 : UInt8), (5 : UInt8), (5 : UInt8), (5 : UInt8), (5 : UInt8), (5 : UInt8), (5 : UInt8), (5 : UInt8), (5 : UInt8), (5 : UInt8), (5 : UInt8), (5 : UInt8), (5 : UInt8), (5 : UInt8), (5 : UInt8), (5 : UInt8), (6 : UInt8), (6 : UInt8), (6 : UInt8), (6 : UInt8), (6 : UInt8), (6 : UInt8), (6 : UInt8), (6 : UInt8), (6 : UInt8), (6 : UInt8), (6 : UInt8), (6 : UInt8), (6 : UInt8), (6 : UInt8), (6 : UInt8), (6 : UInt8), (6 : UInt8), (6 : UInt8), (6 : UInt8), (6 : UInt8), (6 : UInt8), (6 : UInt8), (6 : UInt8), (6 : UInt8), (6 : UInt8), (6 : UInt8), (6 : UInt8), (6 : UInt8), (6 : UInt8), (6 : UInt8), (6 : UInt8), (6 : UInt8), (7 : UInt8), (7 : UInt8), (7 : UInt8), (7 : UInt8), (7 : UInt8), (7 : UInt8), (7 : UInt8), (7 : UInt8), (7 : UInt8), (7 : UInt8), (7 : UInt8), (7 : UInt8), (7 : UInt8), (7 : UInt8), (7 : UInt8), (7 : UInt8), (7 : UInt8), (7 : UInt8), (7 : UInt8), (7 : UInt8), (7 : UInt8), (7 : UInt8), (7 : UInt8), (7 : UInt8), (7 : UInt8), (7 : UInt8), (7 : UInt8), (7 : UInt8), (7 : UInt8), (7 : UInt8), (7 : UInt8), (7 : UInt8), (7 : UInt8), (7 : UInt8), (7 : UInt8), (7 : UInt8), (7 : UInt8), (7 : UInt8), (7 : UInt8), (7 : UInt8), (7 : UInt8), (7 : UInt8), (7 : UInt8), (7 : UInt8), (7 : UInt8), (7 : UInt8), (7 : UInt8), (7 : UInt8), (7 : UInt8), (7 : UInt8), (7 : UInt8), (7 : UInt8), (7 : UInt8), (7 : UInt8), (7 : UInt8), (7 : UInt8), (7 : UInt8), (7 : UInt8), (7 : UInt8), (7 : UInt8), (7 : UInt8), (7 : UInt8), (7 : UInt8), (7 : UInt8), (8 : UInt8), (8 : UInt8), (8 : UInt8), (8 : UInt8), (8 : UInt8), (8 : UInt8), (8 : UInt8), (8 : UInt8), (8 : UInt8), (8 : UInt8), (8 : UInt8), (8 : UInt8), (8 : UInt8), (8 : UInt8), (8 : UInt8), (8 : UInt8), (8 : UInt8), (8 : UInt8), (8 : UInt8), (8 : UInt8), (8 : UInt8), (8 : UInt8), (8 : UInt8), (8 : UInt8), (8 : UInt8), (8 : UInt8), (8 : UInt8), (8 : UInt8), (8 : UInt8), (8 : UInt8), (8 : UInt8), (8 : UInt8), (8 : UInt8), (8 : UInt8), (8 : UInt8), (8 : UInt8), (8 : UInt8), (8 : UInt8), (8 : UInt8), (8 : UInt8), (8 : UInt8), (8 : UInt8), (8 : UInt8), (8 : UInt8), (8 : UInt8), (8 : UInt8), (8 : UInt8), (8 : UInt8), (8 : UInt8), (8 : UInt8), (8 : UInt8), (8 : UInt8), (8 : UInt8), (8 : UInt8), (8 : UInt8), (8 : UInt8), (8 : UInt8), (8 : UInt8), (8 : UInt8), (8 : UInt8), (8 : UInt8), (8 : UInt8), (8 : UInt8), (8 : UInt8), (8 : UInt8), (8 : UInt8), (8 : UInt8), (8 : UInt8), (8 : UInt8), (8 : UInt8), (8 : UInt8), (8 : UInt8), (8 : UInt8), (8 : UInt8), (8 : UInt8), (8 : UInt8), (8 : UInt8), (8 : UInt8), (8 : UInt8), (8 : UInt8), (8 : UInt8), (8 : UInt8), (8 : UInt8), (8 : UInt8), (8 : UInt8), (8 : UInt8), (8 : UInt8), (8 : UInt8), (8 : UInt8), (8 : UInt8), (8 : UInt8), (8 : UInt8), (8 : UInt8), (8 : UInt8), (8 : UInt8), (8 : UInt8), (8 : UInt8), (8 : UInt8), (8 : UInt8), (8 : UInt8), (8 : UInt8), (8 : UInt8), (8 : UInt8), (8 : UInt8), (8 : UInt8), (8 : UInt8), (8 : UInt8), (8 : UInt8), (8 : UInt8), (8 : UInt8), (8 : UInt8), (8 : UInt8), (8 : UInt8), (8 : UInt8), (8 : UInt8), (8 : UInt8), (8 : UInt8), (8 : UInt8), (8 : UInt8), (8 : UInt8), (8 : UInt8), (8 : UInt8), (8 : UInt8), (8 : UInt8), (8 : UInt8), (8 : UInt8), (8 : UInt8), (8 : UInt8)]) (Int.toNat (IntKind.wrap IntKind.u8 (Int.fdiv a0 ((2 : Int) ^ min (Int.toNat (32 : Int)) (64 : Nat)))))))))] else none else none else bif decide (a0 ≥ (65536 : Int)) then bif decide (Int.fdiv a0 ((2 : Int) ^ min (Int.toNat (16 : Int)) (64 : Nat)) ≥ (256 : Int)) then bif decide ((0 : Int) ≤ IntKind.wrap IntKind.u8 (Int.fdiv (Int.fdiv a0 ((2 : Int) ^ min (Int.toNat (16 : Int)) (64 : Nat))) ((2 : Int) ^ min (Int.toNat (8 : Int)) (64 : Nat)))) then bif decide (IntKind.wrap IntKind.u8 (Int.fdiv (Int.fdiv a0 ((2 : Int) ^ min (Int.toNat (16 : Int)) (64 : Nat))) ((2 : Int) ^ min (Int.toNat (8 : Int)) (64 : Nat))) < (256 : Int)) then some [Q.one (D.int IntKind.i64 (IntKind.wrap IntKind.i64 (IntKind.wrap IntKind.i64 (IntKind.wrap IntKind.i64 ((0 : Int) + (16 : Int)) + (8 : Int)) + IntKind.wrap IntKind.i64 (byteAt (ByteArray.mk #[(0 : UInt8), (1 : UInt8), (2 : UInt8), (2 : UInt8), (3 : UInt8), (3 : UInt8), (3 : UInt8), (3 : UInt8), (4 : UInt8), (4 : UInt8), (4 : UInt8), (4 : UInt8), (4 : UInt8), (4 : UInt8), (4 : UInt8), (4 : UInt8), (5 : UInt8), (5 : UInt8), (5 : UInt8), (5 : UInt8), (5 : UInt8), (5 : UInt8), (5 : UInt8), (5 : UInt8), (5 : UInt8), (5 : UInt8), (5 : UInt8), (5 : UInt8), (5 : UInt8), (5 : UInt8), (5 : UInt8), (5 : UInt8), (6 : UInt8), (6 : UInt8), (6 : UInt8), (6 : UInt8), (6 : UInt8), (6 : UInt8), (6 : UInt8), (6 : UInt8), (6 : UInt8), (6 : UInt8), (6 : UInt8), (6 : UInt8), (6 : UInt8), (6 : UInt8), (6 : UInt8), (6 : UInt8), (6 : UInt8), (6 : UInt8), (6 : UInt8), (6 : UInt8), (6 : UInt8), (6 : UInt8), (6 : UInt8), (6 : UInt8), (6 : UInt8), (6 : UInt8), (6 : UInt8), (6 : UInt8), (6 : UInt8), (6 : UInt8), (6 : UInt8), (6 : UInt8), (7 : UInt8), (7 : UInt8), (7 : UInt8), (7 : UInt8), (7 : UInt8), (7 : UInt8), (7 : UInt8), (7 : UInt8), (7 : UInt8), (7 : UInt8), (7 : UInt8), (7 : UInt8), (7 : UInt8), (7 : UInt8), (7 : UInt8), (7 : UInt8), (7 : UInt8), (7 : UInt8), (7 : UInt8), (7 : UInt8), (7 : UInt8), (7 : UInt8), (7 : UInt8), (7 : UInt8), (7 : UInt8), (7 : UInt8), (7 : UInt8), (7 : UInt8), (7 : UInt8), (7 : UInt8), (7 : UInt8), (7 : UInt8), (7 : UInt8), (7 : UInt8), (7 : UInt8), (7 : UInt8), (7 : UInt8), (7 : UInt8), (7 : UInt8), (7 : UInt8), (7 : UInt8), (7 : UInt8), (7 : UInt8), (7 : UInt8), (7 : UInt8), (7 : UInt8), (7 : UInt8), (7 : UInt8), (7 : UInt8), (7 : UInt8), (7 : UInt8), (7 : UInt8), (7 : UInt8), (7 : UInt8), (7 : UInt8), (7 : UInt8), (7 : UInt8), (7 : UInt8), (7 : UInt8), (7 : UInt8), (7 : UInt8), (7 : UInt8), (7 : UInt8), (7 : UInt8), (8 : UInt8), (8 : UInt8), (8 : UInt8), (8 : UInt8), (8 : UInt8), (8 : UInt8), (8 : UInt8), (8 : UInt8), (8 : UInt8), (8 : UInt8), (8 : UInt8), (8 : UInt8), (8 : UInt8), (8 : UInt8), (8 : UInt8), (8 : UInt8), (8 : UInt8), (8 : UInt8), (8 : UInt8), (8 : UInt8), (8 : UInt8), (8 : UInt8), (8 : UInt8), (8 : UInt8), (8 : UInt8), (8 : UInt8), (8 : UInt8), (8 : UInt8), (8 : UInt8), (8 : UInt8), (8 : UInt8), (8 : UInt8), (8 : UInt8), (8 : UInt8), (8 : UInt8), (8 : UInt8), (8 : UInt8), (8 : UInt8), (8 : UInt8), (8 : UInt8), (8 : UInt8), (8 : UInt8), (8 : UInt8), (8 : UInt8), (8 : UInt8), (8 : UInt8), (8 : UInt8), (8 : UInt8), (8 : UInt8), (8 : UInt8), (8 : UInt8), (8 : UInt8), (8 : UInt8), (8 : UInt8), (8 : UInt8), (8 : UInt8), (8 : UInt8), (8 : UInt8), (8 : UInt8), (8 : UInt8), (8 : UInt8), (8 : UInt8), (8 : UInt8), (8 : UInt8), (8 : UInt8), (8 : UInt8), (8 : UInt8), (8 : UInt8), (8 : UInt8), (8 : UInt8), (8 : UInt8), (8 : UInt8), (8 : UInt8), (8 : UInt8), (8 : UInt8), (8 : UInt8), (8 : UInt8), (8 : UInt8), (8 : UInt8), (8 : UInt8), (8 : UInt8), (8 : UInt8), (8 : UInt8), (8 : UInt8), (8 : UInt8), (8 : UInt8), (8 : UInt8), (8 : UInt8), (8 : UInt8), (8 : UInt8), (8 : UInt8), (8 : UInt8), (8 : UInt8), (8 : UInt8), (8 : UInt8), (8 : UInt8), (8 : UInt8), (8 : UInt8), (8 : UInt8), (8 : UInt8), (8 : UInt8), (8 : UInt8), (8 : UInt8), (8 : UInt8), (8 : UInt8), (8 : UInt8), (8 : UInt8), (8 : UInt8), (8 : UInt8), (8 : UInt8), (8 : UInt8), (8 : UInt8), (8 : UInt8), (8 : UInt8), (8 : UInt8), (8 : UInt8), (8 : UInt8), (8 : UInt8), (8 : UInt8), (8 : UInt8), (8 : UInt8), (8 : UInt8), (8 : UInt8), (8 : UInt8), (8 : UInt8), (8 : UInt8), (8 : UInt8), (8 : UInt8)]) (Int.toNat (IntKind.wrap IntKind.u8 (Int.fdiv (Int.fdiv a0 ((2 : Int) ^ min (Int.toNat (16 : Int)) (64 : Nat))) ((2 : Int) ^ min (Int.toNat (8 : Int)) (64 : Nat)))))))))] else none else none else bif decide ((0 : Int) ≤ IntKind.wrap IntKind.u8 (Int.fdiv a0 ((2 : Int) ^ min (Int.toNat (16 : Int)) (64 : Nat)))) then bif decide (IntKind.wrap IntKind.u8 (Int.fdiv a0 ((2 : Int) ^ min (Int.toNat (16 : Int)) (64 : Nat))) < (256 : Int)) then some [Q.one (D.int IntKind.i64 (IntKind.wrap IntKind.i64 (IntKind.wrap IntKind.i64 ((0 : Int) + (16 : Int)) + IntKind.wrap IntKind.i64 (byteAt (ByteArray.mk #[(0 : UInt8), (1 : UInt8), (2 : UInt8), (2 : UInt8), (3 : UInt8), (3 : UInt8), (3 : UInt8), (3 : UInt8), (4 : UInt8), (4 : UInt8), (4 : UInt8), (4 : UInt8), (4 : UInt8), (4 : UInt8), (4 : UInt8), (4 : UInt8), (5 : UInt8), (5 : UInt8), (5 : UInt8), (5 : UInt8), (5 : UInt8), (5 : UInt8), (5 : UInt8), (5 : UInt8), (5 : UInt8), (5 : UInt8), (5 : UInt8), (5 : UInt8), (5 : UInt8), (5 : UInt8), (5 : UInt8), (5 : UInt8), (6 : UInt8), (6 : UInt8), (6 : UInt8), (6 : UInt8), (6 : UInt8), (6 : UInt8), (6 : UInt8), (6 : UInt8), (6 : UInt8), (6 : UInt8), (6 : UInt8), (6 : UInt8), (6 : UInt8), (6 : UInt8), (6 : UInt8), (6 : UInt8), (6 : UInt8), (6 : UInt8), (6 : UInt8), (6 : UInt8), (6 : UInt8), (6 : UInt8), (6 : UInt8), (6 : UInt8), (6 : UInt8), (6 : UInt8), (6 : UInt8), (6 : UInt8), (6 : UInt8), (6 : UInt8), (6 : UInt8), (6 : UInt8), (7 : UInt8), (7 : UInt8), (7 : UInt8), (7 : UInt8), (7 : UInt8), (7 : UInt8), (7 : UInt8), (7 : UInt8), (7 : UInt8), (7 : UInt8), (7 : UInt8), (7 : UInt8), (7 : UInt8), (7 : UInt8), (7 : UInt8), (7 : UInt8), (7 : UInt8), (7 : UInt8), (7 : UInt8), (7 : UInt8), (7 : UInt8), (7 : UInt8), (7 : UInt8), (7 : UInt8), (7 : UInt8), (7 : UInt8), (7 : UInt8), (7 : UInt8), (7 : UInt8), (7 : UInt8), (7 : UInt8), (7 : UInt8), (7 : UInt8), (7 : UInt8), (7 : UInt8), (7 : UInt8), (7 : UInt8), (7 : UInt8), (7 : UInt8), (7 : UInt8), (7 : UInt8), (7 : UInt8), (7 : UInt8), (7 : UInt8), (7 : UInt8), (7 : UInt8), (7 : UInt8), (7 : UInt8), (7 : UInt8), (7 : UInt8), (7 : UInt8), (7 : UInt8), (7 : UInt8), (7 : UInt8), (7 : UInt8), (7 : UInt8), (7 : UInt8), (7 : UInt8), (7 : UInt8), (7 : UInt8), (7 : UInt8), (7 : UInt8), (7 : UInt8), (7 : UInt8), (8 : UInt8), (8 : UInt8), (8 : UInt8), (8 : UInt8), (8 : UInt8), (8 : UInt8), (8 : UInt8), (8 : UInt8), (8 : UInt8), (8 : UInt8), (8 : UInt8), (8 : UInt8), (8 : UInt8), (8 : UInt8), (8 : UInt8), (8 : UInt8), (8 : UInt8), (8 : UInt8), (8 : UInt8), (8 : UInt8), (8 : UInt8), (8 : UInt8), (8 : UInt8), (8 : UInt8), (8 : UInt8), (8 : UInt8), (8 : UInt8), (8 : UInt8), (8 : UInt8), (8 : UInt8), (8 : UInt8), (8 : UInt8), (8 : UInt8), (8 : UInt8), (8 : UInt8), (8 : UInt8), (8 : UInt8), (8 : UInt8), (8 : UInt8), (8 : UInt8), (8 : UInt8), (8 : UInt8), (8 : UInt8), (8 : UInt8), (8 : UInt8), (8 : UInt8), (8 : UInt8), (8 : UInt8), (8 : UInt8), (8 : UInt8), (8 : UInt8), (8 : UInt8), (8 : UInt8), (8 : UInt8), (8 : UInt8), (8 : UInt8), (8 : UInt8), (8 : UInt8), (8 : UInt8), (8 : UInt8), (8 : UInt8), (8 : UInt8), (8 : UInt8), (8 : UInt8), (8 : UInt8), (8 : UInt8), (8 : UInt8), (8 : UInt8), (8 : UInt8), (8 : UInt8), (8 : UInt8), (8 : UInt8), (8 : UInt8), (8 : UInt8), (8 : UInt8), (8 : UInt8), (8 : UInt8), (8 : UInt8), (8 : UInt8), (8 : UInt8), (8 : UInt8), (8 : UInt8), (8 : UInt8), (8 : UInt8), (8 : UInt8), (8 : UInt8), (8 : UInt8), (8 : UInt8), (8 : UInt8), (8 : UInt8), (8 : UInt8), (8 : UInt8), (8 : UInt8), (8 : UInt8), (8 : UInt8), (8 : UInt8), (8 : UInt8), (8 : UInt8), (8 : UInt8), (8 : UInt8), (8 : UInt8), (8 : UInt8), (8 : UInt8), (8 : UInt8), (8 : UInt8), (8 : UInt8), (8 : UInt8), (8 : UInt8), (8 : UInt8), (8 : UInt8), (8 : UInt8), (8 : UInt8), (8 : UInt8), (8 : UInt8), (8 : UInt8), (8 : UInt8), (8 : UInt8), (8 : UInt8), (8 : UInt8), (8 : UInt8), (8 : UInt8), (8 : UInt8), (8 : UInt8), (8 : UInt8), (8 : UInt8), (8 : UInt8), (8 : UInt8), (8 : UInt8)]) (Int.toNat (IntKind.wrap IntKind.u8 (Int.fdiv a0 ((2 : Int) ^ min (Int.toNat (16 : Int)) (64 : Nat)))))))))] else none else none else bif decide (a0 ≥ (256 : Int)) then bif decide ((0 : Int) ≤ IntKind.wrap IntKind.u8 (Int.fdiv a0 ((2 : Int) ^ min (Int.toNat (8 : Int)) (64 : Nat)))) then bif decide (IntKind.wrap IntKind.u8 (Int.fdiv a0 ((2 : Int) ^ min (Int.toNat (8 : Int)) (64 : Nat))) < (256 : Int)) then some [Q.one (D.int IntKind.i64 (IntKind.wrap IntKind.i64 (IntKind.wrap IntKind.i64 ((0 : Int) + (8 : Int)) + IntKind.wrap IntKind.i64 (byteAt (ByteArray.mk #[(0 : UInt8), (1 : UInt8), (2 : UInt8), (2 : UInt8), (3 : UInt8), (3 : UInt8), (3 : UInt8), (3 : UInt8), (4 : UInt8), (4 : UInt8), (4 : UInt8), (4 : UInt8), (4 : UInt8), (4 : UInt8), (4 : UInt8), (4 : UInt8), (5 : UInt8), (5 : UInt8), (5 : UInt8), (5 : UInt8), (5 : UInt8), (5 : UInt8), (5 : UInt8), (5 : UInt8), (5 : UInt8), (5 : UInt8), (5 : UInt8), (5 : UInt8), (5 : UInt8), (5 : UInt8), (5 : UInt8), (5 : UInt8), (6 : UInt8), (6 : UInt8), (6 : UInt8), (6 : UInt8), (6 : UInt8), (6 : UInt8), (6 : UInt8), (6 : UInt8), (6 : UInt8), (6 : UInt8), (6 : UInt8), (6 : UInt8), (6 : UInt8), (6 : UInt8), (6 : UInt8), (6 : UInt8), (6 : UInt8), (6 : UInt8), (6 : UInt8), (6 : UInt8), (6 : UInt8), (6 : UInt8), (6 : UInt8), (6 : UInt8), (6 : UInt8), (6 : UInt8), (6 : UInt8), (6 : UInt8), (6 : UInt8), (6 : UInt8), (6 : UInt8), (6 : UInt8), (7 : UInt8), (7 : UInt8), (7 : UInt8), (7 : UInt8), (7 : UInt8), (7 : UInt8), (7 : UInt8), (7 : UInt8), (7 : UInt8), (7 : UInt8), (7 : UInt8), (7 : UInt8), (7 : UInt8), (7 : UInt8), (7 : UInt8), (7 : UInt8), (7 : UInt8), (7 : UInt8), (7 : UInt8), (7 : UInt8), (7 : UInt8), (7 : UInt8), (7 : UInt8), (7 : UInt8), (7 : UInt8), (7 : UInt8), (7 : UInt8), (7 : UInt8), (7 : UInt8), (7 : UInt8), (7 : UInt8), (7 : UInt8), (7 : UInt8), (7 : UInt8), (7 : UInt8), (7 : UInt8), (7 : UInt8), (7 : UInt8), (7 : UInt8), (7 : UInt8), (7 : UInt8), (7 : UInt8), (7 : UInt8), (7 : UInt8), (7 : UInt8), (7 : UInt8), (7 : UInt8), (7 : UInt8), (7 : UInt8), (7 : UInt8), (7 : UInt8), (7 : UInt8), (7 : UInt8), (7 : UInt8), (7 : UInt8), (7 : UInt8), (7 : UInt8), (7 : UInt8), (7 : UInt8), (7 : UInt8), (7 : UInt8), (7 : UInt8), (7 : UInt8), (7 : UInt8), (8 : UInt8), (8 : UInt8), (8 : UInt8), (8 : UInt8), (8 : UInt8), (8 : UInt8), (8 : UInt8), (8 : UInt8), (8 : UInt8), (8 : UInt8), (8 : UInt8), (8 : UInt8), (8 : UInt8), (8 : UInt8), (8 : UInt8), (8 : UInt8), (8 : UInt8), (8 : UInt8), (8 : UInt8), (8 : UInt8), (8 : UInt8), (8 : UInt8), (8 : UInt8), (8 : UInt8), (8 : UInt8), (8 : UInt8), (8 : UInt8), (8 : UInt8), (8 : UInt8), (8 : UInt8), (8 : UInt8), (8 : UInt8), (8 : UInt8), (8 : UInt8), (8 : UInt8), (8 : UInt8), (8 : UInt8), (8 : UInt8), (8 : UInt8), (8 : UInt8), (8 : UInt8), (8 : UInt8), (8 : UInt8), (8 : UInt8), (8 : UInt8), (8 : UInt8), (8 : UInt8), (8 : UInt8), (8 : UInt8), (8 : UInt8), (8 : UInt8), (8 : UInt8), (8 : UInt8), (8 : UInt8), (8 : UInt8), (8 : UInt8), (8 : UInt8), (8 : UInt8), (8 : UInt8), (8 : UInt8), (8 : UInt8), (8 : UInt8), (8 : UInt8), (8 : UInt8), (8 : UInt8), (8 : UInt8), (8 : UInt8), (8 : UInt8), (8 : UInt8), (8 : UInt8), (8 : UInt8), (8 : UInt8), (8 : UInt8), (8 : UInt8), (8 : UInt8), (8 : UInt8), (8 : UInt8), (8 : UInt8), (8 : UInt8), (8 : UInt8), (8 : UInt8), (8 : UInt8), (8 : UInt8), (8 : UInt8), (8 : UInt8), (8 : UInt8), (8 : UInt8), (8 : UInt8), (8 : UInt8), (8 : UInt8), (8 : UInt8), (8 : UInt8), (8 : UInt8), (8 : UInt8), (8 : UInt8), (8 : UInt8), (8 : UInt8), (8 : UInt8), (8 : UInt8), (8 : UInt8), (8 : UInt8), (8 : UInt8), (8 : UInt8), (8 : UInt8), (8 : UInt8), (8 : UInt8), (8 : UInt8), (8 : UInt8), (8 : UInt8), (8 : UInt8), (8 : UInt8), (8 : UInt8), (8 : UInt8), (8 : UInt8), (8 : UInt8), (8 : UInt8), (8 : UInt8), (8 : UInt8), (8 : UInt8), (8 : UInt8), (8 : UInt8), (8 : UInt8), (8 : UInt8), (8 : UInt8), (8 : UInt8), (8 : UInt8), (8 : UInt8), (8 : UInt8)]) (Int.toNat (IntKind.wrap IntKind.u8 (Int.fdiv a0 ((2 : Int) ^ min (Int.toNat (8 : Int)) (64 : Nat)))))))))] else none else none else bif decide ((0 : Int) ≤ IntKind.wrap IntKind.u8 a0) then bif decide (IntKind.wrap IntKind.u8 a0 < (256 : Int)) then some [Q.one (D.int IntKind.i64 (IntKind.wrap IntKind.i64 ((0 : Int) + IntKind.wrap IntKind.i64 (byteAt (ByteArray.mk #[(0 : UInt8), (1 : UInt8), (2 : UInt8), (2 : UInt8), (3 : UInt8), (3 : UInt8), (3 : UInt8), (3 : UInt8), (4 : UInt8), (4 : UInt8), (4 : UInt8), (4 : UInt8), (4 : UInt8), (4 : UInt8), (4 : UInt8), (4 : UInt8), (5 : UInt8), (5 : UInt8), (5 : UInt8), (5 : UInt8), (5 : UInt8), (5 : UInt8), (5 : UInt8), (5 : UInt8), (5 : UInt8), (5 : UInt8), (5 : UInt8), (5 : UInt8), (5 : UInt8), (5 : UInt8), (5 : UInt8), (5 : UInt8), (6 : UInt8), (6 : UInt8), (6 : UInt8), (6 : UInt8), (6 : UInt8), (6 : UInt8), (6 : UInt8), (6 : UInt8), (6 : UInt8), (6 : UInt8), (6 : UInt8), (6 : UInt8), (6 : UInt8), (6 : UInt8), (6 : UInt8), (6 : UInt8), (6 : UInt8), (6 : UInt8), (6 : UInt8), (6 : UInt8), (6 : UInt8), (6 : UInt8), (6 : UInt8), (6 : UInt8), (6 : UInt8), (6 : UInt8), (6 : UInt8), (6 : UInt8), (6 : UInt8), (6 : UInt8), (6 : UInt8), (6 : UInt8), (7 : UInt8), (7 : UInt8), (7 : UInt8), (7 : UInt8), (7 : UInt8), (7 : UInt8), (7 : UInt8), (7 : UInt8), (7 : UInt8), (7 : UInt8), (7 : UInt8), (7 : UInt8), (7 : UInt8), (7 : UInt8), (7 : UInt8), (7 : UInt8), (7 : UInt8), (7 : UInt8), (7 : UInt8), (7 : UInt8), (7 : UInt8), (7 : UInt8), (7 : UInt8), (7 : UInt8), (7 : UInt8), (7 : UInt8), (7 : UInt8), (7 : UInt8), (7 : UInt8), (7 : UInt8), (7 : UInt8), (7 : UInt8), (7 : UInt8), (7 : UInt8), (7 : UInt8), (7 : UInt8), (7 : UInt8), (7 : UInt8), (7 : UInt8), (7 : UInt8), (7 : UInt8), (7 : UInt8), (7 : UInt8), (7 : UInt8), (7 : UInt8), (7 : UInt8), (7 : UInt8), (7 : UInt8), (7 : UInt8), (7 : UInt8), (7 : UInt8), (7 : UInt8), (7 : UInt8), (7 : UInt8), (7 : UInt8), (7 : UInt8), (7 : UInt8), (7 : UInt8), (7 : UInt8), (7 : UInt8), (7 : UInt8), (7 : UInt8), (7 : UInt8), (7 : UInt8), (8 : UInt8), (8 : UInt8), (8 : UInt8), (8 : UInt8), (8 : UInt8), (8 : UInt8), (8 : UInt8), (8 : UInt8), (8 : UInt8), (8 : UInt8), (8 : UInt8), (8 : UInt8), (8 : UInt8), (8 : UInt8), (8 : UInt8), (8 : UInt8), (8 : UInt8), (8 : UInt8), (8 : UInt8), (8 : UInt8), (8 : UInt8), (8 : UInt8), (8 : UInt8), (8 : UInt8), (8 : UInt8), (8 : UInt8), (8 : UInt8), (8 : UInt8), (8 : UInt8), (8 : UInt8), (8 : UInt8), (8 : UInt8), (8 : UInt8), (8 : UInt8), (8 : UInt8), (8 : UInt8), (8 : UInt8), (8 : UInt8), (8 : UInt8), (8 : UInt8), (8 : UInt8), (8 : UInt8), (8 : UInt8), (8 : UInt8), (8 : UInt8), (8 : UInt8), (8 : UInt8), (8 : UInt8), (8 : UInt8), (8 : UInt8), (8 : UInt8), (8 : UInt8), (8 : UInt8), (8 : UInt8), (8 : UInt8), (8 : UInt8), (8 : UInt8), (8 : UInt8), (8 : UInt8), (8 : UInt8), (8 : UInt8), (8 : UInt8), (8 : UInt8), (8 : UInt8), (8 : UInt8), (8 : UInt8), (8 : UInt8), (8 : UInt8), (8 : UInt8), (8 : UInt8), (8 : UInt8), (8 : UInt8), (8 : UInt8), (8 : UInt8), (8 : UInt8), (8 : UInt8), (8 : UInt8), (8 : UInt8), (8 : UInt8), (8 : UInt8), (8 : UInt8), (8 : UInt8), (8 : UInt8), (8 : UInt8), (8 : UInt8), (8 : UInt8), (8 : UInt8), (8 : UInt8), (8 : UInt8), (8 : UInt8), (8 : UInt8), (8 : UInt8), (8 : UInt8), (8 : UInt8), (8 : UInt8), (8 : UInt8), (8 : UInt8), (8 : UInt8), (8 : UInt8), (8 : UInt8), (8 : UInt8), (8 : UInt8), (8 : UInt8), (8 : UInt8), (8 : UInt8), (8 : UInt8), (8 : UInt8), (8 : UInt8), (8 : UInt8), (8 : UInt8), (8 : UInt8), (8 : UInt8), (8 : UInt8), (8 : UInt8), (8 : UInt8), (8 : UInt8), (8 : UInt8), (8 : UInt8), (8 : UInt8), (8 : UInt8), (8 : UInt8), (8 : UInt8), (8 : UInt8), (8 : UInt8), (8 : UInt8), (8 : UInt8), (8 : UInt8), (8 : UInt8)]) (Int.toNat (IntKind.wrap IntKind.u8 a0))))))] else none else none
theorem math_bits_Len64.run (n : Nat) (a0 : Int) :
    run1 math_bits_Len64.cfg [RK.one (LK.int IntKind.i64)] n Tryz.f147 [Q.one (D.int IntKind.u64 a0)] = math_bits_Len64.res n a0 := by kernel_rfl
theorem math_bits_Len64.ev {n : Nat} {a0 : Int} {r : List Q} (h : math_bits_Len64.res n a0 = some r) : Snd Tryz.prog C0 147 [.one (.int .u64 a0)] r :=
  snd_ev (C := math_bits_Len64.cfg) cfg0 mix rfl rfl rfl rfl rfl .nil .nil rfl Tryz.func147 (by kernel_rfl) (by kernel_rfl) rfl ((math_bits_Len64.run n a0).trans h)

def math_bits_Len64.stub : Stub
  | [.one (.int .u64 x)] => .gd (decide (0 ≤ x)) (.gd (decide (x ≤ 12)) (.any (Sp.lenO8 x) fun v => .ret [.one (.int .i64 v)]))
  | _ => .fail
theorem math_bits_Len64.ok : StubOk Tryz.prog C0 147 math_bits_Len64.stub := by
  intro args res h
  unfold math_bits_Len64.stub at h
  split at h
  · rename_i x
    obtain ⟨k1, h0⟩ := gd_out h
    obtain ⟨k2, h0⟩ := gd_out h0
    have k1 := of_decide_eq_true k1
    have k2 := of_decide_eq_true k2
    obtain ⟨X, rfl⟩ : ∃ X : Nat, x = (X : Int) := ⟨x.toNat, by omega⟩
    refine math_bits_Len64.ev (n := 0) ?_
    rcases (show X = 0 ∨ X = 1 ∨ X = 2 ∨ X = 3 ∨ X = 4 ∨ X = 5 ∨ X = 6 ∨ X = 7 ∨ X = 8 ∨ X = 9 ∨ X = 10 ∨ X = 11 ∨ X = 12 by omega) with rfl | rfl | rfl | rfl | rfl | rfl | rfl | rfl | rfl | rfl | rfl | rfl | rfl <;> (cases h0; rfl)
  · cases h
/-! math_bits_Len -/
noncomputable def math_bits_Len.cfg : Cfg := { C0 with keep := fun _ => none, nb := 0, M := tabM [(147, math_bits_Len64.stub)], MM := tabB [] }
noncomputable def math_bits_Len.res (n : Nat) (a0 : Int) : Option (List Q) :=
  bif decide ((0 : Int) ≤ a0) then bif decide (a0 ≤ (12 : Int)) then some [Q.one (D.int IntKind.i64 (bif decide (a0 ≤ (0 : Int)) then (0 : Int) else bif decide (a0 ≤ (1 : Int)) then (1 : Int) else bif decide (a0 ≤ (3 : Int)) then (2 : Int) else bif decide (a0 ≤ (7 : Int)) then (3 : Int) else (4 : Int)))] else none else none
theorem math_bits_Len.run (n : Nat) (a0 : Int) :
    run1 math_bits_Len.cfg [RK.one (LK.int IntKind.i64)] n Tryz.f107 [Q.one (D.int IntKind.u64 a0)] = math_bits_Len.res n a0 := by kernel_rfl
theorem math_bits_Len.ev {n : Nat} {a0 : Int} {r : List Q} (h : math_bits_Len.res n a0 = some r) : Snd Tryz.prog C0 107 [.one (.int .u64 a0)] r :=
  snd_ev (C := math_bits_Len.cfg) cfg0 mix rfl rfl rfl rfl rfl (.cons math_bits_Len64.ok .nil) .nil rfl Tryz.func107 (by kernel_rfl) (by kernel_rfl) rfl ((math_bits_Len.run n a0).trans h)

def math_bits_Len.stub : Stub
  | [.one (.int .u64 x)] => .gd (decide (0 ≤ x)) (.gd (decide (x ≤ 12)) (.any (Sp.lenO8 x) fun v => .ret [.one (.int .i64 v)]))
  | _ => .fail
theorem math_bits_Len.ok : StubOk Tryz.prog C0 107 math_bits_Len.stub := by
  intro args res h
  unfold math_bits_Len.stub at h
  split at h
  · rename_i x
    obtain ⟨k1, h0⟩ := gd_out h
    obtain ⟨k2, h0⟩ := gd_out h0
    obtain ⟨v, k3, h0⟩ := any_out h0
    cases h0
    refine math_bits_Len.ev (n := 0) ?_
    unfold math_bits_Len.res
    unfold lenO8 at k3
    cases k3
    rw [k1, k2]
    rfl
  · cases h
/-! slices_Sort_Sint_int -/
noncomputable def slices_Sort_Sint_int.cfg : Cfg := { C0 with keep := fun _ => none, nb := 1, M := tabM [(107, math_bits_Len.stub)], MM := tabB [(179, slices_pdqsortOrdered_int.stub)] }
noncomputable def slices_Sort_Sint_int.res (n : Nat) (es : List (List D)) : Option (List V × List Ob) :=
  bif decide (IntKind.wrap IntKind.u64 (↑(List.length es) : Int) ≤ (12 : Int)) then Option.bind (Cod.decs intC es) fun (l1 : List Int) => bif decide ((↑(List.length es) : Int) = (↑(List.length l1) : Int)) then bif decide (List.length l1 ≤ (12 : Nat)) then bif decide ((0 : Nat) < List.length l1) then some ([], [Ob.row false (1 : Nat) (Cod.encs intC (sortI l1))]) else none else none else none else none
theorem slices_Sort_Sint_int.run (n : Nat) (es : List (List D)) :
    (fun p : List V × List Ob => runB slices_Sort_Sint_int.cfg n Tryz.f150 p.1 p.2) ([V.rw (0 : Nat)], [Ob.row false (1 : Nat) es]) = slices_Sort_Sint_int.res n es := by kernel_rfl
theorem slices_Sort_Sint_int.ev {n : Nat} {es : List (List D)} {r : List V} {o : List Ob} (h : slices_Sort_Sint_int.res n es = some (r, o)) : SndB Tryz.prog C0 150 [.rw 0] [.row false 1 es] r o :=
  sndB_ev (C := slices_Sort_Sint_int.cfg) cfg0 mix rfl rfl rfl rfl rfl (.cons math_bits_Len.ok .nil) (.cons slices_pdqsortOrdered_int.ok .nil) Tryz.func150 (by kernel_rfl) (by kernel_rfl) rfl ((slices_Sort_Sint_int.run n es).trans h)

def slices_Sort_Sint_int.stub : StubB
  | [.rw 0], [.row false 1 es] => .any (intC.decs es) fun l => .gd (decide (l.length ≤ 12)) (.gd (decide (0 < l.length)) (.ret ([], [.row false 1 (intC.encs (Sp.sortI l))])))
  | _, _ => .fail
theorem slices_Sort_Sint_int.ok : StubBOk Tryz.prog C0 150 slices_Sort_Sint_int.stub := by
  intro args objs res objs' h
  unfold slices_Sort_Sint_int.stub at h
  split at h
  · rename_i es
    obtain ⟨l, h1, h0⟩ := any_out h
    obtain ⟨rfl, hl⟩ := Cod.decs_inv h1
    obtain ⟨k3, h0⟩ := gd_out h0
    obtain ⟨k4, h0⟩ := gd_out h0
    cases h0
    have k3' := of_decide_eq_true k3
    refine slices_Sort_Sint_int.ev (n := 0) ?_
    unfold slices_Sort_Sint_int.res
    have w1 : IntKind.wrap .u64 ((l.length : Nat) : Int) = ((l.length : Nat) : Int) := by
      have : ∀ k : Fin 13, IntKind.wrap .u64 ((k.val : Nat) : Int) = ((k.val : Nat) : Int) := by decide +kernel
      exact this ⟨l.length, by omega⟩
    have h2 : ((l.length : Nat) : Int) ≤ 12 := by omega
    simp -implicitDefEqProofs only [w1, h2, h1, k3, k4, Cod.encs_len, Int.natCast_nonneg, decide_true, cond_true, Option.bind_some]
  · cases h
end Go.Proofs.EV.PL
/-! slices.Sorted(slices.Values(..)) at ints: the library's ranges over a function, by the kit's law for the caller (lines of the worked proofs GgSlicesIterAtTheDump and GgPosAtTheDump turned to this seat). -/
namespace Go.Proofs
open Go.RowKit Go.Shelf
attribute [local go_sem] Oper.semAt_some
def Tryz.upto {α : Type} (f : Nat → α) (k : Nat) : List α := (List.range k).map f
theorem Tryz.upto_succ {α : Type} (f : Nat → α) (k : Nat) : Tryz.upto f (k + 1) = Tryz.upto f k ++ [f k] := by simp [Tryz.upto, List.range_succ]
theorem Tryz.upto_length {α : Type} (f : Nat → α) (k : Nat) : (Tryz.upto f k).length = k := by simp [Tryz.upto]
theorem Tryz.upto_all (zs : List Int) : Tryz.upto (fun j => zs[j]?.getD 0) zs.length = zs := by
  apply List.ext_getElem
  · simp [Tryz.upto]
  · intro i h1 h2
    simp [Tryz.upto, h2]
set_option maxRecDepth 100000 in
set_option maxHeartbeats 2000000 in
theorem Tryz.values1_in (F : Fence) (n : Nat) (h7 : F.fn 151) (hro : F.round = none) (hn : 1 ≤ n) (l Bs n₀ b off len cap : Nat) (zs : List Int) (hreach : len * 8 ≤ 140737488351232) (hb : b < n₀) (J Jx : List Int → World → Prop)
    (hY : ∀ pre x W, J pre W → pre.length < len → YieldAt F (n - 1) Tryz.prog l #[.int .i64 x] W fun e W' =>
      (e = .returned (.bool true) ∧ J (pre ++ [x]) W' ∧ Below n₀ W W') ∨ (e = .returned (.bool false) ∧ Jx (pre ++ [x]) W'))
    (W : World) (hBs : W.cell? ⟨Bs, 0, none⟩ = some (.slice (some ⟨b, off, none⟩) len cap)) (hc : ∀ j, j < len → W.cell? ⟨b, off + j, none⟩ = some (.int .i64 (zs[j]?.getD 0))) (h0 : J [] W) :
    CallsIn F n Tryz.prog 151 #[.func (.yield l) #[] #[], .pointer (some ⟨Bs, 0, none⟩)] W fun e W' => (∃ v, e = .returned v) ∧
      ((∃ ys, ys = Tryz.upto (fun j => zs[j]?.getD 0) len ∧ J ys W') ∨ (∃ pre, (∃ k, k ≤ len ∧ pre = Tryz.upto (fun j => zs[j]?.getD 0) k) ∧ Jx pre W')) := by
  refine callsIn_of_wp Tryz.func151 rfl h7 ?_ hro
  simp only [Tryz.ntmps151, List.size_toArray, List.length_cons, List.length_nil, Nat.reduceAdd, Nat.reduceSub, Array.replicate_succ, Array.replicate_zero, List.push_toArray, List.append_toArray, List.nil_append, List.cons_append]
  gi_wp2
  gi_loopw [7] (fun i wr => ∃ k : Nat, k ≤ len ∧ i = .int .i64 k ∧ J (Tryz.upto (fun j => zs[j]?.getD 0) k) wr ∧ Below n₀ W wr)
    (fun i _ => len - (intOf i).toNat)
  case atStart => exact ⟨0, Nat.zero_le _, rfl, h0, Below.refl _ _⟩
  case round =>
    obtain ⟨k, hk, rfl, hJs, hnx⟩ := hrel
    have hcx : k < len → wr.cell? ⟨b, off + k, none⟩ = some (.int .i64 (zs[k]?.getD 0)) := fun h => (hnx.cell (p := ⟨b, off + k, none⟩) hb).trans (hc k h)
    by_cases hlt : k < len
    · obtain ⟨fn, tmps, assign, body, hy, hR⟩ := hY _ (zs[k]?.getD 0) wr hJs (by rw [Tryz.upto_length]; exact hlt)
      have hcx' := hcx hlt
      gi_wp2
      refine hR.mono ?_
      rintro e W3 (⟨rfl, hJ3, hk3⟩ | ⟨rfl, hJx3⟩)
      · gi_wp2
        go_roundw
        case rel => exact ⟨k + 1, by omega, by simp, by rw [Tryz.upto_succ]; exact hJ3, hnx.trans hk3⟩
        case measure => simp [intOf]; omega
      · gi_wp2
        refine bodyPost_ret (results_none rfl _ _ _) rfl ?_
        exact ⟨⟨_, rfl⟩, .inr ⟨_, ⟨k + 1, by omega, (Tryz.upto_succ _ _).symm⟩, hJx3⟩⟩
    · obtain rfl : k = len := by omega
      gi_wp2
      go_end0
      exact ⟨⟨_, rfl⟩, .inl ⟨_, rfl, hJs⟩⟩
theorem Tryz.values_stops (F : Fence) (n : Nat) (h7 : F.fn 151) (hro : F.round = none) (hn : 1 ≤ n) (Bs n₀ b off cap : Nat) (zs : List Int) (hreach : zs.length * 8 ≤ 140737488351232) (hb : b < n₀) (w : World) (hBs : Bs < w.heap.size) (hn₀ : n₀ ≤ w.heap.size)
    (hc : w.cell? ⟨Bs, 0, none⟩ = some (.slice (some ⟨b, off, none⟩) zs.length cap)) (hI : ∀ j, j < zs.length → w.cell? ⟨b, off + j, none⟩ = some (.int .i64 (zs[j]?.getD 0))) :
    SeqStopsK F n Tryz.prog 151 #[.pointer (some ⟨Bs, 0, none⟩)] (fun x : Int => #[Value.int .i64 x]) (Below n₀) (fun ys => ys = zs) (fun _ => True) zs.length w := fun l J Jx W hW _ _ hY h0 => by
  have hc' := (hW.cell (p := ⟨Bs, 0, none⟩) hBs).trans hc
  refine (Tryz.values1_in F n h7 hro hn l Bs n₀ b off zs.length cap zs hreach hb J Jx hY W hc' (fun j hj => (hW.cell (p := ⟨b, off + j, none⟩) (Nat.lt_of_lt_of_le hb hn₀)).trans (hI j hj)) h0).mono ?_
  rintro e W' ⟨he, ⟨ys, rfl, hj⟩ | ⟨pre, ⟨k, hk, rfl⟩, hj⟩⟩
  · exact ⟨he, .inl ⟨_, Tryz.upto_all zs, hj⟩⟩
  · exact ⟨he, .inr ⟨_, trivial, hj⟩⟩
theorem Tryz.infoInt : (Tryz.prog.info? 3).map (fun i => (i.zero, i.size, i.bytes)) = some (some (.int .i64 0), 1, 8) := by kernel_rfl
set_option maxRecDepth 100000 in
set_option maxHeartbeats 2000000 in
theorem Tryz.appendSeq_in (F : Fence) (n : Nat) (hA : F.fn 178) (h7 : F.fn 151) (hro : F.round = none) (hn : 3 ≤ n) (Bs b off cap : Nat) (zs : List Int) (hlen : zs.length ≤ maxLen) (hreach : zs.length * 8 ≤ 140737488351232) (w : World) (hBs : Bs < w.heap.size) (hb : b < w.heap.size)
    (hc : w.cell? ⟨Bs, 0, none⟩ = some (.slice (some ⟨b, off, none⟩) zs.length cap)) (hI : ∀ j, j < zs.length → w.cell? ⟨b, off + j, none⟩ = some (.int .i64 (zs[j]?.getD 0))) :
    CallsIn F n Tryz.prog 178 #[.slice none 0 0, .func (.func 151) #[] #[.pointer (some ⟨Bs, 0, none⟩)]] w fun e W' => ∃ v, e = .returned v ∧ W'.ownsRow w.heap.size 3 1 v zs.length (zs.map (Value.int .i64)) ∧ (v = .slice none 0 0 ↔ zs = []) ∧ Below w.heap.size w W' := by
  have h1 : 1 ≤ n := by omega
  obtain ⟨i0, hi, hz0, hz1, hz2⟩ := info_parts Tryz.infoInt
  refine callsIn_of_wp_marks Tryz.func178 rfl hA ?_ hro
  simp only [Tryz.ntmps178, List.size_toArray, List.length_cons, List.length_nil, Nat.reduceAdd, Nat.reduceSub, Array.replicate_succ, Array.replicate_zero, List.push_toArray, List.append_toArray, List.nil_append, List.cons_append]
  gi_wp2
  have bO := Boxed.new w 42 (.slice none 0 0)
  have hB0 : Below w.heap.size w (w.alloc (.cells #[.slice none 0 0] 42)) := (Below.refl _ w).alloc (Nat.le_refl _) _
  refine wpIn_rangeFunc_ownG hro h1 (gf := 151) (lb := #[.pointer (some ⟨Bs, 0, none⟩)]) rfl h7 (enters_of Tryz.func151 (by kernel_rfl) rfl)
    (Tryz.values_stops F (n - 1) h7 hro (by omega) Bs w.heap.size b off cap zs hreach hb _ (by simp; omega) (by simp) ((hB0.cell (p := ⟨Bs, 0, none⟩) hBs).trans hc) (fun j hj => (hB0.cell (p := ⟨b, off + j, none⟩) hb).trans (hI j hj))) belowK_t (belowK_b (by simp)) (Below.refl _ _) (fun _ => rfl)
    (fun pre W => (∃ v, Boxed W w.heap.size 42 v ∧ W.ownsRow w.heap.size 3 1 v pre.length (pre.map (Value.int .i64)) ∧ (v = .slice none 0 0 ↔ pre = [])) ∧ Below w.heap.size w W)
    (fun _ _ _ => False)
    (OwnFrom.and (Own.from (holdsRow_own w.heap.size w.heap.size 42 3 1 (fun pre => pre.length) (fun pre => pre.map (Value.int .i64)) (fun pre v => v = .slice none 0 0 ↔ pre = [])) _) (ownFrom_below (Nat.le_refl _) (by simp)))
    (fun _ _ _ _ _ hs _ _ => hs)
    ⟨⟨_, bO, World.ownsRow_nil _ _ _ _, by simp⟩, hB0⟩
    (fun x => { tmps := #[.slice none 0 0, .func (.func 151) #[] #[.pointer (some ⟨Bs, 0, none⟩)], .pointer (some ⟨w.heap.size, 0, none⟩), undef, .slice none 0 0, .int .i64 x, .func (.func 151) #[] #[.pointer (some ⟨Bs, 0, none⟩)], .int .i64 x, undef, undef, undef, undef, undef], defers := [] }) ?assign ?body ?done ?stop
  case assign =>
    intro l x W K hK
    gi_wp2
    exact hK
  case body =>
    rintro l pre x W ⟨⟨v, hv, hrow, hnil⟩, hB⟩ hlt
    have hc := hv.cell
    gi_wp2_with (gi_at_builtin; refine wpListIn_append_own _ rfl _ _ 42 rfl w.heap.size 3 i0 (.int .i64 0) 1 8 Tryz.underlying42 hi hz0 hz1 hz2 rfl (by decide) _ _ _ rfl (hrow.alloc _) ⟨W.heap.size, 0, none⟩ 1 1 [.int .i64 x] rfl rfl (cell_one_new _ _ _) (by simp [Value.oneCell']) (by omega) (by omega) (by have := hB.size; simp; omega) ?_; intro v' w1 hown' hgrow _; obtain ⟨g', cap', rfl⟩ := ownsRow_succ hown'; obtain ⟨hv1, hv2, hr2, hk2, hb2⟩ := hv.appended (by decide) hrow hB.size (Nat.le_refl _) hown' hgrow; have hc1 := hv1.cell; have hf1 := hv1.frozen)
    exact ⟨hk2.from _, hb2, ⟨_, hv2, by simpa using hr2, by simp⟩, hB.trans hb2⟩
  case done =>
    rintro D ys W hD rfl ⟨⟨v, hv, hrow, hnil⟩, hB⟩ hK
    have hc := hv.cell
    gi_wp2
    refine ⟨by simp, .inl ⟨_, _, rfl, run_takeDeferred hK, ?_⟩⟩
    exact ⟨_, results_tmp rfl _ _ _, v, rfl, ownsRow_putObj hrow _ hK rfl, hnil, hB.trans (belowK_b (w := w) (Nat.le_refl _) W D _ _ (by simp at hD; omega) hK rfl rfl)⟩
  case stop =>
    rintro D c pre W _ _ h _
    exact h.elim
end Go.Proofs
set_option linter.unusedVariables false
set_option linter.unusedSimpArgs false
set_option maxHeartbeats 4000000
/-! Sorted values of a slice; whether cells fold to a die. -/
namespace Go.Proofs.EV.PL
open Go Go.Proofs Go.Proofs.EV Sp
def slices_AppendSeq_Sint_int.stub : StubB
  | [.nils 0, .fnv 151 [] [.rp 0 0]], [.box [.rw 1], .row false 1 es] => .any (intC.decs es) fun l => .gd (decide (0 < l.length)) (.gd (decide (l.length ≤ 100)) (.ret ([.rw 2], [.box [.rw 1], .row false 1 (intC.encs l), .row false 1 (intC.encs l)])))
  | _, _ => .fail
theorem slices_AppendSeq_Sint_int.ok : StubBOk Tryz.prog C0 178 slices_AppendSeq_Sint_int.stub := by
  intro args objs res objs' h
  unfold slices_AppendSeq_Sint_int.stub at h
  split at h
  · rename_i es
    obtain ⟨l, h1, h0⟩ := any_out h
    obtain ⟨rfl, hl⟩ := Cod.decs_inv h1
    obtain ⟨k1, h0⟩ := gd_out h0
    obtain ⟨k2, h0⟩ := gd_out h0
    cases h0
    have hm : maxLen = 9223372036854775807 := rfl
    exact iter_snd (fun h => h) (T := 3) Tryz.func178 (by kernel_rfl) (by kernel_rfl) (fun Bs b cap zs w hz hBs hb hc hI => callsIn_wide.1 (Tryz.appendSeq_in Fence.wide 3 trivial trivial rfl (by omega) Bs b 0 cap zs (by omega) (by omega) w hBs hb hc hI)) l (of_decide_eq_true k1) (of_decide_eq_true k2)
  · cases h
/-! slices_Values_Sint_int -/
noncomputable def slices_Values_Sint_int.cfg : Cfg := { C0 with keep := fun _ => none, nb := 1, M := tabM [], MM := tabB [] }
noncomputable def slices_Values_Sint_int.res (n : Nat) (es : List (List D)) : Option (List V × List Ob) :=
  some ([V.fnv (151 : Nat) [] [V.rp (1 : Nat) (0 : Nat)]], [Ob.row false (1 : Nat) es, Ob.box [V.rw (0 : Nat)]])
theorem slices_Values_Sint_int.run (n : Nat) (es : List (List D)) :
    (fun p : List V × List Ob => runB slices_Values_Sint_int.cfg n Tryz.f112 p.1 p.2) ([V.rw (0 : Nat)], [Ob.row false (1 : Nat) es]) = slices_Values_Sint_int.res n es := by kernel_rfl
theorem slices_Values_Sint_int.ev {n : Nat} {es : List (List D)} {r : List V} {o : List Ob} (h : slices_Values_Sint_int.res n es = some (r, o)) : SndB Tryz.prog C0 112 [.rw 0] [.row false 1 es] r o :=
  sndB_ev (C := slices_Values_Sint_int.cfg) cfg0 mix rfl rfl rfl rfl rfl .nil .nil Tryz.func112 (by kernel_rfl) (by kernel_rfl) rfl ((slices_Values_Sint_int.run n es).trans h)

def slices_Values_Sint_int.stub : StubB
  | [.rw 0], [.row false 1 es] => .ret ([.fnv 151 [] [.rp 1 0]], [.row false 1 es, .box [.rw 0]])
  | _, _ => .fail
theorem slices_Values_Sint_int.ok : StubBOk Tryz.prog C0 112 slices_Values_Sint_int.stub := by
  intro args objs res objs' h
  unfold slices_Values_Sint_int.stub at h
  split at h
  · cases h
    refine slices_Values_Sint_int.ev (n := 0) ?_
    rfl
  · cases h
/-! slices_Collect_int -/
noncomputable def slices_Collect_int.cfg : Cfg := { C0 with keep := fun _ => none, nb := 2, M := tabM [], MM := tabB [(178, slices_AppendSeq_Sint_int.stub)] }
noncomputable def slices_Collect_int.res (n : Nat) (es : List (List D)) : Option (List V × List Ob) :=
  Option.bind (Cod.decs intC es) fun (l1 : List Int) => bif decide ((0 : Nat) < List.length l1) then bif decide (List.length l1 ≤ (100 : Nat)) then some ([V.rw (2 : Nat)], [Ob.box [V.rw (1 : Nat)], Ob.row false (1 : Nat) (Cod.encs intC l1), Ob.row false (1 : Nat) (Cod.encs intC l1)]) else none else none
theorem slices_Collect_int.run (n : Nat) (es : List (List D)) :
    (fun p : List V × List Ob => runB slices_Collect_int.cfg n Tryz.f149 p.1 p.2) ([V.fnv (151 : FuncId) [] [V.rp (0 : Nat) (0 : Nat)]], [Ob.box [V.rw (1 : Nat)], Ob.row false (1 : Nat) es]) = slices_Collect_int.res n es := by kernel_rfl
theorem slices_Collect_int.ev {n : Nat} {es : List (List D)} {r : List V} {o : List Ob} (h : slices_Collect_int.res n es = some (r, o)) : SndB Tryz.prog C0 149 [.fnv 151 [] [.rp 0 0]] [.box [.rw 1], .row false 1 es] r o :=
  sndB_ev (C := slices_Collect_int.cfg) cfg0 mix rfl rfl rfl rfl rfl .nil (.cons slices_AppendSeq_Sint_int.ok .nil) Tryz.func149 (by kernel_rfl) (by kernel_rfl) rfl ((slices_Collect_int.run n es).trans h)

def slices_Collect_int.stub : StubB
  | [.fnv 151 [] [.rp 0 0]], [.box [.rw 1], .row false 1 es] => .any (intC.decs es) fun l => .gd (decide (0 < l.length)) (.gd (decide (l.length ≤ 100)) (.ret ([.rw 2], [.box [.rw 1], .row false 1 (intC.encs l), .row false 1 (intC.encs l)])))
  | _, _ => .fail
theorem slices_Collect_int.ok : StubBOk Tryz.prog C0 149 slices_Collect_int.stub := by
  intro args objs res objs' h
  unfold slices_Collect_int.stub at h
  split at h
  · rename_i es
    obtain ⟨l, h1, h0⟩ := any_out h
    obtain ⟨rfl, hl⟩ := Cod.decs_inv h1
    obtain ⟨k1, h0⟩ := gd_out h0
    obtain ⟨k2, h0⟩ := gd_out h0
    cases h0
    refine slices_Collect_int.ev (n := 0) ?_
    unfold slices_Collect_int.res
    rw [h1, Option.bind_some, k1, k2]
    rfl
  · cases h
/-! slices_Sorted_int -/
noncomputable def slices_Sorted_int.cfg : Cfg := { C0 with keep := fun _ => none, nb := 2, M := tabM [], MM := tabB [(149, slices_Collect_int.stub), (150, slices_Sort_Sint_int.stub)] }
noncomputable def slices_Sorted_int.res (n : Nat) (es : List (List D)) : Option (List V × List Ob) :=
  Option.bind (Cod.decs intC es) fun (l1 : List Int) => bif decide ((0 : Nat) < List.length l1) then bif decide (List.length l1 ≤ (100 : Nat)) then Option.bind (Cod.decs intC (Cod.encs intC l1)) fun (l2 : List Int) => bif decide (List.length l2 ≤ (12 : Nat)) then bif decide ((0 : Nat) < List.length l2) then some ([V.rw (2 : Nat)], [Ob.box [V.rw (1 : Nat)], Ob.row false (1 : Nat) (Cod.encs intC l1), Ob.row false (1 : Nat) (Cod.encs intC (sortI l2))]) else none else none else none else none
theorem slices_Sorted_int.run (n : Nat) (es : List (List D)) :
    (fun p : List V × List Ob => runB slices_Sorted_int.cfg n Tryz.f111 p.1 p.2) ([V.fnv (151 : FuncId) [] [V.rp (0 : Nat) (0 : Nat)]], [Ob.box [V.rw (1 : Nat)], Ob.row false (1 : Nat) es]) = slices_Sorted_int.res n es := by kernel_rfl
theorem slices_Sorted_int.ev {n : Nat} {es : List (List D)} {r : List V} {o : List Ob} (h : slices_Sorted_int.res n es = some (r, o)) : SndB Tryz.prog C0 111 [.fnv 151 [] [.rp 0 0]] [.box [.rw 1], .row false 1 es] r o :=
  sndB_ev (C := slices_Sorted_int.cfg) cfg0 mix rfl rfl rfl rfl rfl .nil (.cons slices_Collect_int.ok (.cons slices_Sort_Sint_int.ok .nil)) Tryz.func111 (by kernel_rfl) (by kernel_rfl) rfl ((slices_Sorted_int.run n es).trans h)

def slices_Sorted_int.stub : StubB
  | [.fnv 151 [] [.rp 0 0]], [.box [.rw 1], .row false 1 es] => .any (intC.decs es) fun l => .gd (decide (0 < l.length)) (.gd (decide (l.length ≤ 12)) (.ret ([.rw 2], [.box [.rw 1], .row false 1 (intC.encs l), .row false 1 (intC.encs (Sp.sortI l))])))
  | _, _ => .fail
theorem slices_Sorted_int.ok : StubBOk Tryz.prog C0 111 slices_Sorted_int.stub := by
  intro args objs res objs' h
  unfold slices_Sorted_int.stub at h
  split at h
  · rename_i es
    obtain ⟨l, h1, h0⟩ := any_out h
    obtain ⟨rfl, hl⟩ := Cod.decs_inv h1
    obtain ⟨k1, h0⟩ := gd_out h0
    obtain ⟨k2, h0⟩ := gd_out h0
    cases h0
    refine slices_Sorted_int.ev (n := 0) ?_
    unfold slices_Sorted_int.res
    have k3 : decide (l.length ≤ 100) = true := by
      have := of_decide_eq_true k2
      rw [decide_eq_true_eq]; omega
    rw [h1, Option.bind_some, k1, k3]
    simp only [cond_true, h1, Option.bind_some, k1, k2]
  · cases h
/-! impl_piece_folds -/
noncomputable def impl_piece_folds.cfg : Cfg := { C0 with keep := fun _ => none, nb := 0, M := tabM [(68, impl_piece_fold.stub), (109, slices_Contains_Sint_int.stub)], MM := tabB [(111, slices_Sorted_int.stub), (112, slices_Values_Sint_int.stub), (110, slices_Compact_Sint_int.stub)] }
noncomputable def impl_piece_folds.res (n : Nat) (a0 : List (List D)) : Option (List Q) :=
  Option.bind (Cod.decs xyC a0) fun (l1 : List (Int × Int)) => bif decide ((0 : Nat) < List.length l1) then bif decide (List.length l1 ≤ (36 : Nat)) then bif xyIn l1 then Option.bind (Cod.decs intC (Cod.encs intC (Fo.fa (foldO l1)))) fun (l2 : List Int) => bif !hasI l2 (-1 : Int) then Option.bind (Cod.decs intC (Cod.encs intC (Fo.pl (foldO l1)))) fun (l3 : List Int) => bif decide ((0 : Nat) < List.length l3) then bif decide (List.length l3 ≤ (12 : Nat)) then Option.bind (Cod.decs intC (Cod.encs intC (sortI l3))) fun (l4 : List Int) => some [Q.one (D.bool ((↑(List.length (uniqI l4)) : Int) == (6 : Int)))] else none else none else some [Q.one (D.bool false)] else none else none else none
theorem impl_piece_folds.run (n : Nat) (a0 : List (List D)) :
    run1 impl_piece_folds.cfg [RK.one LK.bool] n Tryz.f82 [Q.one (D.sl (2 : Nat) a0)] = impl_piece_folds.res n a0 := by kernel_rfl
theorem impl_piece_folds.ev {n : Nat} {a0 : List (List D)} {r : List Q} (h : impl_piece_folds.res n a0 = some r) : Snd Tryz.prog C0 82 [.one (.sl 2 a0)] r :=
  snd_ev (C := impl_piece_folds.cfg) cfg0 mix rfl rfl rfl rfl rfl (.cons impl_piece_fold.ok (.cons slices_Contains_Sint_int.ok .nil)) (.cons slices_Sorted_int.ok (.cons slices_Values_Sint_int.ok (.cons slices_Compact_Sint_int.ok .nil))) rfl Tryz.func82 (by kernel_rfl) (by kernel_rfl) rfl ((impl_piece_folds.run n a0).trans h)

def impl_piece_folds.stub : Stub
  | [.one (.sl 2 es)] => .any (xyC.decs es) fun P => .gd (decide (P.length = 6)) (.gd (Sp.xyIn P) (.ret [.one (.bool (Sp.foldsP P))]))
  | _ => .fail
theorem impl_piece_folds.ok : StubOk Tryz.prog C0 82 impl_piece_folds.stub := by
  intro args res h
  unfold impl_piece_folds.stub at h
  split at h
  · rename_i es
    obtain ⟨P, h1, h0⟩ := any_out h
    obtain ⟨rfl, hl⟩ := Cod.decs_inv h1
    obtain ⟨k1, h0⟩ := gd_out h0
    obtain ⟨k3, h0⟩ := gd_out h0
    cases h0
    have k1 := of_decide_eq_true k1
    have hok := foldO_ok (P := P) (by omega)
    refine impl_piece_folds.ev (n := 0) ?_
    unfold impl_piece_folds.res
    have q1 : 0 < P.length := by omega
    have q2 : P.length ≤ 36 := by omega
    have hpl := hok.pl
    have hfa : intC.decs (intC.encs (foldO P).fa) = some (foldO P).fa := Cod.decs_encs (by rw [hok.fa]; unfold LIM; omega)
    have hpd : intC.decs (intC.encs (foldO P).pl) = some (foldO P).pl := Cod.decs_encs (by rw [hpl]; unfold LIM; omega)
    have hsd : intC.decs (intC.encs (sortI (foldO P).pl)) = some (sortI (foldO P).pl) := Cod.decs_encs (by rw [sortI_len, hpl]; unfold LIM; omega)
    have hp1 : 0 < (foldO P).pl.length := by omega
    have hp2 : (foldO P).pl.length ≤ 12 := by omega
    simp -implicitDefEqProofs only [h1, q1, q2, k3, hfa, hpd, hsd, hp1, hp2, decide_true, cond_true, Option.bind_some]
    unfold foldsP hangP
    have hu := sort_uniq (foldO P).pl
    rw [hpl, k1] at hu
    have hh : hasI (foldO P).fa (-1) = (foldO P).fa.contains (-1) := rfl
    rw [hh]
    cases (foldO P).fa.contains (-1) with
    | true => rfl
    | false =>
      by_cases hn : (foldO P).pl.Nodup
      · have e := hu.2 hn
        simp [e, hn]
      · have e : ¬ (uniqI (sortI (foldO P).pl)).length = 6 := fun e => hn (hu.1 e)
        simp [hn]
        omega
  · cases h
end Go.Proofs.EV.PL
set_option linter.unusedVariables false
set_option linter.unusedSimpArgs false
set_option maxHeartbeats 4000000
/-! Dots cut off; six cells of a text. -/
namespace Go.Proofs.EV.PL
open Go Go.Proofs Go.Proofs.EV Sp
/-! strings_trimLeftByte -/
noncomputable def strings_trimLeftByte.cfg : Cfg := { C0 with keep := fun | 1 => some [0, 1] | _ => none, nb := 0, M := tabM [], MM := tabB [] }
noncomputable def strings_trimLeftByte.l1 (n : Nat) (m1 : Nat) (s0 : ByteArray) (i1 : Int) : Option (List Q) :=
  loopAt strings_trimLeftByte.cfg [RK.one LK.str] n Tryz.f121 [1, 0, 0] [] m1 (St.mk [V.one true (D.str s0), V.one true (D.int IntKind.u8 i1), V.undef, V.undef, V.undef, V.undef, V.undef, V.undef, V.undef, V.undef, V.undef, V.undef, V.undef, V.undef, V.undef, V.undef, V.undef] [])
theorem strings_trimLeftByte.l1_eq (n : Nat) (m1 : Nat) (s0 : ByteArray) (i1 : Int) :
    strings_trimLeftByte.l1 n (m1 + 1) s0 i1 = bif decide ((↑(ByteArray.size s0) : Int) > (0 : Int)) then bif decide ((0 : Int) < (↑(ByteArray.size s0) : Int)) then bif byteAt s0 (Int.toNat (0 : Int)) == i1 then bif decide ((1 : Int) ≤ (↑(ByteArray.size s0) : Int)) then strings_trimLeftByte.l1 n m1 (ByteArray.extract s0 (Int.toNat (1 : Int)) (ByteArray.size s0)) i1 else none else some [Q.one (D.str s0)] else none else some [Q.one (D.str s0)] := by kernel_rfl
noncomputable def strings_trimLeftByte.res (n : Nat) (a0 : ByteArray) (a1 : Int) : Option (List Q) :=
  strings_trimLeftByte.l1 n n a0 a1
theorem strings_trimLeftByte.run (n : Nat) (a0 : ByteArray) (a1 : Int) :
    run1 strings_trimLeftByte.cfg [RK.one LK.str] n Tryz.f121 [Q.one (D.str a0), Q.one (D.int IntKind.u8 a1)] = strings_trimLeftByte.res n a0 a1 := by kernel_rfl
theorem strings_trimLeftByte.ev {n : Nat} {a0 : ByteArray} {a1 : Int} {r : List Q} (h : strings_trimLeftByte.res n a0 a1 = some r) : Snd Tryz.prog C0 121 [.one (.str a0), .one (.int .u8 a1)] r :=
  snd_ev (C := strings_trimLeftByte.cfg) cfg0 mix rfl rfl rfl rfl rfl .nil .nil rfl Tryz.func121 (by kernel_rfl) (by kernel_rfl) rfl ((strings_trimLeftByte.run n a0 a1).trans h)

theorem strings_trimLeftByte.l1_run {n : Nat} : ∀ (l : List UInt8) (m : Nat) (s : ByteArray), bl s = l → l.length < m → strings_trimLeftByte.l1 n m s 46 = some [Q.one (.str (mkB (cutL l)))]
  | [], m, s, hs, hm => by
    obtain ⟨m, rfl⟩ : ∃ m', m = m' + 1 := ⟨m - 1, by omega⟩
    have h0 : s.size = 0 := by rw [← bl_len, hs]; rfl
    have h1 : ¬ ((s.size : Nat) : Int) > 0 := by omega
    have e : s = mkB (cutL []) := by rw [cutL, ← hs, mkB_bl]
    rw [strings_trimLeftByte.l1_eq]
    simp only [h1, decide_false, cond_false]
    rw [← e]
  | c :: l, m, s, hs, hm => by
    obtain ⟨m, rfl⟩ : ∃ m', m = m' + 1 := ⟨m - 1, by omega⟩
    have h0 : s.size = l.length + 1 := by rw [← bl_len, hs]; rfl
    have h1 : ((s.size : Nat) : Int) > 0 := by omega
    have h2 : (0 : Int) < ((s.size : Nat) : Int) := by omega
    have h3 : (1 : Int) ≤ ((s.size : Nat) : Int) := by omega
    have hb : byteAt s 0 = (c.toNat : Int) := by rw [byteAt_bl (by rw [bl_len]; omega)]; simp only [hs, List.getElem_cons_zero]
    rw [strings_trimLeftByte.l1_eq, cutL]
    have ih := strings_trimLeftByte.l1_run (n := n) l m _ (bl_tail hs) (by rw [List.length_cons] at hm; omega)
    have z0 : Int.toNat 0 = 0 := rfl
    have z1 : Int.toNat 1 = 1 := rfl
    simp only [h1, h2, h3, z0, z1, hb, u8beq c 46 (k := 46) rfl, ih, decide_true, cond_true]
    cases c == 46 with
    | true => rfl
    | false => rw [cond_false, cond_false, ← hs, mkB_bl]
def strings_trimLeftByte.stub : Stub
  | [.one (.str s), .one (.int .u8 c)] => .gd (decide (c = 46)) (.ret [.one (.str (mkB (Sp.cutL (bl s))))])
  | _ => .fail
theorem strings_trimLeftByte.ok : StubOk Tryz.prog C0 121 strings_trimLeftByte.stub := by
  intro args res h
  unfold strings_trimLeftByte.stub at h
  split at h
  · rename_i s c
    obtain ⟨k1, h0⟩ := gd_out h
    cases h0
    have := of_decide_eq_true k1
    subst this
    refine strings_trimLeftByte.ev (n := s.size + 1) ?_
    exact strings_trimLeftByte.l1_run (n := s.size + 1) (bl s) (s.size + 1) s rfl (by rw [bl_len]; omega)
  · cases h
/-! strings_trimRightByte -/
noncomputable def strings_trimRightByte.cfg : Cfg := { C0 with keep := fun | 1 => some [0, 1] | _ => none, nb := 0, M := tabM [], MM := tabB [] }
noncomputable def strings_trimRightByte.l1 (n : Nat) (m1 : Nat) (s0 : ByteArray) (i1 : Int) : Option (List Q) :=
  loopAt strings_trimRightByte.cfg [RK.one LK.str] n Tryz.f122 [1, 0, 0] [] m1 (St.mk [V.one true (D.str s0), V.one true (D.int IntKind.u8 i1), V.undef, V.undef, V.undef, V.undef, V.undef, V.undef, V.undef, V.undef, V.undef, V.undef, V.undef, V.undef, V.undef, V.undef, V.undef, V.undef, V.undef, V.undef, V.undef, V.undef, V.undef] [])
theorem strings_trimRightByte.l1_eq (n : Nat) (m1 : Nat) (s0 : ByteArray) (i1 : Int) :
    strings_trimRightByte.l1 n (m1 + 1) s0 i1 = bif decide ((↑(ByteArray.size s0) : Int) > (0 : Int)) then bif decide ((0 : Int) ≤ IntKind.wrap IntKind.i64 ((↑(ByteArray.size s0) : Int) - (1 : Int))) then bif decide (IntKind.wrap IntKind.i64 ((↑(ByteArray.size s0) : Int) - (1 : Int)) < (↑(ByteArray.size s0) : Int)) then bif byteAt s0 (Int.toNat (IntKind.wrap IntKind.i64 ((↑(ByteArray.size s0) : Int) - (1 : Int)))) == i1 then bif decide ((0 : Int) ≤ IntKind.wrap IntKind.i64 ((↑(ByteArray.size s0) : Int) - (1 : Int))) then bif decide (IntKind.wrap IntKind.i64 ((↑(ByteArray.size s0) : Int) - (1 : Int)) ≤ (↑(ByteArray.size s0) : Int)) then strings_trimRightByte.l1 n m1 (ByteArray.extract s0 (0 : Nat) (Int.toNat (IntKind.wrap IntKind.i64 ((↑(ByteArray.size s0) : Int) - (1 : Int))))) i1 else none else none else some [Q.one (D.str s0)] else none else none else some [Q.one (D.str s0)] := by kernel_rfl
noncomputable def strings_trimRightByte.res (n : Nat) (a0 : ByteArray) (a1 : Int) : Option (List Q) :=
  strings_trimRightByte.l1 n n a0 a1
theorem strings_trimRightByte.run (n : Nat) (a0 : ByteArray) (a1 : Int) :
    run1 strings_trimRightByte.cfg [RK.one LK.str] n Tryz.f122 [Q.one (D.str a0), Q.one (D.int IntKind.u8 a1)] = strings_trimRightByte.res n a0 a1 := by kernel_rfl
theorem strings_trimRightByte.ev {n : Nat} {a0 : ByteArray} {a1 : Int} {r : List Q} (h : strings_trimRightByte.res n a0 a1 = some r) : Snd Tryz.prog C0 122 [.one (.str a0), .one (.int .u8 a1)] r :=
  snd_ev (C := strings_trimRightByte.cfg) cfg0 mix rfl rfl rfl rfl rfl .nil .nil rfl Tryz.func122 (by kernel_rfl) (by kernel_rfl) rfl ((strings_trimRightByte.run n a0 a1).trans h)

theorem strings_trimRightByte.l1_run {n : Nat} : ∀ (l : List UInt8) (m : Nat) (s : ByteArray), bl s = l.reverse → s.size ≤ LIM → l.length < m → strings_trimRightByte.l1 n m s 46 = some [Q.one (.str (mkB (cutL l).reverse))]
  | [], m, s, hs, hL, hm => by
    obtain ⟨m, rfl⟩ : ∃ m', m = m' + 1 := ⟨m - 1, by omega⟩
    have h0 : s.size = 0 := by rw [← bl_len, hs]; rfl
    have h1 : ¬ ((s.size : Nat) : Int) > 0 := by omega
    have e : s = mkB (cutL []).reverse := by rw [cutL, ← hs, mkB_bl]
    rw [strings_trimRightByte.l1_eq]
    simp only [h1, decide_false, cond_false]
    rw [← e]
  | c :: l, m, s, hs, hL, hm => by
    obtain ⟨m, rfl⟩ : ∃ m', m = m' + 1 := ⟨m - 1, by omega⟩
    have h0 : s.size = l.length + 1 := by rw [← bl_len, hs, List.length_reverse, List.length_cons]
    have hs' : bl s = l.reverse ++ [c] := by rw [hs, List.reverse_cons]
    have h1 : ((s.size : Nat) : Int) > 0 := by omega
    have hw : IntKind.wrap .i64 (((s.size : Nat) : Int) - 1) = ((s.size - 1 : Nat) : Int) := by unfold LIM at hL; rw [wrap_in (by omega) (by omega)]; omega
    have h2 : ((s.size - 1 : Nat) : Int) < ((s.size : Nat) : Int) := by omega
    have h3 : ((s.size - 1 : Nat) : Int) ≤ ((s.size : Nat) : Int) := by omega
    have hb : byteAt s (s.size - 1) = (c.toNat : Int) := by
      rw [byteAt_bl (by rw [bl_len]; omega)]
      have : ∀ (k : Nat) (hk : k < (bl s).length), k = l.length → (bl s)[k] = c := by
        intro k hk e
        subst e
        simp [hs']
      rw [this _ _ (by omega)]
    rw [strings_trimRightByte.l1_eq, cutL]
    have hsl : (s.extract 0 (s.size - 1)).size ≤ LIM := by rw [ByteArray.size_extract]; omega
    have ih := strings_trimRightByte.l1_run (n := n) l m _ (bl_init hs') hsl (by rw [List.length_cons] at hm; omega)
    simp only [h1, hw, h2, h3, hb, u8beq c 46 (k := 46) rfl, ih, decide_true, cond_true, Int.natCast_nonneg, Int.toNat_natCast]
    cases c == 46 with
    | true => rfl
    | false => rw [cond_false, cond_false, ← hs, mkB_bl]
def strings_trimRightByte.stub : Stub
  | [.one (.str s), .one (.int .u8 c)] => .gd (decide (c = 46)) (.gd (decide (s.size ≤ LIM)) (.ret [.one (.str (mkB (Sp.cutR (bl s))))]))
  | _ => .fail
theorem strings_trimRightByte.ok : StubOk Tryz.prog C0 122 strings_trimRightByte.stub := by
  intro args res h
  unfold strings_trimRightByte.stub at h
  split at h
  · rename_i s c
    obtain ⟨k1, h0⟩ := gd_out h
    obtain ⟨k2, h0⟩ := gd_out h0
    cases h0
    have := of_decide_eq_true k1
    subst this
    refine strings_trimRightByte.ev (n := s.size + 1) ?_
    exact strings_trimRightByte.l1_run (n := s.size + 1) (bl s).reverse (s.size + 1) s (by rw [List.reverse_reverse]) (of_decide_eq_true k2) (by rw [List.length_reverse, bl_len]; omega)
  · cases h
/-! strings_TrimDot -/
noncomputable def strings_TrimDot.cfg : Cfg := { C0 with keep := fun _ => none, nb := 0, M := tabM [(122, strings_trimRightByte.stub), (121, strings_trimLeftByte.stub)], MM := tabB [] }
noncomputable def strings_TrimDot.res (n : Nat) (a0 : ByteArray) : Option (List Q) :=
  bif strEq a0 (ByteArray.mk #[]) then some [Q.one (D.str a0)] else bif decide (ByteArray.size a0 ≤ (17179869184 : Nat)) then some [Q.one (D.str (mkB (cutL (bl (mkB (cutR (bl a0)))))))] else none
theorem strings_TrimDot.run (n : Nat) (a0 : ByteArray) :
    run1 strings_TrimDot.cfg [RK.one LK.str] n Tryz.f87 [Q.one (D.str a0), Q.one (D.str (ByteArray.mk #[(46 : UInt8)]))] = strings_TrimDot.res n a0 := by kernel_rfl
theorem strings_TrimDot.ev {n : Nat} {a0 : ByteArray} {r : List Q} (h : strings_TrimDot.res n a0 = some r) : Snd Tryz.prog C0 87 [.one (.str a0), .one (.str ⟨#[46]⟩)] r :=
  snd_ev (C := strings_TrimDot.cfg) cfg0 mix rfl rfl rfl rfl rfl (.cons strings_trimRightByte.ok (.cons strings_trimLeftByte.ok .nil)) .nil rfl Tryz.func87 (by kernel_rfl) (by kernel_rfl) rfl ((strings_TrimDot.run n a0).trans h)

def strings_TrimDot.stub : Stub
  | [.one (.str s), .one (.str t)] => .gd (decide (t = ⟨#[46]⟩)) (.gd (decide (s.size ≤ LIM)) (.ret [.one (.str (Sp.trimD1 s))]))
  | _ => .fail
theorem strings_TrimDot.ok : StubOk Tryz.prog C0 87 strings_TrimDot.stub := by
  intro args res h
  unfold strings_TrimDot.stub at h
  split at h
  · rename_i s t
    obtain ⟨k1, h0⟩ := gd_out h
    obtain ⟨k2, h0⟩ := gd_out h0
    cases h0
    have := of_decide_eq_true k1
    subst this
    have k2 : s.size ≤ 17179869184 := of_decide_eq_true k2
    refine strings_TrimDot.ev (n := 0) ?_
    unfold strings_TrimDot.res
    have he : strEq s ⟨#[]⟩ = true → s = ⟨#[]⟩ := fun h => strEq_eq h
    cases hs : strEq s ⟨#[]⟩ with
    | true =>
      have := he hs
      subst this
      rfl
    | false =>
      have h2 : (mkB (cutR (bl s))).size ≤ 17179869184 := by
        rw [mkB_size]
        have h3 := cutR_le (bl s)
        rw [bl_len] at h3
        omega
      simp only [k2, h2, decide_true, cond_true, cond_false, bl_mkB]
      rfl
  · cases h
/-! impl_six -/
noncomputable def impl_six.cfg : Cfg := { C0 with keep := fun | 4 => some [5, 6, 7, 8, 17, 18, 19] | 9 => some [5, 6, 7, 8, 9, 10, 17, 18, 19, 37, 38] | _ => none, nb := 0, M := tabM [(54, strings_Split.stub), (87, strings_TrimDot.stub), (88, impl_isDigit.stub), (89, impl_piece_hangs.stub)], MM := tabB [] }
noncomputable def impl_six.l4 (n : Nat) (m4 : Nat) (i0 : Int) (i1 : Int) (l2 : List (List D)) (l3 : List (List D)) (l4 : List (List D)) (l5 : List (List D × List D)) : Option (List Q) :=
  loopAt impl_six.cfg [RK.own (2 : Nat), RK.own (1 : Nat), RK.one LK.bool] n Tryz.f67 [1, 1, 1, 0, 1, 0] [] m4 (St.mk [V.undef, V.undef, V.undef, V.undef, V.undef, V.rw (0 : Nat), V.rw (1 : Nat), V.rw (2 : Nat), V.rm (3 : Nat), V.undef, V.undef, V.undef, V.undef, V.undef, V.undef, V.undef, V.undef, V.rw (2 : Nat), V.one true (D.int IntKind.i64 i0), V.one true (D.int IntKind.i64 i1), V.undef, V.undef, V.undef, V.undef, V.undef, V.undef, V.undef, V.undef, V.undef, V.undef, V.undef, V.undef, V.undef, V.undef, V.undef, V.undef, V.undef, V.undef, V.undef, V.undef, V.undef, V.undef, V.undef, V.undef, V.undef, V.undef, V.undef, V.undef, V.undef, V.undef, V.undef, V.undef, V.undef, V.undef, V.undef, V.undef, V.undef, V.undef, V.undef, V.undef, V.undef, V.undef, V.undef, V.undef, V.undef, V.undef, V.undef, V.undef, V.undef, V.undef, V.undef, V.undef, V.undef, V.undef, V.undef, V.undef, V.undef, V.undef, V.undef, V.undef, V.undef, V.undef, V.undef, V.undef, V.undef, V.undef, V.undef, V.undef, V.undef, V.undef, V.undef, V.undef] [Ob.row false (2 : Nat) l2, Ob.row false (1 : Nat) l3, Ob.row false (1 : Nat) l4, Ob.mp l5])
noncomputable def impl_six.l9 (n : Nat) (m4 : Nat) (m9 : Nat) (i0 : Int) (s1 : ByteArray) (i2 : Int) (i3 : Int) (i4 : Int) (i5 : Int) (l6 : List (List D)) (l7 : List (List D)) (l8 : List (List D)) (l9 : List (List D × List D)) : Option (List Q) :=
  loopAt impl_six.cfg [RK.own (2 : Nat), RK.own (1 : Nat), RK.one LK.bool] n Tryz.f67 [1, 1, 1, 0, 1, 0, 0, 1, 1, 0, 0, 1, 1, 1, 0] [m4] m9 (St.mk [V.undef, V.undef, V.undef, V.undef, V.undef, V.rw (0 : Nat), V.rw (1 : Nat), V.rw (2 : Nat), V.rm (3 : Nat), V.one true (D.int IntKind.i64 i0), V.one true (D.str s1), V.undef, V.undef, V.undef, V.undef, V.undef, V.undef, V.rw (2 : Nat), V.one true (D.int IntKind.i64 i2), V.one true (D.int IntKind.i64 i3), V.undef, V.undef, V.undef, V.undef, V.undef, V.undef, V.undef, V.undef, V.undef, V.undef, V.undef, V.undef, V.undef, V.undef, V.undef, V.undef, V.undef, V.one true (D.int IntKind.i64 i4), V.one true (D.int IntKind.i64 i5), V.undef, V.undef, V.undef, V.undef, V.undef, V.undef, V.undef, V.undef, V.undef, V.undef, V.undef, V.undef, V.undef, V.undef, V.undef, V.undef, V.undef, V.undef, V.undef, V.undef, V.undef, V.undef, V.undef, V.undef, V.undef, V.undef, V.undef, V.undef, V.undef, V.undef, V.undef, V.undef, V.undef, V.undef, V.undef, V.undef, V.undef, V.undef, V.undef, V.undef, V.undef, V.undef, V.undef, V.undef, V.undef, V.undef, V.undef, V.undef, V.undef, V.undef, V.undef, V.undef, V.undef] [Ob.row false (2 : Nat) l6, Ob.row false (1 : Nat) l7, Ob.row false (1 : Nat) l8, Ob.mp l9])
theorem impl_six.l4_eq (n : Nat) (m4 : Nat) (i0 : Int) (i1 : Int) (l2 : List (List D)) (l3 : List (List D)) (l4 : List (List D)) (l5 : List (List D × List D)) :
    impl_six.l4 n (m4 + 1) i0 i1 l2 l3 l4 l5 = bif decide (i1 < i0) then bif decide ((0 : Int) ≤ i1) then bif decide (i1 < (↑(List.length l4) : Int)) then Option.bind (Option.bind (some (cellD l4 (Int.toNat i1) (0 : Nat))) D.str?) fun (s1 : ByteArray) => bif decide ((0 : Int) < (↑(List.length l4) : Int)) then Option.bind (Option.bind (some (cellD l4 (Int.toNat (0 : Int)) (0 : Nat))) D.str?) fun (s2 : ByteArray) => bif (↑(ByteArray.size s1) : Int) != (↑(ByteArray.size s2) : Int) then some [Q.one (D.sl (2 : Nat) []), Q.one (D.sl (1 : Nat) []), Q.one (D.bool false)] else bif decide (ByteArray.size s1 ≤ (17179869184 : Nat)) then bif strEq (trimD1 s1) (ByteArray.mk #[]) then some [Q.one (D.sl (2 : Nat) []), Q.one (D.sl (1 : Nat) []), Q.one (D.bool false)] else impl_six.l9 n m4 n i1 s1 i0 i1 (↑(ByteArray.size s1) : Int) (0 : Int) l2 l3 l4 l5 else none else none else none else none else bif (↑(List.length l2) : Int) != (6 : Int) then some [Q.one (D.sl (2 : Nat) []), Q.one (D.sl (1 : Nat) []), Q.one (D.bool false)] else bif decide ((0 : Int) < (↑(List.length l4) : Int)) then Option.bind (Option.bind (some (cellD l4 (Int.toNat (0 : Int)) (0 : Nat))) D.str?) fun (s3 : ByteArray) => bif (↑(List.length l5) : Int) != (↑(ByteArray.size s3) : Int) then some [Q.one (D.sl (2 : Nat) []), Q.one (D.sl (1 : Nat) []), Q.one (D.bool false)] else Option.bind (Cod.decs xyC l2) fun (l4 : List (Int × Int)) => bif decide ((0 : Nat) < List.length l4) then bif decide (List.length l4 ≤ (36 : Nat)) then bif xyIn l4 then bif !hangP l4 then some [Q.one (D.sl (2 : Nat) []), Q.one (D.sl (1 : Nat) []), Q.one (D.bool false)] else some [Q.one (D.sl (2 : Nat) l2), Q.one (D.sl (1 : Nat) l3), Q.one (D.bool true)] else none else none else none else none := by kernel_rfl
theorem impl_six.l9_eq (n : Nat) (m4 : Nat) (m9 : Nat) (i0 : Int) (s1 : ByteArray) (i2 : Int) (i3 : Int) (i4 : Int) (i5 : Int) (l6 : List (List D)) (l7 : List (List D)) (l8 : List (List D)) (l9 : List (List D × List D)) :
    impl_six.l9 n m4 (m9 + 1) i0 s1 i2 i3 i4 i5 l6 l7 l8 l9 = bif decide (i5 < i4) then bif decide ((0 : Int) ≤ i5) then bif decide (i5 < (↑(ByteArray.size s1) : Int)) then bif byteAt s1 (Int.toNat i5) == (46 : Int) then impl_six.l9 n m4 m9 i0 s1 i2 i3 i4 (IntKind.wrap IntKind.i64 (i5 + (1 : Int))) l6 l7 l8 l9 else bif decide ((0 : Int) ≤ i5) then bif decide (i5 < (↑(ByteArray.size s1) : Int)) then bif !digI (byteAt s1 (Int.toNat i5)) then some [Q.one (D.sl (2 : Nat) []), Q.one (D.sl (1 : Nat) []), Q.one (D.bool false)] else bif (↑(List.length l6) : Int) == (6 : Int) then some [Q.one (D.sl (2 : Nat) []), Q.one (D.sl (1 : Nat) []), Q.one (D.bool false)] else bif decide (List.length l6 + (1 : Nat) ≤ (17179869184 : Nat)) then bif decide ((0 : Int) ≤ i5) then bif decide (i5 < (↑(ByteArray.size s1) : Int)) then bif decide (List.length l7 + (1 : Nat) ≤ (17179869184 : Nat)) then Option.bind (mpSet [D.int IntKind.i64 i5] [D.bool true] l9) fun (l5 : List (List D × List D)) => impl_six.l9 n m4 m9 i0 s1 i2 i3 i4 (IntKind.wrap IntKind.i64 (i5 + (1 : Int))) (l6 ++ [[D.int IntKind.i64 i5, D.int IntKind.i64 i0]]) (l7 ++ [[D.int IntKind.i64 (IntKind.wrap IntKind.i64 (IntKind.wrap IntKind.u8 (byteAt s1 (Int.toNat i5) - (48 : Int))))]]) l8 l5 else none else none else none else none else none else none else none else none else impl_six.l4 n m4 i2 (IntKind.wrap IntKind.i64 (i3 + (1 : Int))) l6 l7 l8 l9 := by kernel_rfl
noncomputable def impl_six.res (n : Nat) (a0 : ByteArray) : Option (List Q) :=
  bif decide (ByteArray.size a0 < (17179869184 : Nat)) then impl_six.l4 n n (↑(List.length (Cod.encs strC (rowsB (hd8 (ByteArray.mk #[(47 : UInt8)])) a0))) : Int) (0 : Int) [] [] (Cod.encs strC (rowsB (hd8 (ByteArray.mk #[(47 : UInt8)])) a0)) [] else none
theorem impl_six.run (n : Nat) (a0 : ByteArray) :
    run1 impl_six.cfg [RK.own (2 : Nat), RK.own (1 : Nat), RK.one LK.bool] n Tryz.f67 [Q.one (D.str a0)] = impl_six.res n a0 := by kernel_rfl
theorem impl_six.ev {n : Nat} {a0 : ByteArray} {r : List Q} (h : impl_six.res n a0 = some r) : Snd Tryz.prog C0 67 [.one (.str a0)] r :=
  snd_ev (C := impl_six.cfg) cfg0 mix rfl rfl rfl rfl rfl (.cons strings_Split.ok (.cons strings_TrimDot.ok (.cons impl_isDigit.ok (.cons impl_piece_hangs.ok .nil)))) .nil rfl Tryz.func67 (by kernel_rfl) (by kernel_rfl) rfl ((impl_six.run n a0).trans h)

def zSix : Option (List Q) := some [Q.one (.sl 2 []), Q.one (.sl 1 []), Q.one (.bool false)]
def sxK : Option Sx → (Sx → Option (List Q)) → Option (List Q)
  | none, _ => zSix
  | some S, f => f S
theorem xyC_snoc (l : List (Int × Int)) (x y : Int) : xyC.encs l ++ [[D.int .i64 x, D.int .i64 y]] = xyC.encs (l ++ [(x, y)]) := by
  simp [Cod.encs, xyC]
theorem impl_six.l9_run {n m4 : Nat} {s : ByteArray} {y H : Int} {rows : List (List D)} (hL : s.size ≤ LIM) : ∀ (r : List UInt8) (x m : Nat) (S : Sx), (bl s).drop x = r → x + r.length = s.size → r.length < m → S.P.length ≤ 6 → S.dg.length = S.P.length →
    impl_six.l9 n m4 m y s H y (s.size : Int) (x : Int) (xyC.encs S.P) (intC.encs S.dg) rows (mpC S.cl) = sxK (sxRow y r x S) fun S => impl_six.l4 n m4 H (IntKind.wrap .i64 (y + 1)) (xyC.encs S.P) (intC.encs S.dg) rows (mpC S.cl)
  | [], x, m, S, hr, hx, hm, h6, hd => by
    obtain ⟨m, rfl⟩ : ∃ m', m = m' + 1 := ⟨m - 1, by omega⟩
    rw [List.length_nil] at hx
    have h1 : ¬ (x : Int) < (s.size : Int) := by omega
    rw [impl_six.l9_eq]
    simp -implicitDefEqProofs only [h1, decide_false, cond_false]
    rfl
  | c :: r, x, m, S, hr, hx, hm, h6, hd => by
    obtain ⟨m, rfl⟩ : ∃ m', m = m' + 1 := ⟨m - 1, by omega⟩
    rw [List.length_cons] at hx hm
    have hxl : x < (bl s).length := by rw [bl_len]; omega
    have h1 : (x : Int) < (s.size : Int) := by omega
    have hc : (bl s)[x] = c := by
      have := List.drop_eq_getElem_cons hxl
      rw [hr] at this
      exact (List.cons.inj this).1.symm
    have hr' : (bl s).drop (x + 1) = r := by
      have := List.drop_eq_getElem_cons hxl
      rw [hr] at this
      exact (List.cons.inj this).2.symm
    have hb : byteAt s x = (c.toNat : Int) := by rw [byteAt_bl hxl, hc]
    have hw : IntKind.wrap .i64 ((x : Int) + 1) = ((x + 1 : Nat) : Int) := by unfold LIM at hL; rw [wrap_in (by omega) (by omega)]; omega
    have g1 : S.P.length + 1 ≤ 17179869184 := by omega
    have g2 : S.dg.length + 1 ≤ 17179869184 := by omega
    have e6 : (((S.P.length : Nat) : Int) == 6) = decide (S.P.length = 6) := by
      rw [dec_comm, decide_eq_decide]; omega
    rw [impl_six.l9_eq, sxRow]
    simp -implicitDefEqProofs only [h1, hb, hw, u8beq c 46 (k := 46) rfl, Int.natCast_nonneg, Int.toNat_natCast, decide_true, cond_true, Cod.encs_len, g1, g2, e6]
    cases hk : c == 46 with
    | true =>
      simp -implicitDefEqProofs only [cond_true]
      exact impl_six.l9_run (n := n) (m4 := m4) (H := H) hL r (x + 1) m S hr' (by omega) (by omega) h6 hd
    | false =>
      simp -implicitDefEqProofs only [cond_false]
      rw [show digI (c.toNat : Int) = isDg c from rfl]
      cases hg : isDg c with
      | false => rfl
      | true =>
        by_cases h5 : S.P.length = 6
        · rw [decide_eq_true h5]; rfl
        · rw [decide_eq_false h5]
          simp -implicitDefEqProofs only [Bool.not_true, cond_false, Bool.or_false, isDg_v hg, mpSet_C, Option.bind_some, xyC_snoc, intC_snoc]
          exact impl_six.l9_run (n := n) (m4 := m4) (H := H) hL r (x + 1) m ⟨S.P ++ [((x : Int), y)], S.dg ++ [(c.toNat : Int) - 48], insC S.cl x⟩ hr' (by omega) (by omega) (by
            show (S.P ++ _).length ≤ 6
            rw [List.length_append, List.length_singleton]; omega) (by
            show (S.dg ++ _).length = (S.P ++ _).length
            rw [List.length_append, List.length_append, hd]; rfl)
def endX (w : Nat) (S : Sx) : Option (List Q) := bif decide (S.P.length ≠ 6) || (decide (S.cl.length ≠ w) || !hangP S.P) then zSix else some [Q.one (.sl 2 (xyC.encs S.P)), Q.one (.sl 1 (intC.encs S.dg)), Q.one (.bool true)]
theorem impl_six.l4_run {n w : Nat} {L : List ByteArray} (h0 : 0 < L.length) (hl : L.length ≤ LIM) (hL : ∀ x ∈ L, x.size ≤ LIM) (hn : ∀ x ∈ L, x.size < n) (hw : L[0].size = w) : ∀ (rs : List ByteArray) (y m : Nat) (S : Sx), L.drop y = rs → y + rs.length = L.length → rs.length < m → S.P.length ≤ 6 → S.dg.length = S.P.length → ((sxRows w (rs.map bl) y S).elim True fun S => S.cl.length = w → S.P.length = 6 → xyIn S.P = true) →
    impl_six.l4 n m (L.length : Int) (y : Int) (xyC.encs S.P) (intC.encs S.dg) (strC.encs L) (mpC S.cl) = sxK (sxRows w (rs.map bl) y S) (endX w)
  | [], y, m, S, hr, hy, hm, h6, hd, hx => by
    obtain ⟨m, rfl⟩ : ∃ m', m = m' + 1 := ⟨m - 1, by omega⟩
    rw [List.length_nil] at hy
    have h1 : ¬ (y : Int) < (L.length : Int) := by omega
    have h2 : (0 : Int) < (L.length : Int) := by omega
    have e6 : (((S.P.length : Nat) : Int) != 6) = decide (S.P.length ≠ 6) := by
      unfold bne; rw [dec_comm, ← decide_not, decide_eq_decide]; omega
    have ew : (((mpC S.cl).length : Int) != (w : Int)) = decide (S.cl.length ≠ w) := by
      rw [mpC_len]; unfold bne; rw [dec_comm, ← decide_not, decide_eq_decide]; omega
    have hdec : xyC.decs (xyC.encs S.P) = some S.P := Cod.decs_encs (by unfold LIM; omega)
    have z0 : Int.toNat 0 = 0 := rfl
    rw [impl_six.l4_eq]
    simp -implicitDefEqProofs only [h1, h2, z0, decide_false, cond_false, decide_true, cond_true, Cod.encs_len, e6, strC_cell h0, Option.bind_some, hw, ew, hdec]
    show _ = endX w S
    unfold endX
    by_cases k6 : S.P.length = 6
    · rw [decide_eq_false (fun h => h k6)]
      by_cases kw : S.cl.length = w
      · rw [decide_eq_false (fun h => h kw)]
        have q1 : 0 < S.P.length := by omega
        have q2 : S.P.length ≤ 36 := by omega
        have q3 : xyIn S.P = true := hx kw k6
        simp -implicitDefEqProofs only [q1, q2, q3, decide_true, cond_true, cond_false, Bool.false_or]
        cases hangP S.P <;> rfl
      · rw [decide_eq_true kw]
        rfl
    · rw [decide_eq_true k6]
      rfl
  | b :: rs, y, m, S, hr, hy, hm, h6, hd, hx => by
    obtain ⟨m, rfl⟩ : ∃ m', m = m' + 1 := ⟨m - 1, by omega⟩
    rw [List.length_cons] at hy hm
    have hyl : y < L.length := by omega
    have h1 : (y : Int) < (L.length : Int) := by omega
    have h2 : (0 : Int) < (L.length : Int) := by omega
    have hb : L[y] = b := by
      have := List.drop_eq_getElem_cons hyl
      rw [hr] at this
      exact (List.cons.inj this).1.symm
    have hr' : L.drop (y + 1) = rs := by
      have := List.drop_eq_getElem_cons hyl
      rw [hr] at this
      exact (List.cons.inj this).2.symm
    have hbm : b ∈ L := by rw [← hb]; exact List.getElem_mem hyl
    have hbL : b.size ≤ 17179869184 := hL b hbm
    have hbn := hn b hbm
    have ew : (((b.size : Nat) : Int) != (w : Int)) = decide ((bl b).length ≠ w) := by
      rw [bl_len]; unfold bne; rw [dec_comm, ← decide_not, decide_eq_decide]; omega
    have hwr : IntKind.wrap .i64 ((y : Int) + 1) = ((y + 1 : Nat) : Int) := by unfold LIM at hl; rw [wrap_in (by omega) (by omega)]; omega
    have z0 : Int.toNat 0 = 0 := rfl
    rw [impl_six.l4_eq, List.map_cons, sxRows]
    rw [List.map_cons, sxRows] at hx
    simp -implicitDefEqProofs only [h1, h2, z0, hb, hbL, ew, hw, decide_true, cond_true, Cod.encs_len, Int.natCast_nonneg, Int.toNat_natCast, strC_cell hyl, strC_cell h0, Option.bind_some, trimD1_nil]
    cases hA : decide ((bl b).length ≠ w) with
    | true => rfl
    | false =>
      cases hB : (bl b).all (· == 46) with
      | true => rfl
      | false =>
        rw [hA, hB] at hx
        simp -implicitDefEqProofs only [cond_false, Bool.or_false]
        rw [show ((0 : Int)) = ((0 : Nat) : Int) from rfl, impl_six.l9_run (n := n) (m4 := m) (H := (L.length : Int)) hbL (bl b) 0 n S (by rw [List.drop_zero]) (by rw [Nat.zero_add, bl_len]) (by rw [bl_len]; exact hbn) h6 hd]
        simp -implicitDefEqProofs only [cond_false, Bool.or_false] at hx
        cases hR : sxRow (y : Int) (bl b) 0 S with
        | none => rfl
        | some S' =>
          obtain ⟨j1, j2⟩ := sxRow_len _ _ _ _ hR h6 hd
          rw [hR, Option.bind_some] at hx
          rw [Option.bind_some]
          show impl_six.l4 n m _ _ _ _ _ _ = _
          rw [hwr]
          exact impl_six.l4_run h0 hl hL hn hw rs (y + 1) m S' hr' (by omega) (by omega) j1 j2 hx
def sxD (s : ByteArray) : Sx := (sxO (rws s)).getD ⟨[], [], []⟩
def impl_six.stub : Stub
  | [.one (.str s)] => .gd (decide (s.size < LIM)) (.ite (sxO (rws s)).isSome (.ret [.one (.sl 2 (xyC.encs (sxD s).P)), .one (.sl 1 (intC.encs (sxD s).dg)), .one (.bool true)]) (.ret [.one (.sl 2 []), .one (.sl 1 []), .one (.bool false)]))
  | _ => .fail
theorem impl_six.ok : StubOk Tryz.prog C0 67 impl_six.stub := by
  intro args res h
  unfold impl_six.stub at h
  split at h
  · rename_i s
    obtain ⟨k1, h0⟩ := gd_out h
    have k1 : s.size < 17179869184 := of_decide_eq_true k1
    have hlen : (rowsB 47 s).length = (rws s).length := by rw [← lb_len, lb_rowsB]
    have hrl := rows_len s
    have h00 : 0 < (rowsB 47 s).length := by rw [hlen, rws, spl_count]; omega
    have hw : (rowsB 47 s)[0].size = wOf (rws s) := by rw [← lb_w h00, lb_rowsB]
    have hrb : ∀ x ∈ rowsB 47 s, x.size ≤ s.size := rowsB_row s
    have hmap : (rowsB 47 s).map bl = rws s := lb_rowsB s
    have run := impl_six.l4_run (n := s.size + 5) (w := wOf (rws s)) h00 (by unfold LIM; omega) (fun x hx => by have := hrb x hx; unfold LIM; omega) (fun x hx => by have := hrb x hx; omega) hw (rowsB 47 s) 0 (s.size + 5) ⟨[], [], []⟩ (by rw [List.drop_zero]) (by omega) (by omega) (by simp) rfl (by
      rw [hmap]
      cases hS : sxRows (wOf (rws s)) (rws s) 0 ⟨[], [], []⟩ with
      | none => trivial
      | some S => exact fun hc _ => (sxRows_in hS hc).1)
    rw [hmap] at run
    have hres : impl_six.res (s.size + 5) s = sxK (sxRows (wOf (rws s)) (rws s) 0 ⟨[], [], []⟩) (endX (wOf (rws s))) := by
      unfold impl_six.res
      rw [decide_eq_true k1, cond_true]
      have e47 : hd8 (ByteArray.mk #[(47 : UInt8)]) = 47 := rfl
      rw [e47, Cod.encs_len]
      exact run
    have hO : sxK (sxRows (wOf (rws s)) (rws s) 0 ⟨[], [], []⟩) (endX (wOf (rws s))) = bif (sxO (rws s)).isSome then some [Q.one (.sl 2 (xyC.encs (sxD s).P)), Q.one (.sl 1 (intC.encs (sxD s).dg)), Q.one (.bool true)] else zSix := by
      unfold sxD sxO
      cases sxRows (wOf (rws s)) (rws s) 0 ⟨[], [], []⟩ with
      | none => rfl
      | some S =>
        show endX _ S = _
        unfold endX
        rw [Option.bind_some]
        cases decide (S.P.length ≠ 6) || (decide (S.cl.length ≠ wOf (rws s)) || !hangP S.P) <;> rfl
    rw [hO] at hres
    refine impl_six.ev (n := s.size + 5) ?_
    rw [hres]
    cases hb : (sxO (rws s)).isSome with
    | true => rw [hb] at h0; cases h0; rfl
    | false => rw [hb] at h0; cases h0; rfl
  · cases h
end Go.Proofs.EV.PL
set_option linter.unusedVariables false
set_option linter.unusedSimpArgs false
set_option maxHeartbeats 4000000
/-! Nets read and turned by the program. -/
namespace Go.Proofs.EV.PL
open Go Go.Proofs Go.Proofs.EV Sp
theorem sxO_in {s : ByteArray} {S : Sx} (h : sxO (rws s) = some S) : S.P.length = 6 ∧ xyIn S.P = true := by
  unfold sxO at h
  cases hS : sxRows (wOf (rws s)) (rws s) 0 ⟨[], [], []⟩ with
  | none => rw [hS] at h; cases h
  | some S' =>
    rw [hS, Option.bind_some] at h
    cases hb : decide (S'.P.length ≠ 6) || (decide (S'.cl.length ≠ wOf (rws s)) || !hangP S'.P) with
    | true => rw [hb] at h; cases h
    | false =>
      rw [hb, cond_false] at h
      cases h
      rw [Bool.or_eq_false_iff, Bool.or_eq_false_iff, decide_eq_false_iff_not, decide_eq_false_iff_not] at hb
      have h1 : S.P.length = 6 := by omega
      have h2 : S.cl.length = wOf (rws s) := by omega
      exact ⟨h1, (sxRows_in hS h2).1⟩
/-! impl_net -/
noncomputable def impl_net.cfg : Cfg := { C0 with keep := fun _ => none, nb := 0, M := tabM [(67, impl_six.stub), (82, impl_piece_folds.stub)], MM := tabB [] }
noncomputable def impl_net.res (n : Nat) (a0 : ByteArray) : Option (List Q) :=
  bif decide (ByteArray.size a0 < (17179869184 : Nat)) then bif Option.isSome (sxO (rws a0)) then Option.bind (Cod.decs xyC (Cod.encs xyC (Sx.P (Option.rec ((fun (_ : Unit) => Sx.mk [] [] []) ()) (fun (val : Sx) => (fun (val : Sx) => (fun (x : Sx) => x) val) val) (sxO (rws a0)))))) fun (l1 : List (Int × Int)) => bif decide (List.length l1 = (6 : Nat)) then bif xyIn l1 then some [Q.one (D.sl (2 : Nat) (Cod.encs xyC (Sx.P (Option.rec ((fun (_ : Unit) => Sx.mk [] [] []) ()) (fun (val : Sx) => (fun (val : Sx) => (fun (x : Sx) => x) val) val) (sxO (rws a0)))))), Q.one (D.sl (1 : Nat) (Cod.encs intC (Sx.dg (Option.rec ((fun (_ : Unit) => Sx.mk [] [] []) ()) (fun (val : Sx) => (fun (val : Sx) => (fun (x : Sx) => x) val) val) (sxO (rws a0)))))), Q.one (D.bool (foldsP l1))] else none else none else some [Q.one (D.sl (2 : Nat) []), Q.one (D.sl (1 : Nat) []), Q.one (D.bool false)] else none
theorem impl_net.run (n : Nat) (a0 : ByteArray) :
    run1 impl_net.cfg [RK.own (2 : Nat), RK.own (1 : Nat), RK.one LK.bool] n Tryz.f53 [Q.one (D.str a0)] = impl_net.res n a0 := by kernel_rfl
theorem impl_net.ev {n : Nat} {a0 : ByteArray} {r : List Q} (h : impl_net.res n a0 = some r) : Snd Tryz.prog C0 53 [.one (.str a0)] r :=
  snd_ev (C := impl_net.cfg) cfg0 mix rfl rfl rfl rfl rfl (.cons impl_six.ok (.cons impl_piece_folds.ok .nil)) .nil rfl Tryz.func53 (by kernel_rfl) (by kernel_rfl) rfl ((impl_net.run n a0).trans h)

def impl_net.stub : Stub
  | [.one (.str s)] => .gd (decide (s.size < LIM)) (.ite (sxO (rws s)).isSome (.ret [.one (.sl 2 (xyC.encs (sxD s).P)), .one (.sl 1 (intC.encs (sxD s).dg)), .one (.bool (netS okc s))]) (.ret [.one (.sl 2 []), .one (.sl 1 []), .one (.bool false)]))
  | _ => .fail
theorem impl_net.ok : StubOk Tryz.prog C0 53 impl_net.stub := by
  intro args res h
  unfold impl_net.stub at h
  split at h
  · rename_i s
    obtain ⟨k1, h0⟩ := gd_out h
    have k1 : s.size < 17179869184 := of_decide_eq_true k1
    refine impl_net.ev (n := 0) ?_
    unfold impl_net.res
    rw [decide_eq_true k1, cond_true]
    rw [net_iff] at h0
    unfold sxD at h0
    cases hO : sxO (rws s) with
    | none => rw [hO] at h0; cases h0; rfl
    | some S =>
      rw [hO] at h0
      cases h0
      obtain ⟨j1, j2⟩ := sxO_in hO
      have hdec : xyC.decs (xyC.encs S.P) = some S.P := Cod.decs_encs (by unfold LIM; omega)
      simp -implicitDefEqProofs only [Option.isSome_some, hdec, j1, j2, decide_true, cond_true, Option.bind_some]
      rfl
  · cases h
/-! impl_IsNet -/
noncomputable def impl_IsNet.cfg : Cfg := { C0 with keep := fun _ => none, nb := 0, M := tabM [(53, impl_net.stub)], MM := tabB [] }
noncomputable def impl_IsNet.res (n : Nat) (a0 : ByteArray) : Option (List Q) :=
  bif decide (ByteArray.size a0 < (17179869184 : Nat)) then bif Option.isSome (sxO (rws a0)) then some [Q.one (D.bool (netS okc a0))] else some [Q.one (D.bool false)] else none
theorem impl_IsNet.run (n : Nat) (a0 : ByteArray) :
    run1 impl_IsNet.cfg [RK.one LK.bool] n Tryz.f28 [Q.one (D.str a0)] = impl_IsNet.res n a0 := by kernel_rfl
theorem impl_IsNet.ev {n : Nat} {a0 : ByteArray} {r : List Q} (h : impl_IsNet.res n a0 = some r) : Snd Tryz.prog C0 28 [.one (.str a0)] r :=
  snd_ev (C := impl_IsNet.cfg) cfg0 mix rfl rfl rfl rfl rfl (.cons impl_net.ok .nil) .nil rfl Tryz.func28 (by kernel_rfl) (by kernel_rfl) rfl ((impl_IsNet.run n a0).trans h)

def impl_IsNet.stub : Stub
  | [.one (.str s)] => .gd (decide (s.size < LIM)) (.ret [.one (.bool (netS okc s))])
  | _ => .fail
theorem sx_none {s : ByteArray} (h : (sxO (rws s)).isSome = false) : netS okc s = false := by
  rw [net_iff]
  cases hO : sxO (rws s) with
  | none => rfl
  | some S => rw [hO] at h; cases h
theorem impl_IsNet.ok : StubOk Tryz.prog C0 28 impl_IsNet.stub := by
  intro args res h
  unfold impl_IsNet.stub at h
  split at h
  · rename_i s
    obtain ⟨k1, h0⟩ := gd_out h
    have k1 : s.size < 17179869184 := of_decide_eq_true k1
    cases h0
    refine impl_IsNet.ev (n := 0) ?_
    unfold impl_IsNet.res
    rw [decide_eq_true k1, cond_true]
    cases hO : (sxO (rws s)).isSome with
    | true => cases netS okc s <;> rfl
    | false => rw [sx_none hO]; rfl
  · cases h
/-! impl_turnText -/
noncomputable def impl_turnText.cfg : Cfg := { C0 with keep := fun _ => none, nb := 0, M := tabM [(54, strings_Split.stub), (55, impl_grid_turn.stub), (56, impl_grid_text.stub)], MM := tabB [] }
noncomputable def impl_turnText.res (n : Nat) (a0 : ByteArray) : Option (List Q) :=
  bif decide (ByteArray.size a0 < (17179869184 : Nat)) then Option.bind (Cod.decs strC (Cod.encs strC (rowsB (hd8 (ByteArray.mk #[(47 : UInt8)])) a0))) fun (l1 : List ByteArray) => bif unif (lb l1) then bif inR (↑(List.length l1) : Int) (1 : Int) (7 : Int) then bif inR (↑(wOf (lb l1)) : Int) (0 : Int) (7 : Int) then Option.bind (Cod.decs strC (Cod.encs strC (turnB l1))) fun (l2 : List ByteArray) => bif decide (List.length (jn (lb l2)) ≤ (17179869184 : Nat)) then some [Q.one (D.str (mkB (jn (lb l2))))] else none else none else none else none else none
theorem impl_turnText.run (n : Nat) (a0 : ByteArray) :
    run1 impl_turnText.cfg [RK.one LK.str] n Tryz.f29 [Q.one (D.str a0)] = impl_turnText.res n a0 := by kernel_rfl
theorem impl_turnText.ev {n : Nat} {a0 : ByteArray} {r : List Q} (h : impl_turnText.res n a0 = some r) : Snd Tryz.prog C0 29 [.one (.str a0)] r :=
  snd_ev (C := impl_turnText.cfg) cfg0 mix rfl rfl rfl rfl rfl (.cons strings_Split.ok (.cons impl_grid_turn.ok (.cons impl_grid_text.ok .nil))) .nil rfl Tryz.func29 (by kernel_rfl) (by kernel_rfl) rfl ((impl_turnText.run n a0).trans h)

def impl_turnText.stub : Stub
  | [.one (.str s)] => .gd (decide (s.size < LIM)) (.gd (unif (rws s)) (.gd (inR (rws s).length 1 7) (.gd (inR (wOf (rws s)) 0 7) (.ret [.one (.str (mkB (jn (turnR (rws s)))))]))))
  | _ => .fail
theorem impl_turnText.ok : StubOk Tryz.prog C0 29 impl_turnText.stub := by
  intro args res h
  unfold impl_turnText.stub at h
  split at h
  · rename_i s
    obtain ⟨k1, h0⟩ := gd_out h
    obtain ⟨k2, h0⟩ := gd_out h0
    obtain ⟨k3, h0⟩ := gd_out h0
    obtain ⟨k4, h0⟩ := gd_out h0
    cases h0
    have k1 : s.size < 17179869184 := of_decide_eq_true k1
    have hrl := rows_len s
    have hlen : (rowsB 47 s).length = (rws s).length := by rw [← lb_len, lb_rowsB]
    have e47 : hd8 (ByteArray.mk #[(47 : UInt8)]) = 47 := rfl
    have hdec : strC.decs (strC.encs (rowsB 47 s)) = some (rowsB 47 s) := Cod.decs_encs (by unfold LIM; omega)
    have i3 := k3
    have i4 := k4
    unfold inR at i3 i4
    simp only [Bool.and_eq_true, decide_eq_true_eq] at i3 i4
    have hdec2 : strC.decs (strC.encs (turnB (rowsB 47 s))) = some (turnB (rowsB 47 s)) := Cod.decs_encs (by
      unfold turnB
      rw [List.length_map, turnR_len, lb_rowsB]; unfold LIM; omega)
    have hj : (jn (turnR (rws s))).length ≤ 17179869184 := by
      have := turnR_jn (r := rws s) (by omega) (by omega)
      omega
    refine impl_turnText.ev (n := 0) ?_
    unfold impl_turnText.res
    simp -implicitDefEqProofs only [k1, e47, hdec, hdec2, lb_rowsB, lb_turnB, hlen, k2, k3, k4, hj, decide_true, cond_true, Option.bind_some]
  · cases h
/-! impl_TurnNet -/
noncomputable def impl_TurnNet.cfg : Cfg := { C0 with keep := fun _ => none, nb := 0, M := tabM [(28, impl_IsNet.stub), (29, impl_turnText.stub)], MM := tabB [] }
noncomputable def impl_TurnNet.res (n : Nat) (a0 : ByteArray) : Option (List Q) :=
  bif decide (ByteArray.size a0 < (17179869184 : Nat)) then bif !netS okc a0 then some [Q.one (D.str (ByteArray.mk #[])), Q.one (D.bool false)] else bif decide (ByteArray.size a0 < (17179869184 : Nat)) then bif unif (rws a0) then bif inR (↑(List.length (rws a0)) : Int) (1 : Int) (7 : Int) then bif inR (↑(wOf (rws a0)) : Int) (0 : Int) (7 : Int) then some [Q.one (D.str (mkB (jn (turnR (rws a0))))), Q.one (D.bool true)] else none else none else none else none else none
theorem impl_TurnNet.run (n : Nat) (a0 : ByteArray) :
    run1 impl_TurnNet.cfg [RK.one LK.str, RK.one LK.bool] n Tryz.f10 [Q.one (D.str a0)] = impl_TurnNet.res n a0 := by kernel_rfl
theorem impl_TurnNet.ev {n : Nat} {a0 : ByteArray} {r : List Q} (h : impl_TurnNet.res n a0 = some r) : Snd Tryz.prog C0 10 [.one (.str a0)] r :=
  snd_ev (C := impl_TurnNet.cfg) cfg0 mix rfl rfl rfl rfl rfl (.cons impl_IsNet.ok (.cons impl_turnText.ok .nil)) .nil rfl Tryz.func10 (by kernel_rfl) (by kernel_rfl) rfl ((impl_TurnNet.run n a0).trans h)

def impl_TurnNet.stub : Stub
  | [.one (.str s)] => .gd (decide (s.size < LIM)) (.ret [.one (.str (Sp.onS (Sp.netS okc s) (Sp.mkB (Sp.jn (Sp.turnR (Sp.rws s)))))), .one (.bool (Sp.netS okc s))])
  | _ => .fail
theorem netS_six {s : ByteArray} (h : netS okc s = true) : sixS okc s = true := by
  unfold netS at h
  rw [Bool.and_eq_true] at h
  exact h.1
theorem impl_TurnNet.ok : StubOk Tryz.prog C0 10 impl_TurnNet.stub := by
  intro args res h
  unfold impl_TurnNet.stub at h
  split at h
  · rename_i s
    obtain ⟨k1, h0⟩ := gd_out h
    have k1 : s.size < 17179869184 := of_decide_eq_true k1
    cases h0
    refine impl_TurnNet.ev (n := 0) ?_
    unfold impl_TurnNet.res
    rw [decide_eq_true k1, cond_true]
    cases hn : netS okc s with
    | false => rfl
    | true =>
      obtain ⟨f1, f2, f3, f4, f5, f6, f7, f8⟩ := sixS_out (netS_six hn)
      have hl : 1 ≤ (rws s).length := by rw [rws, spl_count]; omega
      have q3 : inR ((rws s).length : Int) 1 7 = true := by unfold inR; simp only [Bool.and_eq_true, decide_eq_true_eq]; omega
      have q4 : inR (wOf (rws s) : Int) 0 7 = true := by unfold inR; simp only [Bool.and_eq_true, decide_eq_true_eq]; omega
      simp -implicitDefEqProofs only [k1, f1, q3, q4, Bool.not_true, decide_true, cond_true, cond_false]
      rfl
  · cases h
/-! laws_FnExactTurnNet -/
noncomputable def laws_FnExactTurnNet.cfg : Cfg := { C0 with keep := fun _ => none, nb := 0, M := tabM [(10, impl_TurnNet.stub), (9, spec_TurnNet.stub)], MM := tabB [] }
noncomputable def laws_FnExactTurnNet.res (n : Nat) (a0 : ByteArray) : Option (List Q) :=
  bif decide ((↑(ByteArray.size a0) : Int) > (1048576 : Int)) then some [Q.one (D.bool true)] else bif decide (ByteArray.size a0 < (17179869184 : Nat)) then bif !strEq (onS (netS okc a0) (mkB (jn (turnR (rws a0))))) (onS (netS okc a0) (mkB (jn (turnR (rws a0))))) then some [Q.one (D.bool false)] else bif !netS okc a0 == netS okc a0 then some [Q.one (D.bool false)] else some [Q.one (D.bool true)] else none
theorem laws_FnExactTurnNet.run (n : Nat) (a0 : ByteArray) :
    run1 laws_FnExactTurnNet.cfg [RK.one LK.bool] n Tryz.f3 [Q.one (D.str a0)] = laws_FnExactTurnNet.res n a0 := by kernel_rfl
theorem laws_FnExactTurnNet.ev {n : Nat} {a0 : ByteArray} {r : List Q} (h : laws_FnExactTurnNet.res n a0 = some r) : Snd Tryz.prog C0 3 [.one (.str a0)] r :=
  snd_ev (C := laws_FnExactTurnNet.cfg) cfg0 mix rfl rfl rfl rfl rfl (.cons impl_TurnNet.ok (.cons spec_TurnNet.ok .nil)) .nil rfl Tryz.func3 (by kernel_rfl) (by kernel_rfl) rfl ((laws_FnExactTurnNet.run n a0).trans h)

theorem laws_FnExactTurnNet.law (b : ByteArray) : Snd Tryz.prog C0 3 [.one (.str b)] [.one (.bool true)] := by
  refine laws_FnExactTurnNet.ev (n := 0) ?_
  unfold laws_FnExactTurnNet.res
  by_cases hs : b.size ≤ 1048576
  · have h1 : b.size < 17179869184 := by omega
    have h2 : ¬ ((b.size : Nat) : Int) > 1048576 := by omega
    simp -implicitDefEqProofs only [h1, h2, decide_true, decide_false, cond_true, cond_false, strEq_refl, Bool.not_true, beq_self_eq_true, bne_self_eq_false]
  · have h2 : ((b.size : Nat) : Int) > 1048576 := by omega
    simp -implicitDefEqProofs only [h2, decide_true, cond_true]
end Go.Proofs.EV.PL
