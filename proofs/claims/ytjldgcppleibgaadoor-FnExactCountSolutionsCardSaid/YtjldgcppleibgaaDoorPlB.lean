import Derived.Test.YtjldgcppleibgaaDoorPlA
set_option linter.unusedVariables false
set_option linter.unusedSimpArgs false
set_option maxHeartbeats 4000000
/-! What rolls make of a state, by moves. -/
namespace Go.Proofs.EV.PL
open Go Go.Proofs Go.Proofs.EV Sp
/-! impl_reached -/
noncomputable def impl_reached.cfg : Cfg := { C0 with keep := fun | 3 => some [1, 5, 6] | 6 => some [1, 5, 6, 31] | _ => none, nb := 0, M := tabM [(86, impl_grid_roll_i.stub)], MM := tabB [] }
noncomputable def impl_reached.l3 (n : Nat) (m3 : Nat) (l0 : List (List D)) (i1 : Int) (l2 : List (List D)) (l3 : List (List D)) (l4 : List (List D)) (l5 : List (List D)) (l6 : List (List D × List D)) : Option (List Q) :=
  loopAt impl_reached.cfg [RK.one (LK.nl D.nilp)] n Tryd.f103 [1, 1, 0, 1, 0] [] m3 (St.mk [V.undef, V.one false (D.fn (86 : Nat) [D.sl (1 : Nat) l0] []), V.undef, V.undef, V.undef, V.rp (0 : Nat) (0 : Nat), V.one true (D.int IntKind.i64 i1), V.undef, V.undef, V.undef, V.undef, V.undef, V.undef, V.undef, V.undef, V.undef, V.undef, V.undef, V.undef, V.undef, V.undef, V.undef, V.undef, V.undef, V.undef, V.undef, V.undef, V.undef, V.undef, V.undef, V.undef, V.undef, V.undef, V.undef, V.undef, V.undef, V.undef, V.undef, V.undef, V.undef, V.undef, V.undef, V.undef, V.undef, V.undef, V.undef, V.undef, V.undef, V.undef, V.undef, V.undef, V.undef, V.undef, V.undef, V.undef, V.undef, V.undef, V.undef, V.undef, V.undef, V.undef, V.undef, V.undef, V.undef, V.undef, V.undef, V.undef, V.undef, V.undef, V.undef, V.undef, V.undef, V.undef, V.undef, V.undef, V.undef, V.undef, V.undef, V.undef, V.undef, V.undef, V.undef, V.undef, V.undef, V.undef, V.undef, V.undef, V.undef, V.undef, V.undef, V.undef, V.undef, V.undef, V.undef, V.undef, V.undef, V.undef, V.undef, V.undef, V.undef, V.undef, V.undef, V.undef, V.undef, V.undef, V.undef, V.undef, V.undef, V.undef, V.undef, V.undef, V.undef, V.undef, V.undef, V.undef, V.undef, V.undef, V.undef, V.undef, V.undef, V.undef, V.undef] [Ob.box [V.rw (1 : Nat), V.rw (2 : Nat), V.rw (3 : Nat), V.rw (4 : Nat), V.rm (5 : Nat)], Ob.row false (8 : Nat) l2, Ob.row false (1 : Nat) l3, Ob.row false (1 : Nat) l4, Ob.row false (1 : Nat) l5, Ob.mp l6])
noncomputable def impl_reached.l6 (n : Nat) (m3 : Nat) (m6 : Nat) (l0 : List (List D)) (i1 : Int) (i2 : Int) (l3 : List (List D)) (l4 : List (List D)) (l5 : List (List D)) (l6 : List (List D)) (l7 : List (List D × List D)) : Option (List Q) :=
  loopAt impl_reached.cfg [RK.one (LK.nl D.nilp)] n Tryd.f103 [1, 1, 0, 1, 0, 0, 1, 0, 0, 1, 0] [m3] m6 (St.mk [V.undef, V.one false (D.fn (86 : Nat) [D.sl (1 : Nat) l0] []), V.undef, V.undef, V.undef, V.rp (0 : Nat) (0 : Nat), V.one true (D.int IntKind.i64 i1), V.undef, V.undef, V.undef, V.undef, V.undef, V.undef, V.undef, V.undef, V.undef, V.undef, V.undef, V.undef, V.undef, V.undef, V.undef, V.undef, V.undef, V.undef, V.undef, V.undef, V.undef, V.undef, V.undef, V.undef, V.one true (D.int IntKind.i64 i2), V.undef, V.undef, V.undef, V.undef, V.undef, V.undef, V.undef, V.undef, V.undef, V.undef, V.undef, V.undef, V.undef, V.undef, V.undef, V.undef, V.undef, V.undef, V.undef, V.undef, V.undef, V.undef, V.undef, V.undef, V.undef, V.undef, V.undef, V.undef, V.undef, V.undef, V.undef, V.undef, V.undef, V.undef, V.undef, V.undef, V.undef, V.undef, V.undef, V.undef, V.undef, V.undef, V.undef, V.undef, V.undef, V.undef, V.undef, V.undef, V.undef, V.undef, V.undef, V.undef, V.undef, V.undef, V.undef, V.undef, V.undef, V.undef, V.undef, V.undef, V.undef, V.undef, V.undef, V.undef, V.undef, V.undef, V.undef, V.undef, V.undef, V.undef, V.undef, V.undef, V.undef, V.undef, V.undef, V.undef, V.undef, V.undef, V.undef, V.undef, V.undef, V.undef, V.undef, V.undef, V.undef, V.undef, V.undef, V.undef, V.undef, V.undef] [Ob.box [V.rw (1 : Nat), V.rw (2 : Nat), V.rw (3 : Nat), V.rw (4 : Nat), V.rm (5 : Nat)], Ob.row false (8 : Nat) l3, Ob.row false (1 : Nat) l4, Ob.row false (1 : Nat) l5, Ob.row false (1 : Nat) l6, Ob.mp l7])
theorem impl_reached.l3_eq (n : Nat) (m3 : Nat) (l0 : List (List D)) (i1 : Int) (l2 : List (List D)) (l3 : List (List D)) (l4 : List (List D)) (l5 : List (List D)) (l6 : List (List D × List D)) :
    impl_reached.l3 n (m3 + 1) l0 i1 l2 l3 l4 l5 l6 = bif decide (i1 < (↑(List.length l2) : Int)) then impl_reached.l6 n m3 n l0 i1 (0 : Int) l2 l3 l4 l5 l6 else some [Q.one (D.pt [D.sl (8 : Nat) l2, D.sl (1 : Nat) l3, D.sl (1 : Nat) l4, D.sl (1 : Nat) l5, D.mp l6])] := by kernel_rfl
theorem impl_reached.l6_eq (n : Nat) (m3 : Nat) (m6 : Nat) (l0 : List (List D)) (i1 : Int) (i2 : Int) (l3 : List (List D)) (l4 : List (List D)) (l5 : List (List D)) (l6 : List (List D)) (l7 : List (List D × List D)) :
    impl_reached.l6 n m3 (m6 + 1) l0 i1 i2 l3 l4 l5 l6 l7 = bif decide (i2 < (4 : Int)) then bif decide ((0 : Int) ≤ i1) then bif decide (i1 < (↑(List.length l3) : Int)) then Option.bind (Option.bind (some (cellD l3 (Int.toNat i1) (0 : Nat))) (D.int? IntKind.i64)) fun (i1_1 : Int) => Option.bind (Option.bind (some (cellD l3 (Int.toNat i1) (1 : Nat))) (D.int? IntKind.i64)) fun (i2_1 : Int) => Option.bind (Option.bind (some (cellD l3 (Int.toNat i1) (2 : Nat))) (D.int? IntKind.i64)) fun (i3 : Int) => Option.bind (Option.bind (some (cellD l3 (Int.toNat i1) (3 : Nat))) (D.int? IntKind.i64)) fun (i4 : Int) => Option.bind (Option.bind (some (cellD l3 (Int.toNat i1) (4 : Nat))) (D.int? IntKind.i64)) fun (i5 : Int) => Option.bind (Option.bind (some (cellD l3 (Int.toNat i1) (5 : Nat))) (D.int? IntKind.i64)) fun (i6 : Int) => Option.bind (Option.bind (some (cellD l3 (Int.toNat i1) (6 : Nat))) (D.int? IntKind.i64)) fun (i7 : Int) => Option.bind (Option.bind (some (cellD l3 (Int.toNat i1) (7 : Nat))) (D.int? IntKind.i64)) fun (i8 : Int) => bif decide ((0 : Int) ≤ i2) then bif decide (i2 < (4 : Int)) then Option.bind (Cod.decs strC l0) fun (l9 : List ByteArray) => bif unif (lb l9) then bif smallR l9 then bif inR i1_1 (0 : Int) (6 : Int) then bif inR i2_1 (0 : Int) (6 : Int) then Option.bind (mpGet [D.int IntKind.i64 (Sta.x (mv (Sta.mk i1_1 i2_1 (Die.mk i3 i4 i5 i6 i7 i8)) (byteAt (ByteArray.mk #[(110 : UInt8), (101 : UInt8), (115 : UInt8), (119 : UInt8)]) (Int.toNat i2)))), D.int IntKind.i64 (Sta.y (mv (Sta.mk i1_1 i2_1 (Die.mk i3 i4 i5 i6 i7 i8)) (byteAt (ByteArray.mk #[(110 : UInt8), (101 : UInt8), (115 : UInt8), (119 : UInt8)]) (Int.toNat i2)))), D.int IntKind.i64 (Die.t (Sta.d (mv (Sta.mk i1_1 i2_1 (Die.mk i3 i4 i5 i6 i7 i8)) (byteAt (ByteArray.mk #[(110 : UInt8), (101 : UInt8), (115 : UInt8), (119 : UInt8)]) (Int.toNat i2))))), D.int IntKind.i64 (Die.n (Sta.d (mv (Sta.mk i1_1 i2_1 (Die.mk i3 i4 i5 i6 i7 i8)) (byteAt (ByteArray.mk #[(110 : UInt8), (101 : UInt8), (115 : UInt8), (119 : UInt8)]) (Int.toNat i2))))), D.int IntKind.i64 (Die.e (Sta.d (mv (Sta.mk i1_1 i2_1 (Die.mk i3 i4 i5 i6 i7 i8)) (byteAt (ByteArray.mk #[(110 : UInt8), (101 : UInt8), (115 : UInt8), (119 : UInt8)]) (Int.toNat i2))))), D.int IntKind.i64 (Die.s (Sta.d (mv (Sta.mk i1_1 i2_1 (Die.mk i3 i4 i5 i6 i7 i8)) (byteAt (ByteArray.mk #[(110 : UInt8), (101 : UInt8), (115 : UInt8), (119 : UInt8)]) (Int.toNat i2))))), D.int IntKind.i64 (Die.w (Sta.d (mv (Sta.mk i1_1 i2_1 (Die.mk i3 i4 i5 i6 i7 i8)) (byteAt (ByteArray.mk #[(110 : UInt8), (101 : UInt8), (115 : UInt8), (119 : UInt8)]) (Int.toNat i2))))), D.int IntKind.i64 (Die.b (Sta.d (mv (Sta.mk i1_1 i2_1 (Die.mk i3 i4 i5 i6 i7 i8)) (byteAt (ByteArray.mk #[(110 : UInt8), (101 : UInt8), (115 : UInt8), (119 : UInt8)]) (Int.toNat i2)))))] l7) fun (d10 : Option (List D)) => bif decide (List.length (Option.getD d10 [D.int IntKind.i64 (0 : Int)]) = (1 : Nat)) then Option.bind (Option.bind (some (cellD [Option.getD d10 [D.int IntKind.i64 (0 : Int)]] (0 : Nat) (0 : Nat))) (D.int? IntKind.i64)) fun (i11 : Int) => bif !isFl (lb l9) (Sta.x (mv (Sta.mk i1_1 i2_1 (Die.mk i3 i4 i5 i6 i7 i8)) (byteAt (ByteArray.mk #[(110 : UInt8), (101 : UInt8), (115 : UInt8), (119 : UInt8)]) (Int.toNat i2)))) (Sta.y (mv (Sta.mk i1_1 i2_1 (Die.mk i3 i4 i5 i6 i7 i8)) (byteAt (ByteArray.mk #[(110 : UInt8), (101 : UInt8), (115 : UInt8), (119 : UInt8)]) (Int.toNat i2)))) then impl_reached.l6 n m3 m6 l0 i1 (IntKind.wrap IntKind.i64 (i2 + (1 : Int))) l3 l4 l5 l6 l7 else bif Option.isSome d10 then impl_reached.l6 n m3 m6 l0 i1 (IntKind.wrap IntKind.i64 (i2 + (1 : Int))) l3 l4 l5 l6 l7 else Option.bind (mpSet [D.int IntKind.i64 (Sta.x (mv (Sta.mk i1_1 i2_1 (Die.mk i3 i4 i5 i6 i7 i8)) (byteAt (ByteArray.mk #[(110 : UInt8), (101 : UInt8), (115 : UInt8), (119 : UInt8)]) (Int.toNat i2)))), D.int IntKind.i64 (Sta.y (mv (Sta.mk i1_1 i2_1 (Die.mk i3 i4 i5 i6 i7 i8)) (byteAt (ByteArray.mk #[(110 : UInt8), (101 : UInt8), (115 : UInt8), (119 : UInt8)]) (Int.toNat i2)))), D.int IntKind.i64 (Die.t (Sta.d (mv (Sta.mk i1_1 i2_1 (Die.mk i3 i4 i5 i6 i7 i8)) (byteAt (ByteArray.mk #[(110 : UInt8), (101 : UInt8), (115 : UInt8), (119 : UInt8)]) (Int.toNat i2))))), D.int IntKind.i64 (Die.n (Sta.d (mv (Sta.mk i1_1 i2_1 (Die.mk i3 i4 i5 i6 i7 i8)) (byteAt (ByteArray.mk #[(110 : UInt8), (101 : UInt8), (115 : UInt8), (119 : UInt8)]) (Int.toNat i2))))), D.int IntKind.i64 (Die.e (Sta.d (mv (Sta.mk i1_1 i2_1 (Die.mk i3 i4 i5 i6 i7 i8)) (byteAt (ByteArray.mk #[(110 : UInt8), (101 : UInt8), (115 : UInt8), (119 : UInt8)]) (Int.toNat i2))))), D.int IntKind.i64 (Die.s (Sta.d (mv (Sta.mk i1_1 i2_1 (Die.mk i3 i4 i5 i6 i7 i8)) (byteAt (ByteArray.mk #[(110 : UInt8), (101 : UInt8), (115 : UInt8), (119 : UInt8)]) (Int.toNat i2))))), D.int IntKind.i64 (Die.w (Sta.d (mv (Sta.mk i1_1 i2_1 (Die.mk i3 i4 i5 i6 i7 i8)) (byteAt (ByteArray.mk #[(110 : UInt8), (101 : UInt8), (115 : UInt8), (119 : UInt8)]) (Int.toNat i2))))), D.int IntKind.i64 (Die.b (Sta.d (mv (Sta.mk i1_1 i2_1 (Die.mk i3 i4 i5 i6 i7 i8)) (byteAt (ByteArray.mk #[(110 : UInt8), (101 : UInt8), (115 : UInt8), (119 : UInt8)]) (Int.toNat i2)))))] [D.int IntKind.i64 (↑(List.length l3) : Int)] l7) fun (l12 : List (List D × List D)) => bif decide (List.length l3 + (1 : Nat) ≤ (17179869184 : Nat)) then bif decide (List.length l4 + (1 : Nat) ≤ (17179869184 : Nat)) then bif decide ((0 : Int) ≤ i2) then bif decide (i2 < (4 : Int)) then bif decide (List.length l5 + (1 : Nat) ≤ (17179869184 : Nat)) then bif decide ((0 : Int) ≤ i1) then bif decide (i1 < (↑(List.length l6) : Int)) then Option.bind (Option.bind (some (cellD l6 (Int.toNat i1) (0 : Nat))) (D.int? IntKind.i64)) fun (i13 : Int) => bif decide (List.length l6 + (1 : Nat) ≤ (17179869184 : Nat)) then impl_reached.l6 n m3 m6 l0 i1 (IntKind.wrap IntKind.i64 (i2 + (1 : Int))) (l3 ++ [[D.int IntKind.i64 (Sta.x (mv (Sta.mk i1_1 i2_1 (Die.mk i3 i4 i5 i6 i7 i8)) (byteAt (ByteArray.mk #[(110 : UInt8), (101 : UInt8), (115 : UInt8), (119 : UInt8)]) (Int.toNat i2)))), D.int IntKind.i64 (Sta.y (mv (Sta.mk i1_1 i2_1 (Die.mk i3 i4 i5 i6 i7 i8)) (byteAt (ByteArray.mk #[(110 : UInt8), (101 : UInt8), (115 : UInt8), (119 : UInt8)]) (Int.toNat i2)))), D.int IntKind.i64 (Die.t (Sta.d (mv (Sta.mk i1_1 i2_1 (Die.mk i3 i4 i5 i6 i7 i8)) (byteAt (ByteArray.mk #[(110 : UInt8), (101 : UInt8), (115 : UInt8), (119 : UInt8)]) (Int.toNat i2))))), D.int IntKind.i64 (Die.n (Sta.d (mv (Sta.mk i1_1 i2_1 (Die.mk i3 i4 i5 i6 i7 i8)) (byteAt (ByteArray.mk #[(110 : UInt8), (101 : UInt8), (115 : UInt8), (119 : UInt8)]) (Int.toNat i2))))), D.int IntKind.i64 (Die.e (Sta.d (mv (Sta.mk i1_1 i2_1 (Die.mk i3 i4 i5 i6 i7 i8)) (byteAt (ByteArray.mk #[(110 : UInt8), (101 : UInt8), (115 : UInt8), (119 : UInt8)]) (Int.toNat i2))))), D.int IntKind.i64 (Die.s (Sta.d (mv (Sta.mk i1_1 i2_1 (Die.mk i3 i4 i5 i6 i7 i8)) (byteAt (ByteArray.mk #[(110 : UInt8), (101 : UInt8), (115 : UInt8), (119 : UInt8)]) (Int.toNat i2))))), D.int IntKind.i64 (Die.w (Sta.d (mv (Sta.mk i1_1 i2_1 (Die.mk i3 i4 i5 i6 i7 i8)) (byteAt (ByteArray.mk #[(110 : UInt8), (101 : UInt8), (115 : UInt8), (119 : UInt8)]) (Int.toNat i2))))), D.int IntKind.i64 (Die.b (Sta.d (mv (Sta.mk i1_1 i2_1 (Die.mk i3 i4 i5 i6 i7 i8)) (byteAt (ByteArray.mk #[(110 : UInt8), (101 : UInt8), (115 : UInt8), (119 : UInt8)]) (Int.toNat i2)))))]]) (l4 ++ [[D.int IntKind.i64 i1]]) (l5 ++ [[D.int IntKind.u8 (byteAt (ByteArray.mk #[(110 : UInt8), (101 : UInt8), (115 : UInt8), (119 : UInt8)]) (Int.toNat i2))]]) (l6 ++ [[D.int IntKind.i64 (IntKind.wrap IntKind.i64 (i13 + (1 : Int)))]]) l12 else none else none else none else none else none else none else none else none else none else none else none else none else none else none else none else none else none else impl_reached.l3 n m3 l0 (IntKind.wrap IntKind.i64 (i1 + (1 : Int))) l3 l4 l5 l6 l7 := by kernel_rfl
noncomputable def impl_reached.res (n : Nat) (a0_0 : Int) (a0_1 : Int) (a0_2 : Int) (a0_3 : Int) (a0_4 : Int) (a0_5 : Int) (a0_6 : Int) (a0_7 : Int) (g : List (List D)) : Option (List Q) :=
  impl_reached.l3 n n g (0 : Int) [[D.int IntKind.i64 a0_0, D.int IntKind.i64 a0_1, D.int IntKind.i64 a0_2, D.int IntKind.i64 a0_3, D.int IntKind.i64 a0_4, D.int IntKind.i64 a0_5, D.int IntKind.i64 a0_6, D.int IntKind.i64 a0_7]] [[D.int IntKind.i64 (-1 : Int)]] [[D.int IntKind.u8 (0 : Int)]] [[D.int IntKind.i64 (0 : Int)]] [([D.int IntKind.i64 a0_0, D.int IntKind.i64 a0_1, D.int IntKind.i64 a0_2, D.int IntKind.i64 a0_3, D.int IntKind.i64 a0_4, D.int IntKind.i64 a0_5, D.int IntKind.i64 a0_6, D.int IntKind.i64 a0_7], [D.int IntKind.i64 (0 : Int)])]
theorem impl_reached.run (n : Nat) (a0_0 : Int) (a0_1 : Int) (a0_2 : Int) (a0_3 : Int) (a0_4 : Int) (a0_5 : Int) (a0_6 : Int) (a0_7 : Int) (g : List (List D)) :
    run1 impl_reached.cfg [RK.one (LK.nl D.nilp)] n Tryd.f103 [Q.agg [D.int IntKind.i64 a0_0, D.int IntKind.i64 a0_1, D.int IntKind.i64 a0_2, D.int IntKind.i64 a0_3, D.int IntKind.i64 a0_4, D.int IntKind.i64 a0_5, D.int IntKind.i64 a0_6, D.int IntKind.i64 a0_7], Q.one (D.fn (86 : FuncId) [D.sl (1 : Nat) g] [])] = impl_reached.res n a0_0 a0_1 a0_2 a0_3 a0_4 a0_5 a0_6 a0_7 g := by kernel_rfl
theorem impl_reached.ev {n : Nat} {a0_0 : Int} {a0_1 : Int} {a0_2 : Int} {a0_3 : Int} {a0_4 : Int} {a0_5 : Int} {a0_6 : Int} {a0_7 : Int} {g : List (List D)} {r : List Q} (h : impl_reached.res n a0_0 a0_1 a0_2 a0_3 a0_4 a0_5 a0_6 a0_7 g = some r) : Snd Tryd.prog C0 103 [.agg [.int .i64 a0_0, .int .i64 a0_1, .int .i64 a0_2, .int .i64 a0_3, .int .i64 a0_4, .int .i64 a0_5, .int .i64 a0_6, .int .i64 a0_7], .one (.fn 86 [.sl 1 g] [])] r :=
  snd_ev (C := impl_reached.cfg) cfg0 mix rfl rfl rfl rfl rfl (.cons impl_grid_roll_i.ok .nil) .nil rfl Tryd.func103 (by kernel_rfl) (by kernel_rfl) rfl ((impl_reached.run n a0_0 a0_1 a0_2 a0_3 a0_4 a0_5 a0_6 a0_7 g).trans h)

section
variable {w h : Nat} {l : List ByteArray}
theorem impl_reached.l6_run {n m3 : Nat} (hw : w ≤ 7) (hh : h ≤ 7) (hu : unif (lb l) = true) (hs : smallR l = true) (hld : strC.decs (strC.encs l) = some l) (hp0 : ∀ x y, isFl (lb l) x y = true → 0 ≤ x ∧ x < (w : Int) ∧ 0 ≤ y ∧ y < (h : Int)) :
    ∀ (d dir m k : Nat) (C : List Cr), dir + d = 4 → d < m → k < C.length → CInv w h C → COrd k C →
    impl_reached.l6 n m3 m (strC.encs l) (k : Int) (dir : Int) (stC.encs (C.map Cr.u)) (intC.encs (C.map Cr.bef)) (u8C.encs (C.map Cr.rl)) (intC.encs (C.map Cr.far)) (plM (C.map Cr.u) 0) = impl_reached.l3 n m3 (strC.encs l) ((k + 1 : Nat) : Int) (stC.encs ((visCF (isFl (lb l)) k d dir C).map Cr.u)) (intC.encs ((visCF (isFl (lb l)) k d dir C).map Cr.bef)) (u8C.encs ((visCF (isFl (lb l)) k d dir C).map Cr.rl)) (intC.encs ((visCF (isFl (lb l)) k d dir C).map Cr.far)) (plM ((visCF (isFl (lb l)) k d dir C).map Cr.u) 0) := by
  intro d
  induction d with
  | zero =>
    intro dir m k C hi hm hk hv ho
    obtain ⟨m, rfl⟩ : ∃ m', m = m' + 1 := ⟨m - 1, by omega⟩
    have h1 : ¬ (dir : Int) < 4 := by omega
    have hlen := cinv_big hw hh hv
    rw [impl_reached.l6_eq]
    simp only [h1, decide_false, cond_false, wrap_succ (show k ≤ LIM by unfold LIM; unfold BIG at hlen; omega)]
    rfl
  | succ d ih =>
    intro dir m k C hi hm hk hv ho
    obtain ⟨m, rfl⟩ : ∃ m', m = m' + 1 := ⟨m - 1, by omega⟩
    have hd : dir < 4 := by omega
    have h1 : (dir : Int) < 4 := by omega
    have hlen := cinv_big hw hh hv
    unfold BIG at hlen
    have hku : k < (C.map Cr.u).length := by rw [List.length_map]; exact hk
    have hkf : k < (C.map Cr.far).length := by rw [List.length_map]; exact hk
    have hki : (k : Int) < ((C.length : Nat) : Int) := by omega
    have hk' : C[k]? = some C[k] := List.getElem?_eq_getElem hk
    obtain ⟨c0, c1, c2, c3, c4, c5, c6, c7⟩ := st_cells hku
    have c8 := intC_at hkf
    rw [List.getElem_map] at c0 c1 c2 c3 c4 c5 c6 c7 c8
    have hgd : Gds w h C[k].u := hv.gd C[k] (List.getElem_mem hk)
    have hfar := far_le ho (k + 1) k C[k] (by omega) hk'
    have hwf : IntKind.wrap .i64 (C[k].far + 1) = C[k].far + 1 := wrap_in (by omega) (by omega)
    have gx : inR C[k].u.x 0 6 = true := inr6 hgd.x0 hgd.x1 hw
    have gy : inR C[k].u.y 0 6 = true := inr6 hgd.y0 hgd.y1 hh
    have hl1 : C.length + 1 ≤ 17179869184 := by omega
    obtain ⟨t, ht⟩ : ∃ t, t = rollK C[k].u (dir : Int) := ⟨_, rfl⟩
    have hro : mv ⟨C[k].u.x, C[k].u.y, C[k].u.d⟩ (byteAt (ByteArray.mk #[110, 101, 115, 119]) dir) = t := by
      rw [ht]
      exact Option.some.inj (mvO_dir C[k].u hd)
    have hnv := hv.visit hp0 k (dir : Int)
    obtain ⟨hno, hnl⟩ := ho.visit (p := isFl (lb l)) (dir := (dir : Int)) (by omega)
    have step := ih (dir + 1) m k (visitC (isFl (lb l)) k (dir : Int) C) (by omega) (by omega) (by omega) hnv hno
    rw [show visCF (isFl (lb l)) k (d + 1) dir C = visCF (isFl (lb l)) k d (dir + 1) (visitC (isFl (lb l)) k (dir : Int) C) from rfl]
    refine Eq.trans ?_ step
    have hget := mpGet_pl t (C.map Cr.u) 0
    have hget : mpGet [D.int .i64 t.x, D.int .i64 t.y, D.int .i64 t.d.t, D.int .i64 t.d.n, D.int .i64 t.d.e, D.int .i64 t.d.s, D.int .i64 t.d.w, D.int .i64 t.d.b] (plM (C.map Cr.u) 0) = _ := hget
    have hvis : visitC (isFl (lb l)) k (dir : Int) C = bif isFl (lb l) t.x t.y && !(posOf t (C.map Cr.u)).isSome then C ++ [⟨t, C[k].far + 1, (k : Int), (dir : Int)⟩] else C := by
      unfold visitC
      rw [hk', ht]
    rw [hvis, impl_reached.l6_eq]
    simp only [h1, hki, Cod.encs_len, List.length_map, Int.natCast_nonneg, Int.toNat_natCast, decide_true, cond_true, c0, c1, c2, c3, c4, c5, c6, c7, Option.bind_some, hld, hu, hs, gx, gy, Die.eta, hro, hget, wrap_succ (show dir ≤ LIM by unfold LIM; omega)]
    cases hpos : posOf t (C.map Cr.u) with
    | some j =>
      simp only [Option.map_some, Option.getD_some, Option.isSome_some, Bool.not_true, Bool.and_false, cond_false, cond_true, List.length_singleton, decide_true]
      show (Option.bind (some _) _) = _
      simp only [Option.bind_some]
      cases isFl (lb l) t.x t.y <;> rfl
    | none =>
      simp only [Option.map_none, Option.getD_none, Option.isSome_none, Bool.not_false, Bool.and_true, cond_false, cond_true, List.length_singleton, decide_true]
      show (Option.bind (some _) _) = _
      simp only [Option.bind_some]
      cases hp : isFl (lb l) t.x t.y with
      | false => rfl
      | true =>
        have hset := mpSet_pl t (C.map Cr.u) 0 hpos
        rw [List.length_map, Nat.zero_add] at hset
        have hset : mpSet [D.int .i64 t.x, D.int .i64 t.y, D.int .i64 t.d.t, D.int .i64 t.d.n, D.int .i64 t.d.e, D.int .i64 t.d.s, D.int .i64 t.d.w, D.int .i64 t.d.b] [D.int .i64 ((C.length : Nat) : Int)] (plM (C.map Cr.u) 0) = _ := hset
        have hb : ¬ (k : Int) < 0 := by omega
        have er : (⟨t, C[k].far + 1, (k : Int), (dir : Int)⟩ : Cr).rl = dirL (dir : Int) := by
          unfold Cr.rl
          simp only [hb, decide_false, cond_false]
        simp only [Bool.not_true, cond_false, cond_true, hset, Option.bind_some, hl1, hki, h1, Int.natCast_nonneg, Int.toNat_natCast, decide_true, c8, hwf, byte_dir hd, List.map_append, List.map_cons, List.map_nil, er, stC_snoc, intC_snoc, u8C_snoc]
theorem impl_reached.l3_run {n : Nat} (hn : 4 < n) (hw : w ≤ 7) (hh : h ≤ 7) (hu : unif (lb l) = true) (hs : smallR l = true) (hld : strC.decs (strC.encs l) = some l) (hp0 : ∀ x y, isFl (lb l) x y = true → 0 ≤ x ∧ x < (w : Int) ∧ 0 ≤ y ∧ y < (h : Int)) :
    ∀ (f k m : Nat) (C : List Cr), k + f = BIG → f < m → CInv w h C → COrd k C →
    impl_reached.l3 n m (strC.encs l) (k : Int) (stC.encs (C.map Cr.u)) (intC.encs (C.map Cr.bef)) (u8C.encs (C.map Cr.rl)) (intC.encs (C.map Cr.far)) (plM (C.map Cr.u) 0) = some [Q.one (.pt [.sl 8 (stC.encs ((bfC (isFl (lb l)) f k C).map Cr.u)), .sl 1 (intC.encs ((bfC (isFl (lb l)) f k C).map Cr.bef)), .sl 1 (u8C.encs ((bfC (isFl (lb l)) f k C).map Cr.rl)), .sl 1 (intC.encs ((bfC (isFl (lb l)) f k C).map Cr.far)), .mp (plM ((bfC (isFl (lb l)) f k C).map Cr.u) 0)])] := by
  intro f
  induction f with
  | zero =>
    intro k m C hf hm hv ho
    obtain ⟨m, rfl⟩ : ∃ m', m = m' + 1 := ⟨m - 1, by omega⟩
    have hlen := cinv_big hw hh hv
    have h1 : ¬ (k : Int) < ((C.length : Nat) : Int) := by omega
    rw [impl_reached.l3_eq]
    simp only [Cod.encs_len, List.length_map, h1, decide_false, cond_false]
    rfl
  | succ f ih =>
    intro k m C hf hm hv ho
    obtain ⟨m, rfl⟩ : ∃ m', m = m' + 1 := ⟨m - 1, by omega⟩
    rw [impl_reached.l3_eq, bfC]
    by_cases hk : k < C.length
    · have h1 : (k : Int) < ((C.length : Nat) : Int) := by omega
      have hv4 := hv.visit4 hp0 k
      obtain ⟨ho4, hl4⟩ := ho.visit4 (p := isFl (lb l))
      simp only [Cod.encs_len, List.length_map, h1, hk, decide_true, cond_true]
      refine Eq.trans (impl_reached.l6_run (n := n) (m3 := m) hw hh hu hs hld hp0 4 0 n k C rfl hn hk hv ho) ?_
      rw [visCF4]
      exact ih (k + 1) m (visitC4 (isFl (lb l)) k C) (by omega) (by omega) hv4 (ho4.step (by omega))
    · have h1 : ¬ (k : Int) < ((C.length : Nat) : Int) := by omega
      simp only [Cod.encs_len, List.length_map, h1, hk, decide_false, cond_false]
end
def impl_reached.stub : Stub
  | [.agg [.int .i64 x, .int .i64 y, .int .i64 t, .int .i64 n, .int .i64 e, .int .i64 s, .int .i64 w, .int .i64 b], .one (.fn g [.sl 1 es] [])] => .gd (Nat.beq g 86) (.any (strC.decs es) fun l => .gd (Sp.unif (Sp.lb l)) (.gd (Sp.smallR l) (.gd (Sp.inR x 0 ((Sp.wOf (Sp.lb l) : Int) - 1)) (.gd (Sp.inR y 0 (((Sp.lb l).length : Int) - 1)) (.gd (Sp.Die.good ⟨t, n, e, s, w, b⟩) (.any (some (Sp.wyC (Sp.isFl (Sp.lb l)) ⟨x, y, ⟨t, n, e, s, w, b⟩⟩)) fun C => .ret [.one (.pt [.sl 8 (stC.encs (Sp.usC C)), .sl 1 (intC.encs (Sp.besC C)), .sl 1 (u8C.encs (Sp.rlsC C)), .sl 1 (intC.encs (Sp.fasC C)), .mp (Sp.plU (Sp.usC C))])]))))))
  | _ => .fail
theorem impl_reached.ok : StubOk Tryd.prog C0 103 impl_reached.stub := by
  intro args res hst
  unfold impl_reached.stub at hst
  split at hst
  · rename_i x y t n e s w b g es
    obtain ⟨h0, hst⟩ := gd_out hst
    obtain rfl := Nat.eq_of_beq_eq_true h0
    obtain ⟨l, h1, h0⟩ := any_out hst
    obtain ⟨rfl, hl⟩ := Cod.decs_inv h1
    obtain ⟨h2, h0⟩ := gd_out h0
    obtain ⟨h3, h0⟩ := gd_out h0
    obtain ⟨h5, h0⟩ := gd_out h0
    obtain ⟨h6, h0⟩ := gd_out h0
    obtain ⟨h7, h0⟩ := gd_out h0
    obtain ⟨C, h8, h0⟩ := any_out h0
    obtain rfl := Option.some.inj h8
    cases h0
    obtain ⟨_, _, k1, k2⟩ := small_w h3
    obtain ⟨x0, x6⟩ := inR_out h5
    obtain ⟨y0, y6⟩ := inR_out h6
    obtain ⟨N, hN⟩ : ∃ N, BIG + 64 ≤ N := ⟨BIG + 64, Nat.le_refl _⟩
    refine impl_reached.ev (n := N) ?_
    have hll : (lb l).length = l.length := lb_len l
    have hg : Gds (wOf (lb l)) (lb l).length ⟨x, y, ⟨t, n, e, s, w, b⟩⟩ := ⟨x0, by show x < _; omega, y0, by show y < _; omega, h7⟩
    have key := impl_reached.l3_run (n := N) (l := l) (w := wOf (lb l)) (h := (lb l).length) (by omega) k2 (by omega) h2 h3 h1 (fun _ _ hp => isFl_out hp) BIG 0 N [cr0 ⟨x, y, ⟨t, n, e, s, w, b⟩⟩] (by omega) (by omega) (cr0_inv hg) (cr0_ord _)
    exact key
  · cases hst
end Go.Proofs.EV.PL
set_option linter.unusedVariables false
set_option linter.unusedSimpArgs false
set_option maxHeartbeats 4000000
/-! Words of a search; solutions. -/
namespace Go.Proofs.EV.PL
open Go Go.Proofs Go.Proofs.EV Sp
theorem ext_dir {d : Int} (h : inR d 0 3 = true) : ByteArray.extract (ByteArray.mk #[110, 101, 115, 119]) d.toNat (IntKind.wrap .i64 (d + 1)).toNat = mkB [dirL d] ∧ 0 ≤ IntKind.wrap .i64 (d + 1) ∧ IntKind.wrap .i64 (d + 1) ≤ 4 ∧ 0 ≤ d ∧ d ≤ ((IntKind.wrap .i64 (d + 1)).toNat : Int) := by
  obtain ⟨h0, h3⟩ := inR_out h
  rw [wrap_in (by omega) (by omega)]
  refine ⟨?_, by omega, by omega, h0, by omega⟩
  obtain ⟨D, rfl⟩ := Int.eq_ofNat_of_zero_le h0
  have hD : D < 4 := by omega
  match D, hD with
  | 0, _ => rfl
  | 1, _ => rfl
  | 2, _ => rfl
  | 3, _ => rfl
  | D + 4, h => omega
theorem okN_out {N : List Nd} (h : okN N = true) : lnkB ((N.map Nd.core).map Cr.bef) = true ∧ (∀ h0 : 0 < N.length, N[0].bef < 0) ∧ (∀ (i : Nat) (hi : i < N.length), inR N[i].dir 0 3 = true) := by
  unfold okN at h
  rw [Bool.and_eq_true, Bool.and_eq_true, decide_eq_true_eq] at h
  obtain ⟨h1, h2, h3⟩ := h
  refine ⟨h1, fun h0 => ?_, fun i hi => List.all_eq_true.1 h3 _ (List.getElem_mem hi)⟩
  rw [List.map_map, List.getD_eq_getElem?_getD, List.getElem?_map, List.getElem?_eq_getElem h0] at h2
  exact h2
/-! spec_wyWord -/
theorem nd_bef {N : List Nd} {k : Nat} (hk : k < N.length) : ((N.map Nd.core).map Cr.bef).getD k 0 = N[k].bef := by
  rw [List.map_map, List.getD_eq_getElem?_getD, List.getElem?_map, List.getElem?_eq_getElem hk]; rfl
theorem nd_rl {N : List Nd} {k : Nat} (hk : k < N.length) (h0 : 0 ≤ N[k].bef) : ((N.map Nd.core).map Cr.rl).getD k 0 = dirL N[k].dir := by
  rw [List.map_map, List.getD_eq_getElem?_getD, List.getElem?_map, List.getElem?_eq_getElem hk]
  show N[k].core.rl = _
  unfold Cr.rl
  have : ¬ N[k].core.bef < 0 := by show ¬ N[k].bef < 0; omega
  rw [decide_eq_false this]; rfl
/-! spec_wyFirst -/
def outF (N : List Nd) : Option Nat → List Q
  | some k => [.one (.str (wdN N (k : Int))), .one (.bool true)]
  | none => [.one (.str ⟨#[]⟩), .one (.bool false)]
theorem outF_eq (N : List Nd) (o : Option Nat) : outF N o = [.one (.str (mkO (o.map fun (k : Nat) => wordF ((N.map Nd.core).map Cr.bef) ((N.map Nd.core).map Cr.rl) (k : Int)))), .one (.bool (isSO (o.map fun (k : Nat) => wordF ((N.map Nd.core).map Cr.bef) ((N.map Nd.core).map Cr.rl) (k : Int))))] := by
  cases o <;> rfl
/-! spec_puStates -/
noncomputable def spec_puStates.cfg : Cfg := { C0 with keep := fun | 6 => some [1, 7, 23, 24, 25] | _ => none, nb := 0, M := tabM [(55, spec_puGood.stub), (47, spec_boRead.stub), (71, spec_wyAll.stub), (51, spec_puDone.stub)], MM := tabB [] }
noncomputable def spec_puStates.l6 (n : Nat) (m6 : Nat) (i0 : Int) (i1 : Int) (s2 : ByteArray) (i3 : Int) (i4 : Int) (i5 : Int) (i6 : Int) (i7 : Int) (i8 : Int) (i9 : Int) (i10 : Int) (i11 : Int) (i12 : Int) (i13 : Int) (l14 : List (List D)) : Option (List Q) :=
  loopAt spec_puStates.cfg [RK.own (16 : Nat), RK.one (LK.int IntKind.i64), RK.one LK.bool] n Tryd.f37 [1, 1, 1, 1, 0, 1, 0] [] m6 (St.mk [V.undef, V.rp (0 : Nat) (0 : Nat), V.undef, V.undef, V.undef, V.undef, V.undef, V.rw (1 : Nat), V.undef, V.undef, V.undef, V.undef, V.undef, V.undef, V.undef, V.undef, V.undef, V.undef, V.undef, V.undef, V.undef, V.undef, V.undef, V.rw (1 : Nat), V.one true (D.int IntKind.i64 i0), V.one true (D.int IntKind.i64 i1), V.undef, V.undef, V.undef, V.undef, V.undef, V.undef, V.undef, V.undef, V.undef, V.undef, V.undef, V.undef, V.undef, V.undef] [Ob.box [V.one true (D.str s2), V.one true (D.int IntKind.i64 i3), V.one true (D.int IntKind.i64 i4), V.one true (D.int IntKind.i64 i5), V.one true (D.int IntKind.i64 i6), V.one true (D.int IntKind.i64 i7), V.one true (D.int IntKind.i64 i8), V.one true (D.int IntKind.i64 i9), V.one true (D.int IntKind.i64 i10), V.one true (D.int IntKind.i64 i11), V.one true (D.int IntKind.i64 i12), V.one true (D.int IntKind.i64 i13)], Ob.row false (16 : Nat) l14])
theorem spec_puStates.l6_eq (n : Nat) (m6 : Nat) (i0 : Int) (i1 : Int) (s2 : ByteArray) (i3 : Int) (i4 : Int) (i5 : Int) (i6 : Int) (i7 : Int) (i8 : Int) (i9 : Int) (i10 : Int) (i11 : Int) (i12 : Int) (i13 : Int) (l14 : List (List D)) :
    spec_puStates.l6 n (m6 + 1) i0 i1 s2 i3 i4 i5 i6 i7 i8 i9 i10 i11 i12 i13 l14 = bif decide (i1 < i0) then bif decide ((0 : Int) ≤ i1) then bif decide (i1 < (↑(List.length l14) : Int)) then Option.bind (Option.bind (some (cellD l14 (Int.toNat i1) (0 : Nat))) (D.int? IntKind.i64)) fun (i2 : Int) => Option.bind (Option.bind (some (cellD l14 (Int.toNat i1) (1 : Nat))) (D.int? IntKind.i64)) fun (i3_1 : Int) => Option.bind (Option.bind (some (cellD l14 (Int.toNat i1) (2 : Nat))) (D.int? IntKind.i64)) fun (i4_1 : Int) => Option.bind (Option.bind (some (cellD l14 (Int.toNat i1) (3 : Nat))) (D.int? IntKind.i64)) fun (i5_1 : Int) => Option.bind (Option.bind (some (cellD l14 (Int.toNat i1) (4 : Nat))) (D.int? IntKind.i64)) fun (i6_1 : Int) => Option.bind (Option.bind (some (cellD l14 (Int.toNat i1) (5 : Nat))) (D.int? IntKind.i64)) fun (i7_1 : Int) => Option.bind (Option.bind (some (cellD l14 (Int.toNat i1) (6 : Nat))) (D.int? IntKind.i64)) fun (i8_1 : Int) => Option.bind (Option.bind (some (cellD l14 (Int.toNat i1) (7 : Nat))) (D.int? IntKind.i64)) fun (i9_1 : Int) => Option.bind (Option.bind (some (cellD l14 (Int.toNat i1) (8 : Nat))) (D.int? IntKind.i64)) fun (i10_1 : Int) => Option.bind (Option.bind (some (cellD l14 (Int.toNat i1) (9 : Nat))) (D.int? IntKind.i64)) fun (i11_1 : Int) => Option.bind (Option.bind (some (cellD l14 (Int.toNat i1) (10 : Nat))) (D.int? IntKind.i64)) fun (i12_1 : Int) => Option.bind (Option.bind (some (cellD l14 (Int.toNat i1) (11 : Nat))) (D.int? IntKind.i64)) fun (i13_1 : Int) => Option.bind (Option.bind (some (cellD l14 (Int.toNat i1) (12 : Nat))) (D.int? IntKind.i64)) fun (i14 : Int) => Option.bind (Option.bind (some (cellD l14 (Int.toNat i1) (13 : Nat))) (D.int? IntKind.i64)) fun (i15 : Int) => Option.bind (Option.bind (some (cellD l14 (Int.toNat i1) (14 : Nat))) (D.int? IntKind.i64)) fun (i16 : Int) => Option.bind (Option.bind (some (cellD l14 (Int.toNat i1) (15 : Nat))) (D.int? IntKind.i64)) fun (i17 : Int) => bif doneS i11 i12 i13 (Sta.mk i2 i3_1 (Die.mk i4_1 i5_1 i6_1 i7_1 i8_1 i9_1)) then some [Q.one (D.sl (16 : Nat) l14), Q.one (D.int IntKind.i64 i10_1), Q.one (D.bool (decide (i10_1 ≤ (60 : Int))))] else spec_puStates.l6 n m6 i0 (IntKind.wrap IntKind.i64 (i1 + (1 : Int))) s2 i3 i4 i5 i6 i7 i8 i9 i10 i11 i12 i13 l14 else none else none else some [Q.one (D.sl (16 : Nat) []), Q.one (D.int IntKind.i64 (0 : Int)), Q.one (D.bool false)] := by kernel_rfl
noncomputable def spec_puStates.res (n : Nat) (a0_0 : ByteArray) (a0_1 : Int) (a0_2 : Int) (a0_3 : Int) (a0_4 : Int) (a0_5 : Int) (a0_6 : Int) (a0_7 : Int) (a0_8 : Int) (a0_9 : Int) (a0_10 : Int) (a0_11 : Int) : Option (List Q) :=
  bif !(isBo brd a0_0 && (Die.good (Die.mk a0_3 a0_4 a0_5 a0_6 a0_7 a0_8) && isFl (rws a0_0) a0_1 a0_2) && (isFl (rws a0_0) a0_9 a0_10 && inR a0_11 (0 : Int) (9 : Int))) then some [Q.one (D.sl (16 : Nat) []), Q.one (D.int IntKind.i64 (0 : Int)), Q.one (D.bool false)] else Option.bind (Cod.decs u8C (Cod.encs u8C (boC brd a0_0))) fun (l1 : List UInt8) => bif inR (↑(boW brd a0_0) : Int) (0 : Int) (7 : Int) then bif inR (↑(boH brd a0_0) : Int) (0 : Int) (7 : Int) then bif decide (List.length l1 = Int.toNat (↑(boW brd a0_0) : Int) * Int.toNat (↑(boH brd a0_0) : Int)) then bif inR a0_1 (0 : Int) ((↑(boW brd a0_0) : Int) - (1 : Int)) then bif inR a0_2 (0 : Int) ((↑(boH brd a0_0) : Int) - (1 : Int)) then bif Die.good (Die.mk a0_3 a0_4 a0_5 a0_6 a0_7 a0_8) then spec_puStates.l6 n n (↑(List.length (Cod.encs ndC (wyN (flC (↑(boW brd a0_0) : Int) (↑(boH brd a0_0) : Int) l1) (Sta.mk a0_1 a0_2 (Die.mk a0_3 a0_4 a0_5 a0_6 a0_7 a0_8))))) : Int) (0 : Int) a0_0 a0_1 a0_2 a0_3 a0_4 a0_5 a0_6 a0_7 a0_8 a0_9 a0_10 a0_11 (Cod.encs ndC (wyN (flC (↑(boW brd a0_0) : Int) (↑(boH brd a0_0) : Int) l1) (Sta.mk a0_1 a0_2 (Die.mk a0_3 a0_4 a0_5 a0_6 a0_7 a0_8)))) else none else none else none else none else none else none
theorem spec_puStates.run (n : Nat) (a0_0 : ByteArray) (a0_1 : Int) (a0_2 : Int) (a0_3 : Int) (a0_4 : Int) (a0_5 : Int) (a0_6 : Int) (a0_7 : Int) (a0_8 : Int) (a0_9 : Int) (a0_10 : Int) (a0_11 : Int) :
    run1 spec_puStates.cfg [RK.own (16 : Nat), RK.one (LK.int IntKind.i64), RK.one LK.bool] n Tryd.f37 [Q.agg [D.str a0_0, D.int IntKind.i64 a0_1, D.int IntKind.i64 a0_2, D.int IntKind.i64 a0_3, D.int IntKind.i64 a0_4, D.int IntKind.i64 a0_5, D.int IntKind.i64 a0_6, D.int IntKind.i64 a0_7, D.int IntKind.i64 a0_8, D.int IntKind.i64 a0_9, D.int IntKind.i64 a0_10, D.int IntKind.i64 a0_11]] = spec_puStates.res n a0_0 a0_1 a0_2 a0_3 a0_4 a0_5 a0_6 a0_7 a0_8 a0_9 a0_10 a0_11 := by kernel_rfl
theorem spec_puStates.ev {n : Nat} {a0_0 : ByteArray} {a0_1 : Int} {a0_2 : Int} {a0_3 : Int} {a0_4 : Int} {a0_5 : Int} {a0_6 : Int} {a0_7 : Int} {a0_8 : Int} {a0_9 : Int} {a0_10 : Int} {a0_11 : Int} {r : List Q} (h : spec_puStates.res n a0_0 a0_1 a0_2 a0_3 a0_4 a0_5 a0_6 a0_7 a0_8 a0_9 a0_10 a0_11 = some r) : Snd Tryd.prog C0 37 [.agg [.str a0_0, .int .i64 a0_1, .int .i64 a0_2, .int .i64 a0_3, .int .i64 a0_4, .int .i64 a0_5, .int .i64 a0_6, .int .i64 a0_7, .int .i64 a0_8, .int .i64 a0_9, .int .i64 a0_10, .int .i64 a0_11]] r :=
  snd_ev (C := spec_puStates.cfg) cfg0 mix rfl rfl rfl rfl rfl (.cons spec_puGood.ok (.cons spec_boRead.ok (.cons spec_wyAll.ok (.cons spec_puDone.ok .nil)))) .nil rfl Tryd.func37 (by kernel_rfl) (by kernel_rfl) rfl ((spec_puStates.run n a0_0 a0_1 a0_2 a0_3 a0_4 a0_5 a0_6 a0_7 a0_8 a0_9 a0_10 a0_11).trans h)

def outP (N : List Nd) (o : Option Nat) : List Q := [.one (.sl 16 (ndC.encs (bif isN o then N else []))), .one (.int .i64 (farK (N.map Nd.core) o)), .one (.bool (isN o && decide (farK (N.map Nd.core) o ≤ 60)))]
theorem spec_puStates.l6_run {n : Nat} {N : List Nd} {q : ByteArray} {i3 i4 i5 i6 i7 i8 i9 i10 px py pt : Int} (hl : N.length ≤ LIM) : ∀ (d i m : Nat), i + d = N.length → d < m →
    spec_puStates.l6 n m ((N.length : Nat) : Int) (i : Int) q i3 i4 i5 i6 i7 i8 i9 i10 px py pt (ndC.encs N) = some (outP N (firstC (doneS px py pt) ((N.map Nd.core).drop i) i)) := by
  intro d
  induction d with
  | zero =>
    intro i m hi hm
    obtain ⟨m, rfl⟩ : ∃ m', m = m' + 1 := ⟨m - 1, by omega⟩
    have h1 : ¬ (i : Int) < ((N.length : Nat) : Int) := by omega
    rw [spec_puStates.l6_eq, List.drop_of_length_le (by rw [List.length_map]; omega)]
    simp only [h1, decide_false, cond_false]
    rfl
  | succ d ih =>
    intro i m hi hm
    obtain ⟨m, rfl⟩ : ∃ m', m = m' + 1 := ⟨m - 1, by omega⟩
    have hlt : i < N.length := by omega
    have hltc : i < (N.map Nd.core).length := by rw [List.length_map]; exact hlt
    have h1 : (i : Int) < ((N.length : Nat) : Int) := by omega
    obtain ⟨c0, c1, c2, c3, c4, c5, c6, c7⟩ := nd_cells hlt
    obtain ⟨c8, c9, c10, c11⟩ := nd_cells2 hlt
    obtain ⟨c12, c13, c14, c15⟩ := nd_cells3 hlt
    have step := ih (i + 1) m (by omega) (by omega)
    rw [spec_puStates.l6_eq, List.drop_eq_getElem_cons hltc, firstC, List.getElem_map]
    rw [show (N[i].core.u) = N[i].u from rfl]
    simp only [h1, Cod.encs_len, Int.natCast_nonneg, Int.toNat_natCast, decide_true, cond_true, c0, c1, c2, c3, c4, c5, c6, c7, c8, c9, c10, c11, c12, c13, c14, c15, Option.bind_some, Die.eta, wrap_succ (show i ≤ LIM by omega), step]
    rw [show (Sta.mk N[i].u.x N[i].u.y N[i].u.d) = N[i].u from rfl]
    cases doneS px py pt N[i].u with
    | false => rfl
    | true =>
      simp only [cond_true]
      unfold outP farK
      simp only [List.getElem?_map, List.getElem?_eq_getElem hlt, Option.map_some, Option.getD_some]
      rfl
def spec_puStates.stub : Stub
  | [.agg [.str q, .int .i64 x, .int .i64 y, .int .i64 t, .int .i64 n, .int .i64 e, .int .i64 s, .int .i64 w, .int .i64 b, .int .i64 px, .int .i64 py, .int .i64 pt]] => .ret [.one (.sl 16 (ndC.encs (Sp.puL q ⟨x, y, ⟨t, n, e, s, w, b⟩⟩ px py pt))), .one (.int .i64 (Sp.puF q ⟨x, y, ⟨t, n, e, s, w, b⟩⟩ px py pt)), .one (.bool (Sp.puB q ⟨x, y, ⟨t, n, e, s, w, b⟩⟩ px py pt))]
  | _ => .fail
theorem spec_puStates.ok : StubOk Tryd.prog C0 37 spec_puStates.stub := by
  intro args res h
  unfold spec_puStates.stub at h
  split at h
  · rename_i q x y t n e s w b px py pt
    cases h
    obtain ⟨N, hN⟩ : ∃ N, BIG + 64 ≤ N := ⟨BIG + 64, Nat.le_refl _⟩
    refine spec_puStates.ev (n := N) ?_
    unfold spec_puStates.res puL puF puB puF puK
    rw [show (isBo brd q && (Die.good ⟨t, n, e, s, w, b⟩ && isFl (rws q) x y) && (isFl (rws q) px py && inR pt 0 9)) = pzOk q ⟨x, y, ⟨t, n, e, s, w, b⟩⟩ px py pt from rfl]
    cases hz : pzOk q ⟨x, y, ⟨t, n, e, s, w, b⟩⟩ px py pt with
    | false => rfl
    | true =>
      obtain ⟨ho, hf, hpt⟩ := puz_ok hz
      obtain ⟨hb, hg, hfl, _, _⟩ := okSt_out ho
      obtain ⟨e1, e2, e3, e4, e5, e6, e7⟩ := bo_ok hb
      have e6' : (boC brd q).length = (boW brd q : Int).toNat * (boH brd q : Int).toNat := by rw [Int.toNat_natCast, Int.toNat_natCast, e6]
      have hfl2 : flC (boW brd q : Int) (boH brd q : Int) (boC brd q) x y = true := by rw [fl_eq hb]; exact hfl
      obtain ⟨x0, x1, y0, y1⟩ := flC_gd _ _ hfl2
      have gx : inR x 0 ((boW brd q : Int) - 1) = true := by
        unfold inR
        rw [Bool.and_eq_true, decide_eq_true_eq, decide_eq_true_eq]; omega
      have gy : inR y 0 ((boH brd q : Int) - 1) = true := by
        unfold inR
        rw [Bool.and_eq_true, decide_eq_true_eq, decide_eq_true_eq]; omega
      have hlen := wyN_len ho
      have hlen2 : (wyN (isFl (rws q)) ⟨x, y, ⟨t, n, e, s, w, b⟩⟩).length ≤ LIM := by unfold LIM; unfold BIG at hlen; omega
      have hg : Die.good ⟨t, n, e, s, w, b⟩ = true := hg
      simp only [Bool.not_true, cond_false, cond_true, Cod.decs_encs e7, Option.bind_some, e4, e5, decide_eq_true e6', gx, gy, hg, fl_eq hb, Cod.encs_len]
      have key := spec_puStates.l6_run (n := N) (N := wyN (isFl (rws q)) ⟨x, y, ⟨t, n, e, s, w, b⟩⟩) (q := q) (i3 := x) (i4 := y) (i5 := t) (i6 := n) (i7 := e) (i8 := s) (i9 := w) (i10 := b) (px := px) (py := py) (pt := pt) hlen2 _ 0 N (Nat.zero_add _) (by omega)
      rw [List.drop_zero] at key
      unfold outP at key
      rw [wy_core] at key
      exact key
  · cases h
/-! spec_SolutionOf -/
theorem puB_out {q : ByteArray} {s : Sta} {px py pt : Int} (h : puB q s px py pt = true) : pzOk q s px py pt = true ∧ puL q s px py pt = wyN (isFl (rws q)) s := by
  unfold puB at h
  unfold puL
  rw [Bool.and_eq_true] at h
  refine ⟨?_, by rw [h.1]; rfl⟩
  have h1 := h.1
  unfold puK at h1
  cases hz : pzOk q s px py pt with
  | false => rw [hz] at h1; cases h1
  | true => rfl
theorem solF_none {q : ByteArray} {s : Sta} {px py pt : Int} (h : puB q s px py pt = false) : solF q s px py pt = none := by
  have := solF_puB q s px py pt
  rw [h] at this
  cases hs : solF q s px py pt with
  | none => rfl
  | some l => rw [hs] at this; cases this
/-! spec_LengthOf -/
/-! slices_Reverse_Sbyte_byte -/
noncomputable def slices_Reverse_Sbyte_byte.cfg : Cfg := { C0 with keep := fun | 1 => some [0, 2, 3] | _ => none, nb := 1, M := tabM [], MM := tabB [] }
noncomputable def slices_Reverse_Sbyte_byte.l1 (n : Nat) (m1 : Nat) (i0 : Int) (i1 : Int) (l2 : List (List D)) : Option (List V × List Ob) :=
  loopAtB slices_Reverse_Sbyte_byte.cfg n Tryd.f116 [1, 0] [] m1 (St.mk [V.rw (0 : Nat), V.undef, V.one true (D.int IntKind.i64 i0), V.one true (D.int IntKind.i64 i1), V.undef, V.undef, V.undef, V.undef, V.undef, V.undef, V.undef, V.undef, V.undef, V.undef, V.undef, V.undef, V.undef, V.undef, V.undef, V.undef, V.undef, V.undef, V.undef, V.undef, V.undef, V.undef, V.undef, V.undef] [Ob.row false (1 : Nat) l2])
theorem slices_Reverse_Sbyte_byte.l1_eq (n : Nat) (m1 : Nat) (i0 : Int) (i1 : Int) (l2 : List (List D)) :
    slices_Reverse_Sbyte_byte.l1 n (m1 + 1) i0 i1 l2 = bif decide (i0 < i1) then bif decide ((0 : Int) ≤ i1) then bif decide (i1 < (↑(List.length l2) : Int)) then Option.bind (Option.bind (some (cellD l2 (Int.toNat i1) (0 : Nat))) (D.int? IntKind.u8)) fun (i1_1 : Int) => bif decide ((0 : Int) ≤ i0) then bif decide (i0 < (↑(List.length l2) : Int)) then Option.bind (Option.bind (some (cellD l2 (Int.toNat i0) (0 : Nat))) (D.int? IntKind.u8)) fun (i2 : Int) => bif decide ((0 : Int) ≤ i0) then bif decide (i0 < (↑(List.length l2) : Int)) then bif decide ((0 : Int) ≤ i1) then bif decide (i1 < (↑(List.length (setRow (1 : Nat) l2 (Int.toNat i0) (0 : Nat) [D.int IntKind.u8 i1_1])) : Int)) then slices_Reverse_Sbyte_byte.l1 n m1 (IntKind.wrap IntKind.i64 (i0 + (1 : Int))) (IntKind.wrap IntKind.i64 (i1 - (1 : Int))) (setRow (1 : Nat) (setRow (1 : Nat) l2 (Int.toNat i0) (0 : Nat) [D.int IntKind.u8 i1_1]) (Int.toNat i1) (0 : Nat) [D.int IntKind.u8 i2]) else none else none else none else none else none else none else none else none else some ([], [Ob.row false (1 : Nat) l2]) := by kernel_rfl
noncomputable def slices_Reverse_Sbyte_byte.res (n : Nat) (es : List (List D)) : Option (List V × List Ob) :=
  slices_Reverse_Sbyte_byte.l1 n n (0 : Int) (IntKind.wrap IntKind.i64 ((↑(List.length es) : Int) - (1 : Int))) es
theorem slices_Reverse_Sbyte_byte.run (n : Nat) (es : List (List D)) :
    (fun p : List V × List Ob => runB slices_Reverse_Sbyte_byte.cfg n Tryd.f116 p.1 p.2) ([V.rw (0 : Nat)], [Ob.row false (1 : Nat) es]) = slices_Reverse_Sbyte_byte.res n es := by kernel_rfl
theorem slices_Reverse_Sbyte_byte.ev {n : Nat} {es : List (List D)} {r : List V} {o : List Ob} (h : slices_Reverse_Sbyte_byte.res n es = some (r, o)) : SndB Tryd.prog C0 116 [.rw 0] [.row false 1 es] r o :=
  sndB_ev (C := slices_Reverse_Sbyte_byte.cfg) cfg0 mix rfl rfl rfl rfl rfl .nil .nil Tryd.func116 (by kernel_rfl) (by kernel_rfl) rfl ((slices_Reverse_Sbyte_byte.run n es).trans h)

theorem slices_Reverse_Sbyte_byte.l1_run {n : Nat} {l : List UInt8} (hl : l.length ≤ LIM) : ∀ (d k m : Nat) (i1 : Int), 2 * k ≤ l.length → l.length < 2 * k + d → d < m → i1 = (l.length : Int) - 1 - (k : Int) →
    slices_Reverse_Sbyte_byte.l1 n m (k : Int) i1 (u8C.encs (swp l k)) = some ([], [Ob.row false 1 (u8C.encs l.reverse)]) := by
  intro d
  induction d with
  | zero => intro k m i1 h1 h2; omega
  | succ d ih =>
    intro k m i1 h1 h2 h3 h4
    obtain ⟨m, rfl⟩ : ∃ m', m = m' + 1 := ⟨m - 1, by omega⟩
    rw [slices_Reverse_Sbyte_byte.l1_eq]
    by_cases hk : 2 * k + 2 ≤ l.length
    · obtain ⟨j, hj⟩ : ∃ j, j = l.length - 1 - k := ⟨_, rfl⟩
      obtain rfl : i1 = (j : Int) := by omega
      have hL := swp_len l (k := k) h1
      have hjl : j < (swp l k).length := by omega
      have hkl : k < (swp l k).length := by omega
      have g1 : (k : Int) < (j : Int) := by omega
      have g2 : (j : Int) < (((swp l k).length : Nat) : Int) := by omega
      have g3 : (k : Int) < (((swp l k).length : Nat) : Int) := by omega
      have g4 : (j : Int) < ((((swp l k).set k (swp l k)[j]).length : Nat) : Int) := by rw [List.length_set]; omega
      have w1 : IntKind.wrap .i64 ((j : Int) - 1) = ((j - 1 : Nat) : Int) := by
        unfold LIM at hl
        rw [wrap_in (by omega) (by omega)]; omega
      have hs := swp_succ l (k := k) hk (a := (swp l k)[k]) (b := (swp l k)[j]) (List.getElem?_eq_getElem hkl) (by rw [← hj]; exact List.getElem?_eq_getElem hjl)
      rw [← hj] at hs
      have step := ih (k + 1) m ((j - 1 : Nat) : Int) (by omega) (by omega) (by omega) (by omega)
      simp only [g1, g2, g3, g4, Cod.encs_len, Int.natCast_nonneg, Int.toNat_natCast, decide_true, cond_true, u8C_cell hjl, u8C_cell hkl, Option.bind_some, u8C_set, hs, wrap_succ (show k ≤ LIM by omega), w1]
      exact step
    · have g1 : ¬ (k : Int) < i1 := by omega
      simp only [g1, decide_false, cond_false]
      rw [swp_end l h1 (by omega)]
def slices_Reverse_Sbyte_byte.stub : StubB
  | [.rw 0], [.row false 1 es] => .any (u8C.decs es) fun l => .ret ([], [.row false 1 (u8C.encs (Sp.rev8 l))])
  | _, _ => .fail
theorem slices_Reverse_Sbyte_byte.ok : StubBOk Tryd.prog C0 116 slices_Reverse_Sbyte_byte.stub := by
  intro args objs res objs' h
  unfold slices_Reverse_Sbyte_byte.stub at h
  split at h
  · rename_i es
    obtain ⟨l, h1, h0⟩ := any_out h
    obtain ⟨rfl, hl⟩ := Cod.decs_inv h1
    cases h0
    refine slices_Reverse_Sbyte_byte.ev (n := l.length + 2) ?_
    unfold slices_Reverse_Sbyte_byte.res
    have key := slices_Reverse_Sbyte_byte.l1_run (n := l.length + 2) hl (l.length + 1) 0 (l.length + 2) ((l.length : Int) - 1) (by omega) (by omega) (by omega) (by omega)
    rw [swp_zero] at key
    unfold LIM at hl
    rw [Cod.encs_len, wrap_in (by omega) (by omega)]
    exact key
  · cases h
/-! impl_reach_word -/
noncomputable def impl_reach_word.cfg : Cfg := { C0 with bor := fun f => Nat.beq f 116, news := fun _ => 0, keep := fun | 2 => some [0, 1, 6] | _ => none, nb := 0, M := tabM [], MM := tabB [(116, slices_Reverse_Sbyte_byte.stub)] }
noncomputable def impl_reach_word.l2 (n : Nat) (m2 : Nat) (l0 : List (List D)) (l1 : List (List D)) (l2 : List (List D)) (l3 : List (List D)) (l4 : List (List D × List D)) (i5 : Int) (l6 : List (List D)) : Option (List Q) :=
  loopAt impl_reach_word.cfg [RK.one LK.str, RK.one LK.bool] n Tryd.f101 [1, 1, 0, 0] [] m2 (St.mk [V.one false (D.pt [D.sl (8 : Nat) l0, D.sl (1 : Nat) l1, D.sl (1 : Nat) l2, D.sl (1 : Nat) l3, D.mp l4]), V.one true (D.int IntKind.i64 i5), V.undef, V.undef, V.undef, V.undef, V.rw (0 : Nat), V.undef, V.undef, V.undef, V.undef, V.undef, V.undef, V.undef, V.undef, V.undef, V.undef, V.undef, V.undef, V.undef, V.undef, V.undef, V.undef, V.undef, V.undef, V.undef, V.undef, V.undef, V.undef, V.undef, V.undef, V.undef, V.undef, V.undef] [Ob.row false (1 : Nat) l6])
theorem impl_reach_word.l2_eq (n : Nat) (m2 : Nat) (l0 : List (List D)) (l1 : List (List D)) (l2 : List (List D)) (l3 : List (List D)) (l4 : List (List D × List D)) (i5 : Int) (l6 : List (List D)) :
    impl_reach_word.l2 n (m2 + 1) l0 l1 l2 l3 l4 i5 l6 = bif decide (i5 > (0 : Int)) then bif decide ((0 : Int) ≤ i5) then bif decide (i5 < (↑(List.length l2) : Int)) then Option.bind (Option.bind (some (cellD l2 (Int.toNat i5) (0 : Nat))) (D.int? IntKind.u8)) fun (i1 : Int) => bif decide (List.length l6 + (1 : Nat) ≤ (17179869184 : Nat)) then bif decide ((0 : Int) ≤ i5) then bif decide (i5 < (↑(List.length l1) : Int)) then Option.bind (Option.bind (some (cellD l1 (Int.toNat i5) (0 : Nat))) (D.int? IntKind.i64)) fun (i2 : Int) => impl_reach_word.l2 n m2 l0 l1 l2 l3 l4 i2 (l6 ++ [[D.int IntKind.u8 i1]]) else none else none else none else none else none else Option.bind (Cod.decs u8C l6) fun (l3 : List UInt8) => bif decide ((↑(List.length (Cod.encs u8C (rev8 l3))) : Int) > (60 : Int)) then some [Q.one (D.str (ByteArray.mk #[])), Q.one (D.bool false)] else Option.bind (Option.map (fun (l : List UInt8) => ByteArray.mk (List.toArray l)) (rowStr? (Cod.encs u8C (rev8 l3)))) fun (s4 : ByteArray) => some [Q.one (D.str s4), Q.one (D.bool true)] := by kernel_rfl
noncomputable def impl_reach_word.res (n : Nat) (a : List (List D)) (f : List (List D)) (rr : List (List D)) (fa : List (List D)) (mp : List (List D × List D)) (a1 : Int) : Option (List Q) :=
  impl_reach_word.l2 n n a f rr fa mp a1 []
theorem impl_reach_word.run (n : Nat) (a : List (List D)) (f : List (List D)) (rr : List (List D)) (fa : List (List D)) (mp : List (List D × List D)) (a1 : Int) :
    run1 impl_reach_word.cfg [RK.one LK.str, RK.one LK.bool] n Tryd.f101 [Q.one (D.pt [D.sl (8 : Nat) a, D.sl (1 : Nat) f, D.sl (1 : Nat) rr, D.sl (1 : Nat) fa, D.mp mp]), Q.one (D.int IntKind.i64 a1)] = impl_reach_word.res n a f rr fa mp a1 := by kernel_rfl
theorem impl_reach_word.ev {n : Nat} {a : List (List D)} {f : List (List D)} {rr : List (List D)} {fa : List (List D)} {mp : List (List D × List D)} {a1 : Int} {r : List Q} (h : impl_reach_word.res n a f rr fa mp a1 = some r) : Snd Tryd.prog C0 101 [.one (.pt [.sl 8 a, .sl 1 f, .sl 1 rr, .sl 1 fa, .mp mp]), .one (.int .i64 a1)] r :=
  snd_ev (C := impl_reach_word.cfg) cfg0 mix rfl rfl rfl rfl rfl .nil (.cons slices_Reverse_Sbyte_byte.ok .nil) rfl Tryd.func101 (by kernel_rfl) (by kernel_rfl) rfl ((impl_reach_word.run n a f rr fa mp a1).trans h)

def outW (l : List UInt8) : List Q := [.one (.str (mkO (bif decide (l.length ≤ 60) then some l.reverse else none))), .one (.bool (isSO (bif decide (l.length ≤ 60) then some l.reverse else none)))]
theorem impl_reach_word.l2_run {n : Nat} {a fa : List (List D)} {mp : List (List D × List D)} {F : List Int} {R : List UInt8} (hF : lnkB F = true) (hR : F.length = R.length) : ∀ (m k : Nat) (acc : List UInt8), k < F.length → k < m → acc.length + k ≤ LIM →
    impl_reach_word.l2 n m a (intC.encs F) (u8C.encs R) fa mp (k : Int) (u8C.encs acc) = some (outW (acc ++ wrev F R (k + 1) (k : Int))) := by
  intro m
  induction m with
  | zero => intro k acc _ h _; omega
  | succ m ih =>
    intro k acc hk hm ha
    rw [impl_reach_word.l2_eq, wrev]
    by_cases h0 : 0 < k
    · have hb := lnkB_out hF hk h0
      obtain ⟨j, hj⟩ := Int.eq_ofNat_of_zero_le hb.1
      have hkR : k < R.length := by omega
      have h1 : (k : Int) > 0 := by omega
      have h1' : (0 : Int) < (k : Int) := by omega
      have h2 : (k : Int) < ((R.length : Nat) : Int) := by omega
      have h3 : (k : Int) < ((F.length : Nat) : Int) := by omega
      have h4 : acc.length + 1 ≤ 17179869184 := by unfold LIM at ha; omega
      have eF : F[k] = (j : Int) := by
        rw [← hj, List.getD_eq_getElem?_getD, List.getElem?_eq_getElem hk]; rfl
      have eR : R.getD k 0 = R[k] := by rw [List.getD_eq_getElem?_getD, List.getElem?_eq_getElem hkR]; rfl
      have step := ih j (acc ++ [R[k]]) (by omega) (by omega) (by rw [List.length_append, List.length_singleton]; omega)
      simp only [h1, h1', h2, h3, h4, Cod.encs_len, Int.natCast_nonneg, Int.toNat_natCast, decide_true, cond_true, u8C_cell hkR, intC_at hk, eF, Option.bind_some, u8C_snoc, eR, hj]
      rw [step, wrev_fuel hF _ k (j + 1) (j : Int) (by omega) (by omega) (by omega) (by omega), List.append_assoc]
      rfl
    · obtain rfl : k = 0 := by omega
      have h1 : ¬ ((0 : Nat) : Int) > 0 := by omega
      have h1' : ¬ (0 : Int) < ((0 : Nat) : Int) := by omega
      simp only [h1, h1', decide_false, cond_false, List.append_nil, Cod.decs_encs (c := u8C) (l := acc) (by omega), Option.bind_some, Cod.encs_len, rowStr_u8, Option.map_some]
      unfold outW
      by_cases hl : acc.length ≤ 60
      · have g : ¬ (((rev8 acc).length : Nat) : Int) > 60 := by
          unfold rev8
          rw [List.length_reverse]; omega
        simp only [g, hl, decide_true, decide_false, cond_true, cond_false]
        rfl
      · have g : (((rev8 acc).length : Nat) : Int) > 60 := by
          unfold rev8
          rw [List.length_reverse]; omega
        simp only [g, hl, decide_true, decide_false, cond_true, cond_false]
        rfl
def impl_reach_word.stub : Stub
  | [.one (.pt [.sl 8 _, .sl 1 f, .sl 1 r, .sl 1 _, .mp _]), .one (.int .i64 k)] => .any (intC.decs f) fun F => .any (u8C.decs r) fun R => .gd (Sp.lnkB F) (.gd (decide (F.length = R.length)) (.gd (Sp.inR k 0 ((F.length : Int) - 1)) (.ret [.one (.str (Sp.mkO (Sp.w60 F R k))), .one (.bool (Sp.isSO (Sp.w60 F R k)))])))
  | _ => .fail
theorem impl_reach_word.ok : StubOk Tryd.prog C0 101 impl_reach_word.stub := by
  intro args res h
  unfold impl_reach_word.stub at h
  split at h
  · rename_i a f r fa mp k
    obtain ⟨F, h1, h0⟩ := any_out h
    obtain ⟨R, h2, h0⟩ := any_out h0
    obtain ⟨h3, h0⟩ := gd_out h0
    obtain ⟨h4, h0⟩ := gd_out h0
    obtain ⟨h5, h0⟩ := gd_out h0
    cases h0
    obtain ⟨rfl, hl⟩ := Cod.decs_inv h1
    obtain ⟨rfl, hl2⟩ := Cod.decs_inv h2
    obtain ⟨k0, k1⟩ := inR_out h5
    obtain ⟨K, rfl⟩ := Int.eq_ofNat_of_zero_le k0
    refine impl_reach_word.ev (n := F.length) ?_
    have key := impl_reach_word.l2_run (n := F.length) (a := a) (fa := fa) (mp := mp) h3 (of_decide_eq_true h4) F.length K [] (by omega) (by omega) (by simp; omega)
    rw [List.nil_append, wrev_fuel h3 _ (K + 1) F.length (K : Int) (by omega) (by omega) (by omega) (by omega)] at key
    refine Eq.trans key ?_
    unfold outW w60 wordF
    rw [List.length_reverse]
  · cases h
/-! impl_WayToTop_1 -/
noncomputable def impl_WayToTop_1.cfg : Cfg := { C0 with keep := fun _ => none, nb := 0, M := tabM [(77, impl_State_isAt.stub)], MM := tabB [] }
noncomputable def impl_WayToTop_1.res (n : Nat) (a0_0 : Int) (a0_1 : Int) (a0_2 : Int) (a0_3 : Int) (a0_4 : Int) (a0_5 : Int) (a0_6 : Int) (a0_7 : Int) (px : Int) (py : Int) (pt : Int) : Option (List Q) :=
  bif decide (a0_0 = px) && decide (a0_1 = py) then some [Q.one (D.bool (a0_2 == pt))] else some [Q.one (D.bool false)]
theorem impl_WayToTop_1.run (n : Nat) (a0_0 : Int) (a0_1 : Int) (a0_2 : Int) (a0_3 : Int) (a0_4 : Int) (a0_5 : Int) (a0_6 : Int) (a0_7 : Int) (px : Int) (py : Int) (pt : Int) :
    run1 impl_WayToTop_1.cfg [RK.one LK.bool] n Tryd.f76 [Q.agg [D.int IntKind.i64 a0_0, D.int IntKind.i64 a0_1, D.int IntKind.i64 a0_2, D.int IntKind.i64 a0_3, D.int IntKind.i64 a0_4, D.int IntKind.i64 a0_5, D.int IntKind.i64 a0_6, D.int IntKind.i64 a0_7], Q.one (D.pt [D.int IntKind.i64 px]), Q.one (D.pt [D.int IntKind.i64 py]), Q.one (D.pt [D.int IntKind.i64 pt])] = impl_WayToTop_1.res n a0_0 a0_1 a0_2 a0_3 a0_4 a0_5 a0_6 a0_7 px py pt := by kernel_rfl
theorem impl_WayToTop_1.ev {n : Nat} {a0_0 : Int} {a0_1 : Int} {a0_2 : Int} {a0_3 : Int} {a0_4 : Int} {a0_5 : Int} {a0_6 : Int} {a0_7 : Int} {px : Int} {py : Int} {pt : Int} {r : List Q} (h : impl_WayToTop_1.res n a0_0 a0_1 a0_2 a0_3 a0_4 a0_5 a0_6 a0_7 px py pt = some r) : Snd Tryd.prog C0 76 [.agg [.int .i64 a0_0, .int .i64 a0_1, .int .i64 a0_2, .int .i64 a0_3, .int .i64 a0_4, .int .i64 a0_5, .int .i64 a0_6, .int .i64 a0_7], .one (.pt [.int .i64 px]), .one (.pt [.int .i64 py]), .one (.pt [.int .i64 pt])] r :=
  snd_ev (C := impl_WayToTop_1.cfg) cfg0 mix rfl rfl rfl rfl rfl (.cons impl_State_isAt.ok .nil) .nil rfl Tryd.func76 (by kernel_rfl) (by kernel_rfl) rfl ((impl_WayToTop_1.run n a0_0 a0_1 a0_2 a0_3 a0_4 a0_5 a0_6 a0_7 px py pt).trans h)

def impl_WayToTop_1.stub : Stub
  | [.agg [.int .i64 x, .int .i64 y, .int .i64 t, .int .i64 n, .int .i64 e, .int .i64 s, .int .i64 w, .int .i64 b], .one (.pt [.int .i64 px]), .one (.pt [.int .i64 py]), .one (.pt [.int .i64 pt])] => .ret [.one (.bool (Sp.doneS px py pt ⟨x, y, ⟨t, n, e, s, w, b⟩⟩))]
  | _ => .fail
theorem impl_WayToTop_1.ok : StubOk Tryd.prog C0 76 impl_WayToTop_1.stub := by
  intro args res h
  unfold impl_WayToTop_1.stub at h
  split at h
  · rename_i x y t n e s w b px py pt
    cases h
    refine impl_WayToTop_1.ev (n := 0) ?_
    unfold impl_WayToTop_1.res doneS
    simp only [ieq]
    cases decide (x = px) <;> cases decide (y = py) <;> rfl
  · cases h
/-! IndexFuncW -/
noncomputable def IndexFuncW.cfg : Cfg := { C0 with keep := fun | 2 => some [0, 1, 7, 8] | _ => none, nb := 0, M := tabM [(76, impl_WayToTop_1.stub)], MM := tabB [] }
noncomputable def IndexFuncW.l2 (n : Nat) (m2 : Nat) (l0 : List (List D)) (i1 : Int) (i2 : Int) (i3 : Int) (i4 : Int) (i5 : Int) : Option (List Q) :=
  loopAt IndexFuncW.cfg [RK.one (LK.int IntKind.i64)] n Tryd.f100 [1, 0, 1, 0] [] m2 (St.mk [V.one false (D.sl (8 : Nat) l0), V.one false (D.fn (76 : Nat) [] [D.pt [D.int IntKind.i64 i1], D.pt [D.int IntKind.i64 i2], D.pt [D.int IntKind.i64 i3]]), V.undef, V.undef, V.undef, V.undef, V.undef, V.one true (D.int IntKind.i64 i4), V.one true (D.int IntKind.i64 i5), V.undef, V.undef, V.undef, V.undef, V.undef, V.undef, V.undef, V.undef, V.undef, V.undef] [])
theorem IndexFuncW.l2_eq (n : Nat) (m2 : Nat) (l0 : List (List D)) (i1 : Int) (i2 : Int) (i3 : Int) (i4 : Int) (i5 : Int) :
    IndexFuncW.l2 n (m2 + 1) l0 i1 i2 i3 i4 i5 = bif decide (i5 < i4) then bif decide ((0 : Int) ≤ i5) then bif decide (i5 < (↑(List.length l0) : Int)) then Option.bind (Option.bind (some (cellD l0 (Int.toNat i5) (0 : Nat))) (D.int? IntKind.i64)) fun (i1_1 : Int) => Option.bind (Option.bind (some (cellD l0 (Int.toNat i5) (1 : Nat))) (D.int? IntKind.i64)) fun (i2_1 : Int) => Option.bind (Option.bind (some (cellD l0 (Int.toNat i5) (2 : Nat))) (D.int? IntKind.i64)) fun (i3_1 : Int) => Option.bind (Option.bind (some (cellD l0 (Int.toNat i5) (3 : Nat))) (D.int? IntKind.i64)) fun (i4_1 : Int) => Option.bind (Option.bind (some (cellD l0 (Int.toNat i5) (4 : Nat))) (D.int? IntKind.i64)) fun (i5_1 : Int) => Option.bind (Option.bind (some (cellD l0 (Int.toNat i5) (5 : Nat))) (D.int? IntKind.i64)) fun (i6 : Int) => Option.bind (Option.bind (some (cellD l0 (Int.toNat i5) (6 : Nat))) (D.int? IntKind.i64)) fun (i7 : Int) => Option.bind (Option.bind (some (cellD l0 (Int.toNat i5) (7 : Nat))) (D.int? IntKind.i64)) fun (i8 : Int) => bif doneS i1 i2 i3 (Sta.mk i1_1 i2_1 (Die.mk i3_1 i4_1 i5_1 i6 i7 i8)) then some [Q.one (D.int IntKind.i64 i5)] else IndexFuncW.l2 n m2 l0 i1 i2 i3 i4 (IntKind.wrap IntKind.i64 (i5 + (1 : Int))) else none else none else some [Q.one (D.int IntKind.i64 (-1 : Int))] := by kernel_rfl
noncomputable def IndexFuncW.res (n : Nat) (a0 : List (List D)) (px : Int) (py : Int) (pt : Int) : Option (List Q) :=
  IndexFuncW.l2 n n a0 px py pt (↑(List.length a0) : Int) (0 : Int)
theorem IndexFuncW.run (n : Nat) (a0 : List (List D)) (px : Int) (py : Int) (pt : Int) :
    run1 IndexFuncW.cfg [RK.one (LK.int IntKind.i64)] n Tryd.f100 [Q.one (D.sl (8 : Nat) a0), Q.one (D.fn (76 : FuncId) [] [D.pt [D.int IntKind.i64 px], D.pt [D.int IntKind.i64 py], D.pt [D.int IntKind.i64 pt]])] = IndexFuncW.res n a0 px py pt := by kernel_rfl
theorem IndexFuncW.ev {n : Nat} {a0 : List (List D)} {px : Int} {py : Int} {pt : Int} {r : List Q} (h : IndexFuncW.res n a0 px py pt = some r) : Snd Tryd.prog C0 100 [.one (.sl 8 a0), .one (.fn 76 [] [.pt [.int .i64 px], .pt [.int .i64 py], .pt [.int .i64 pt]])] r :=
  snd_ev (C := IndexFuncW.cfg) cfg0 mix rfl rfl rfl rfl rfl (.cons impl_WayToTop_1.ok .nil) .nil rfl Tryd.func100 (by kernel_rfl) (by kernel_rfl) rfl ((IndexFuncW.run n a0 px py pt).trans h)

theorem IndexFuncW.l2_run {n : Nat} {px py pt : Int} {L : List Sta} (hL : L.length ≤ LIM) : ∀ (d i m : Nat), i + d = L.length → d < m →
    IndexFuncW.l2 n m (stC.encs L) px py pt ((L.length : Nat) : Int) (i : Int) = some [Q.one (.int .i64 (ixO (firstAt px py pt (L.drop i) i)))] := by
  intro d
  induction d with
  | zero =>
    intro i m hi hm
    obtain ⟨m, rfl⟩ : ∃ m', m = m' + 1 := ⟨m - 1, by omega⟩
    have h1 : ¬ (i : Int) < ((L.length : Nat) : Int) := by omega
    rw [IndexFuncW.l2_eq, List.drop_of_length_le (by omega)]
    simp only [h1, decide_false, cond_false]
    rfl
  | succ d ih =>
    intro i m hi hm
    obtain ⟨m, rfl⟩ : ∃ m', m = m' + 1 := ⟨m - 1, by omega⟩
    have hlt : i < L.length := by omega
    have h1 : (i : Int) < ((L.length : Nat) : Int) := by omega
    obtain ⟨c0, c1, c2, c3, c4, c5, c6, c7⟩ := st_cells hlt
    have step := ih (i + 1) m (by omega) (by omega)
    rw [IndexFuncW.l2_eq, List.drop_eq_getElem_cons hlt, firstAt]
    simp only [h1, Cod.encs_len, Int.natCast_nonneg, Int.toNat_natCast, decide_true, cond_true, c0, c1, c2, c3, c4, c5, c6, c7, Option.bind_some, Die.eta, wrap_succ (show i ≤ LIM by omega), step]
    rw [show (Sta.mk L[i].x L[i].y L[i].d) = L[i] from rfl]
    cases doneS px py pt L[i] <;> rfl
def IndexFuncW.stub : Stub
  | [.one (.sl 8 es), .one (.fn g [] [.pt [.int .i64 px], .pt [.int .i64 py], .pt [.int .i64 pt]])] => .gd (Nat.beq g 76) (.any (stC.decs es) fun l => .ret [.one (.int .i64 (Sp.ixO (Sp.firstU px py pt l 0)))])
  | _ => .fail
theorem IndexFuncW.ok : StubOk Tryd.prog C0 100 IndexFuncW.stub := by
  intro args res h
  unfold IndexFuncW.stub at h
  split at h
  · rename_i es g px py pt
    obtain ⟨h0, h⟩ := gd_out h
    obtain rfl := Nat.eq_of_beq_eq_true h0
    obtain ⟨l, h1, h0⟩ := any_out h
    obtain ⟨rfl, hl⟩ := Cod.decs_inv h1
    cases h0
    refine IndexFuncW.ev (n := l.length + 1) ?_
    unfold IndexFuncW.res
    rw [Cod.encs_len]
    exact IndexFuncW.l2_run (n := l.length + 1) hl l.length 0 (l.length + 1) (by omega) (by omega)
  · cases h
/-! impl_reach_wordTo -/
noncomputable def impl_reach_wordTo.cfg : Cfg := { C0 with keep := fun _ => none, nb := 0, M := tabM [(101, impl_reach_word.stub), (100, IndexFuncW.stub)], MM := tabB [] }
noncomputable def impl_reach_wordTo.res (n : Nat) (a : List (List D)) (f : List (List D)) (rr : List (List D)) (fa : List (List D)) (mp : List (List D × List D)) (px : Int) (py : Int) (pt : Int) : Option (List Q) :=
  Option.bind (Cod.decs stC a) fun (l1 : List Sta) => bif decide (ixO (firstU px py pt l1 (0 : Nat)) < (0 : Int)) then some [Q.one (D.str (ByteArray.mk #[])), Q.one (D.bool false)] else Option.bind (Cod.decs intC f) fun (l2 : List Int) => Option.bind (Cod.decs u8C rr) fun (l3 : List UInt8) => bif lnkB l2 then bif decide (List.length l2 = List.length l3) then bif inR (ixO (firstU px py pt l1 (0 : Nat))) (0 : Int) ((↑(List.length l2) : Int) - (1 : Int)) then some [Q.one (D.str (mkO (w60 l2 l3 (ixO (firstU px py pt l1 (0 : Nat)))))), Q.one (D.bool (isSO (w60 l2 l3 (ixO (firstU px py pt l1 (0 : Nat))))))] else none else none else none
theorem impl_reach_wordTo.run (n : Nat) (a : List (List D)) (f : List (List D)) (rr : List (List D)) (fa : List (List D)) (mp : List (List D × List D)) (px : Int) (py : Int) (pt : Int) :
    run1 impl_reach_wordTo.cfg [RK.one LK.str, RK.one LK.bool] n Tryd.f75 [Q.one (D.pt [D.sl (8 : Nat) a, D.sl (1 : Nat) f, D.sl (1 : Nat) rr, D.sl (1 : Nat) fa, D.mp mp]), Q.one (D.fn (76 : FuncId) [] [D.pt [D.int IntKind.i64 px], D.pt [D.int IntKind.i64 py], D.pt [D.int IntKind.i64 pt]])] = impl_reach_wordTo.res n a f rr fa mp px py pt := by kernel_rfl
theorem impl_reach_wordTo.ev {n : Nat} {a : List (List D)} {f : List (List D)} {rr : List (List D)} {fa : List (List D)} {mp : List (List D × List D)} {px : Int} {py : Int} {pt : Int} {r : List Q} (h : impl_reach_wordTo.res n a f rr fa mp px py pt = some r) : Snd Tryd.prog C0 75 [.one (.pt [.sl 8 a, .sl 1 f, .sl 1 rr, .sl 1 fa, .mp mp]), .one (.fn 76 [] [.pt [.int .i64 px], .pt [.int .i64 py], .pt [.int .i64 pt]])] r :=
  snd_ev (C := impl_reach_wordTo.cfg) cfg0 mix rfl rfl rfl rfl rfl (.cons impl_reach_word.ok (.cons IndexFuncW.ok .nil)) .nil rfl Tryd.func75 (by kernel_rfl) (by kernel_rfl) rfl ((impl_reach_wordTo.run n a f rr fa mp px py pt).trans h)

def impl_reach_wordTo.stub : Stub
  | [.one (.pt [.sl 8 es, .sl 1 f, .sl 1 r, .sl 1 _, .mp _]), .one (.fn g [] [.pt [.int .i64 px], .pt [.int .i64 py], .pt [.int .i64 pt]])] => .gd (Nat.beq g 76) (.any (stC.decs es) fun l => .any (intC.decs f) fun F => .any (u8C.decs r) fun R => .gd (Sp.lnkB F) (.gd (decide (F.length = R.length)) (.gd (decide (l.length = R.length)) (.ret [.one (.str (Sp.mkO (Sp.frsU px py pt l F R))), .one (.bool (Sp.isSO (Sp.frsU px py pt l F R)))]))))
  | _ => .fail
theorem impl_reach_wordTo.ok : StubOk Tryd.prog C0 75 impl_reach_wordTo.stub := by
  intro args res h
  unfold impl_reach_wordTo.stub at h
  split at h
  · rename_i es f r fa mp g px py pt
    obtain ⟨h0, h⟩ := gd_out h
    obtain rfl := Nat.eq_of_beq_eq_true h0
    obtain ⟨l, h1, h0⟩ := any_out h
    obtain ⟨F, h2, h0⟩ := any_out h0
    obtain ⟨R, h3, h0⟩ := any_out h0
    obtain ⟨h4, h0⟩ := gd_out h0
    obtain ⟨h5, h0⟩ := gd_out h0
    obtain ⟨h6, h0⟩ := gd_out h0
    cases h0
    refine impl_reach_wordTo.ev (n := 0) ?_
    unfold impl_reach_wordTo.res frsU firstU
    rw [h1, h2, h3]
    simp only [Option.bind_some, h4, h5, cond_true]
    have h5 := of_decide_eq_true h5
    have h6 := of_decide_eq_true h6
    cases ho : firstAt px py pt l 0 with
    | none => rfl
    | some k =>
      obtain ⟨_, hk⟩ := firstAt_lt _ _ _ _ _ _ ho
      have g1 : ¬ (k : Int) < 0 := by omega
      have g2 : inR (k : Int) 0 ((F.length : Int) - 1) = true := by
        unfold inR
        rw [Bool.and_eq_true, decide_eq_true_eq, decide_eq_true_eq]; omega
      simp only [show ixO (some k) = (k : Int) from rfl, g1, g2, decide_false, cond_false, cond_true, Option.bind_some]
  · cases h
/-! impl_reachOn -/
noncomputable def impl_reachOn.cfg : Cfg := { C0 with keep := fun _ => none, nb := 0, M := tabM [(73, impl_onBoard.stub), (103, impl_reached.stub)], MM := tabB [] }
noncomputable def impl_reachOn.res (n : Nat) (a0 : ByteArray) (a1_0 : Int) (a1_1 : Int) (a1_2 : Int) (a1_3 : Int) (a1_4 : Int) (a1_5 : Int) (a1_6 : Int) (a1_7 : Int) : Option (List Q) :=
  bif decide (ByteArray.size a0 < (17179869184 : Nat)) then bif !(isBo brd a0 && (Die.good (Die.mk a1_2 a1_3 a1_4 a1_5 a1_6 a1_7) && isFl (rws a0) a1_0 a1_1)) then some [Q.one D.nilp, Q.one (D.bool false)] else Option.bind (Cod.decs strC (Cod.encs strC (gridI brd a0))) fun (l1 : List ByteArray) => bif unif (lb l1) then bif smallR l1 then bif inR a1_0 (0 : Int) ((↑(wOf (lb l1)) : Int) - (1 : Int)) then bif inR a1_1 (0 : Int) ((↑(List.length (lb l1)) : Int) - (1 : Int)) then bif Die.good (Die.mk a1_2 a1_3 a1_4 a1_5 a1_6 a1_7) then some [Q.one (D.pt [D.sl (8 : Nat) (Cod.encs stC (usC (wyC (isFl (lb l1)) (Sta.mk a1_0 a1_1 (Die.mk a1_2 a1_3 a1_4 a1_5 a1_6 a1_7))))), D.sl (1 : Nat) (Cod.encs intC (besC (wyC (isFl (lb l1)) (Sta.mk a1_0 a1_1 (Die.mk a1_2 a1_3 a1_4 a1_5 a1_6 a1_7))))), D.sl (1 : Nat) (Cod.encs u8C (rlsC (wyC (isFl (lb l1)) (Sta.mk a1_0 a1_1 (Die.mk a1_2 a1_3 a1_4 a1_5 a1_6 a1_7))))), D.sl (1 : Nat) (Cod.encs intC (fasC (wyC (isFl (lb l1)) (Sta.mk a1_0 a1_1 (Die.mk a1_2 a1_3 a1_4 a1_5 a1_6 a1_7))))), D.mp (plU (usC (wyC (isFl (lb l1)) (Sta.mk a1_0 a1_1 (Die.mk a1_2 a1_3 a1_4 a1_5 a1_6 a1_7)))))]), Q.one (D.bool true)] else none else none else none else none else none else none
theorem impl_reachOn.run (n : Nat) (a0 : ByteArray) (a1_0 : Int) (a1_1 : Int) (a1_2 : Int) (a1_3 : Int) (a1_4 : Int) (a1_5 : Int) (a1_6 : Int) (a1_7 : Int) :
    run1 impl_reachOn.cfg [RK.one (LK.nl D.nilp), RK.one LK.bool] n Tryd.f81 [Q.one (D.str a0), Q.agg [D.int IntKind.i64 a1_0, D.int IntKind.i64 a1_1, D.int IntKind.i64 a1_2, D.int IntKind.i64 a1_3, D.int IntKind.i64 a1_4, D.int IntKind.i64 a1_5, D.int IntKind.i64 a1_6, D.int IntKind.i64 a1_7]] = impl_reachOn.res n a0 a1_0 a1_1 a1_2 a1_3 a1_4 a1_5 a1_6 a1_7 := by kernel_rfl
theorem impl_reachOn.ev {n : Nat} {a0 : ByteArray} {a1_0 : Int} {a1_1 : Int} {a1_2 : Int} {a1_3 : Int} {a1_4 : Int} {a1_5 : Int} {a1_6 : Int} {a1_7 : Int} {r : List Q} (h : impl_reachOn.res n a0 a1_0 a1_1 a1_2 a1_3 a1_4 a1_5 a1_6 a1_7 = some r) : Snd Tryd.prog C0 81 [.one (.str a0), .agg [.int .i64 a1_0, .int .i64 a1_1, .int .i64 a1_2, .int .i64 a1_3, .int .i64 a1_4, .int .i64 a1_5, .int .i64 a1_6, .int .i64 a1_7]] r :=
  snd_ev (C := impl_reachOn.cfg) cfg0 mix rfl rfl rfl rfl rfl (.cons impl_onBoard.ok (.cons impl_reached.ok .nil)) .nil rfl Tryd.func81 (by kernel_rfl) (by kernel_rfl) rfl ((impl_reachOn.run n a0 a1_0 a1_1 a1_2 a1_3 a1_4 a1_5 a1_6 a1_7).trans h)

def impl_reachOn.stub : Stub
  | [.one (.str q), .agg [.int .i64 x, .int .i64 y, .int .i64 t, .int .i64 n, .int .i64 e, .int .i64 s, .int .i64 w, .int .i64 b]] => .gd (decide (q.size < LIM)) (.ite (Sp.okSt q ⟨x, y, ⟨t, n, e, s, w, b⟩⟩) (.ret [.one (.pt [.sl 8 (stC.encs (Sp.usC (Sp.wyC (Sp.isFl (Sp.rws q)) ⟨x, y, ⟨t, n, e, s, w, b⟩⟩))), .sl 1 (intC.encs (Sp.besC (Sp.wyC (Sp.isFl (Sp.rws q)) ⟨x, y, ⟨t, n, e, s, w, b⟩⟩))), .sl 1 (u8C.encs (Sp.rlsC (Sp.wyC (Sp.isFl (Sp.rws q)) ⟨x, y, ⟨t, n, e, s, w, b⟩⟩))), .sl 1 (intC.encs (Sp.fasC (Sp.wyC (Sp.isFl (Sp.rws q)) ⟨x, y, ⟨t, n, e, s, w, b⟩⟩))), .mp (Sp.plU (Sp.usC (Sp.wyC (Sp.isFl (Sp.rws q)) ⟨x, y, ⟨t, n, e, s, w, b⟩⟩)))]), .one (.bool true)]) (.ret [.one .nilp, .one (.bool false)]))
  | _ => .fail
theorem impl_reachOn.ok : StubOk Tryd.prog C0 81 impl_reachOn.stub := by
  intro args res h
  unfold impl_reachOn.stub at h
  split at h
  · rename_i q x y t n e s w b
    obtain ⟨hs, h0⟩ := gd_out h
    have h0 := ite_out h0
    refine impl_reachOn.ev (n := 0) ?_
    unfold LIM at hs
    unfold impl_reachOn.res
    rw [hs, show (isBo brd q && (Die.good ⟨t, n, e, s, w, b⟩ && isFl (rws q) x y)) = okSt q ⟨x, y, ⟨t, n, e, s, w, b⟩⟩ from rfl]
    cases ho : okSt q ⟨x, y, ⟨t, n, e, s, w, b⟩⟩ with
    | false => rw [ho] at h0; exact h0
    | true =>
      rw [ho] at h0
      obtain ⟨hb, hg, hfl, _, _⟩ := okSt_out ho
      obtain ⟨g1, g2, g3, g4, g5, g6⟩ := Sp.gr_ok hb
      have hfl : isFl (rws q) x y = true := hfl
      obtain ⟨x0, x1, y0, y1⟩ := isFl_out hfl
      have gx : inR x 0 ((wOf (rws q) : Int) - 1) = true := by
        unfold inR
        rw [Bool.and_eq_true, decide_eq_true_eq, decide_eq_true_eq]; omega
      have gy : inR y 0 (((rws q).length : Int) - 1) = true := by
        unfold inR
        rw [Bool.and_eq_true, decide_eq_true_eq, decide_eq_true_eq]; omega
      have hg : Die.good ⟨t, n, e, s, w, b⟩ = true := hg
      simp only [Bool.not_true, cond_false, cond_true, g5, Option.bind_some, g1, g2, small_gr hb, gx, gy, hg]
      exact h0
  · cases h
/-! impl_reachCell -/
noncomputable def impl_reachCell.cfg : Cfg := { C0 with keep := fun _ => none, nb := 0, M := tabM [(81, impl_reachOn.stub), (49, impl_board.stub), (85, impl_grid_has.stub)], MM := tabB [] }
noncomputable def impl_reachCell.res (n : Nat) (a0 : ByteArray) (a1_0 : Int) (a1_1 : Int) (a1_2 : Int) (a1_3 : Int) (a1_4 : Int) (a1_5 : Int) (a1_6 : Int) (a1_7 : Int) (a2 : Int) (a3 : Int) : Option (List Q) :=
  bif decide (ByteArray.size a0 < (17179869184 : Nat)) then bif okSt a0 (Sta.mk a1_0 a1_1 (Die.mk a1_2 a1_3 a1_4 a1_5 a1_6 a1_7)) then bif decide (ByteArray.size a0 < (17179869184 : Nat)) then Option.bind (Cod.decs strC (Cod.encs strC (gridI brd a0))) fun (l1 : List ByteArray) => bif decide (List.length l1 ≤ (17179869184 : Nat)) then bif decide (wOf (lb l1) ≤ (17179869184 : Nat)) then bif !(inR a3 (0 : Int) ((↑(List.length l1) : Int) - (1 : Int)) && inR a2 (0 : Int) ((↑(wOf (lb l1)) : Int) - (1 : Int))) then some [Q.one D.nilp, Q.one (D.bool false)] else some [Q.one (D.pt [D.sl (8 : Nat) (Cod.encs stC (usC (wyC (isFl (rws a0)) (Sta.mk a1_0 a1_1 (Die.mk a1_2 a1_3 a1_4 a1_5 a1_6 a1_7))))), D.sl (1 : Nat) (Cod.encs intC (besC (wyC (isFl (rws a0)) (Sta.mk a1_0 a1_1 (Die.mk a1_2 a1_3 a1_4 a1_5 a1_6 a1_7))))), D.sl (1 : Nat) (Cod.encs u8C (rlsC (wyC (isFl (rws a0)) (Sta.mk a1_0 a1_1 (Die.mk a1_2 a1_3 a1_4 a1_5 a1_6 a1_7))))), D.sl (1 : Nat) (Cod.encs intC (fasC (wyC (isFl (rws a0)) (Sta.mk a1_0 a1_1 (Die.mk a1_2 a1_3 a1_4 a1_5 a1_6 a1_7))))), D.mp (plU (usC (wyC (isFl (rws a0)) (Sta.mk a1_0 a1_1 (Die.mk a1_2 a1_3 a1_4 a1_5 a1_6 a1_7)))))]), Q.one (D.bool true)] else none else none else none else bif decide (ByteArray.size a0 < (17179869184 : Nat)) then some [Q.one D.nilp, Q.one (D.bool false)] else none else none
theorem impl_reachCell.run (n : Nat) (a0 : ByteArray) (a1_0 : Int) (a1_1 : Int) (a1_2 : Int) (a1_3 : Int) (a1_4 : Int) (a1_5 : Int) (a1_6 : Int) (a1_7 : Int) (a2 : Int) (a3 : Int) :
    run1 impl_reachCell.cfg [RK.one (LK.nl D.nilp), RK.one LK.bool] n Tryd.f74 [Q.one (D.str a0), Q.agg [D.int IntKind.i64 a1_0, D.int IntKind.i64 a1_1, D.int IntKind.i64 a1_2, D.int IntKind.i64 a1_3, D.int IntKind.i64 a1_4, D.int IntKind.i64 a1_5, D.int IntKind.i64 a1_6, D.int IntKind.i64 a1_7], Q.one (D.int IntKind.i64 a2), Q.one (D.int IntKind.i64 a3)] = impl_reachCell.res n a0 a1_0 a1_1 a1_2 a1_3 a1_4 a1_5 a1_6 a1_7 a2 a3 := by kernel_rfl
theorem impl_reachCell.ev {n : Nat} {a0 : ByteArray} {a1_0 : Int} {a1_1 : Int} {a1_2 : Int} {a1_3 : Int} {a1_4 : Int} {a1_5 : Int} {a1_6 : Int} {a1_7 : Int} {a2 : Int} {a3 : Int} {r : List Q} (h : impl_reachCell.res n a0 a1_0 a1_1 a1_2 a1_3 a1_4 a1_5 a1_6 a1_7 a2 a3 = some r) : Snd Tryd.prog C0 74 [.one (.str a0), .agg [.int .i64 a1_0, .int .i64 a1_1, .int .i64 a1_2, .int .i64 a1_3, .int .i64 a1_4, .int .i64 a1_5, .int .i64 a1_6, .int .i64 a1_7], .one (.int .i64 a2), .one (.int .i64 a3)] r :=
  snd_ev (C := impl_reachCell.cfg) cfg0 mix rfl rfl rfl rfl rfl (.cons impl_reachOn.ok (.cons impl_board.ok (.cons impl_grid_has.ok .nil))) .nil rfl Tryd.func74 (by kernel_rfl) (by kernel_rfl) rfl ((impl_reachCell.run n a0 a1_0 a1_1 a1_2 a1_3 a1_4 a1_5 a1_6 a1_7 a2 a3).trans h)

def impl_reachCell.stub : Stub
  | [.one (.str q), .agg [.int .i64 x, .int .i64 y, .int .i64 t, .int .i64 n, .int .i64 e, .int .i64 s, .int .i64 w, .int .i64 b], .one (.int .i64 px), .one (.int .i64 py)] => .gd (decide (q.size < LIM)) (.gd (Sp.okSt q ⟨x, y, ⟨t, n, e, s, w, b⟩⟩) (.gd (Sp.isFl (Sp.rws q) px py) (.ret [.one (.pt [.sl 8 (stC.encs (Sp.usC (Sp.wyC (Sp.isFl (Sp.rws q)) ⟨x, y, ⟨t, n, e, s, w, b⟩⟩))), .sl 1 (intC.encs (Sp.besC (Sp.wyC (Sp.isFl (Sp.rws q)) ⟨x, y, ⟨t, n, e, s, w, b⟩⟩))), .sl 1 (u8C.encs (Sp.rlsC (Sp.wyC (Sp.isFl (Sp.rws q)) ⟨x, y, ⟨t, n, e, s, w, b⟩⟩))), .sl 1 (intC.encs (Sp.fasC (Sp.wyC (Sp.isFl (Sp.rws q)) ⟨x, y, ⟨t, n, e, s, w, b⟩⟩))), .mp (Sp.plU (Sp.usC (Sp.wyC (Sp.isFl (Sp.rws q)) ⟨x, y, ⟨t, n, e, s, w, b⟩⟩)))]), .one (.bool true)])))
  | _ => .fail
theorem impl_reachCell.ok : StubOk Tryd.prog C0 74 impl_reachCell.stub := by
  intro args res h
  unfold impl_reachCell.stub at h
  split at h
  · rename_i q x y t n e s w b px py
    obtain ⟨hs, h0⟩ := gd_out h
    obtain ⟨ho, h0⟩ := gd_out h0
    obtain ⟨hf, h0⟩ := gd_out h0
    refine impl_reachCell.ev (n := 0) ?_
    unfold LIM at hs
    unfold impl_reachCell.res
    obtain ⟨hb, hg, hfl, _, _⟩ := okSt_out ho
    obtain ⟨g1, g2, g3, g4, g5, g6⟩ := Sp.gr_ok hb
    obtain ⟨x0, x1, y0, y1⟩ := isFl_out hf
    obtain ⟨k1, k2, _, _⟩ := small_w (small_gr hb)
    rw [g1] at k2
    have gx : inR px 0 ((wOf (rws q) : Int) - 1) = true := by
      unfold inR
      rw [Bool.and_eq_true, decide_eq_true_eq, decide_eq_true_eq]; omega
    have gy : inR py 0 (((gridI brd q).length : Int) - 1) = true := by
      unfold inR
      rw [Bool.and_eq_true, decide_eq_true_eq, decide_eq_true_eq]; omega
    simp only [hs, ho, g5, Option.bind_some, g1, k1, k2, gx, gy, decide_true, cond_true, Bool.and_self, Bool.not_true, cond_false]
    exact h0
  · cases h
/-! impl_WayToTop -/
noncomputable def impl_WayToTop.cfg : Cfg := { C0 with keep := fun _ => none, nb := 0, M := tabM [(74, impl_reachCell.stub), (67, impl_in.stub), (75, impl_reach_wordTo.stub)], MM := tabB [] }
noncomputable def impl_WayToTop.res (n : Nat) (a0 : ByteArray) (a1_0 : Int) (a1_1 : Int) (a1_2 : Int) (a1_3 : Int) (a1_4 : Int) (a1_5 : Int) (a1_6 : Int) (a1_7 : Int) (a2 : Int) (a3 : Int) (a4 : Int) : Option (List Q) :=
  bif decide (ByteArray.size a0 < (17179869184 : Nat)) then bif okSt a0 (Sta.mk a1_0 a1_1 (Die.mk a1_2 a1_3 a1_4 a1_5 a1_6 a1_7)) then bif isFl (rws a0) a2 a3 then bif !inR a4 (0 : Int) (9 : Int) then some [Q.one (D.str (ByteArray.mk #[])), Q.one (D.bool false)] else Option.bind (Cod.decs stC (Cod.encs stC (usC (wyC (isFl (rws a0)) (Sta.mk a1_0 a1_1 (Die.mk a1_2 a1_3 a1_4 a1_5 a1_6 a1_7)))))) fun (l1 : List Sta) => Option.bind (Cod.decs intC (Cod.encs intC (besC (wyC (isFl (rws a0)) (Sta.mk a1_0 a1_1 (Die.mk a1_2 a1_3 a1_4 a1_5 a1_6 a1_7)))))) fun (l2 : List Int) => Option.bind (Cod.decs u8C (Cod.encs u8C (rlsC (wyC (isFl (rws a0)) (Sta.mk a1_0 a1_1 (Die.mk a1_2 a1_3 a1_4 a1_5 a1_6 a1_7)))))) fun (l3 : List UInt8) => bif lnkB l2 then bif decide (List.length l2 = List.length l3) then bif decide (List.length l1 = List.length l3) then some [Q.one (D.str (mkO (frsU a2 a3 a4 l1 l2 l3))), Q.one (D.bool (isSO (frsU a2 a3 a4 l1 l2 l3)))] else none else none else none else none else none else none
theorem impl_WayToTop.run (n : Nat) (a0 : ByteArray) (a1_0 : Int) (a1_1 : Int) (a1_2 : Int) (a1_3 : Int) (a1_4 : Int) (a1_5 : Int) (a1_6 : Int) (a1_7 : Int) (a2 : Int) (a3 : Int) (a4 : Int) :
    run1 impl_WayToTop.cfg [RK.one LK.str, RK.one LK.bool] n Tryd.f41 [Q.one (D.str a0), Q.agg [D.int IntKind.i64 a1_0, D.int IntKind.i64 a1_1, D.int IntKind.i64 a1_2, D.int IntKind.i64 a1_3, D.int IntKind.i64 a1_4, D.int IntKind.i64 a1_5, D.int IntKind.i64 a1_6, D.int IntKind.i64 a1_7], Q.one (D.int IntKind.i64 a2), Q.one (D.int IntKind.i64 a3), Q.one (D.int IntKind.i64 a4)] = impl_WayToTop.res n a0 a1_0 a1_1 a1_2 a1_3 a1_4 a1_5 a1_6 a1_7 a2 a3 a4 := by kernel_rfl
theorem impl_WayToTop.ev {n : Nat} {a0 : ByteArray} {a1_0 : Int} {a1_1 : Int} {a1_2 : Int} {a1_3 : Int} {a1_4 : Int} {a1_5 : Int} {a1_6 : Int} {a1_7 : Int} {a2 : Int} {a3 : Int} {a4 : Int} {r : List Q} (h : impl_WayToTop.res n a0 a1_0 a1_1 a1_2 a1_3 a1_4 a1_5 a1_6 a1_7 a2 a3 a4 = some r) : Snd Tryd.prog C0 41 [.one (.str a0), .agg [.int .i64 a1_0, .int .i64 a1_1, .int .i64 a1_2, .int .i64 a1_3, .int .i64 a1_4, .int .i64 a1_5, .int .i64 a1_6, .int .i64 a1_7], .one (.int .i64 a2), .one (.int .i64 a3), .one (.int .i64 a4)] r :=
  snd_ev (C := impl_WayToTop.cfg) cfg0 mix rfl rfl rfl rfl rfl (.cons impl_reachCell.ok (.cons impl_in.ok (.cons impl_reach_wordTo.ok .nil))) .nil rfl Tryd.func41 (by kernel_rfl) (by kernel_rfl) rfl ((impl_WayToTop.run n a0 a1_0 a1_1 a1_2 a1_3 a1_4 a1_5 a1_6 a1_7 a2 a3 a4).trans h)

def impl_WayToTop.stub : Stub
  | [.one (.str q), .agg [.int .i64 x, .int .i64 y, .int .i64 t, .int .i64 n, .int .i64 e, .int .i64 s, .int .i64 w, .int .i64 b], .one (.int .i64 px), .one (.int .i64 py), .one (.int .i64 pt)] => .gd (decide (q.size < LIM)) (.gd (Sp.pzOk q ⟨x, y, ⟨t, n, e, s, w, b⟩⟩ px py pt) (.ret [.one (.str (Sp.mkO (Sp.solF q ⟨x, y, ⟨t, n, e, s, w, b⟩⟩ px py pt))), .one (.bool (Sp.isSO (Sp.solF q ⟨x, y, ⟨t, n, e, s, w, b⟩⟩ px py pt)))]))
  | _ => .fail
theorem impl_WayToTop.ok : StubOk Tryd.prog C0 41 impl_WayToTop.stub := by
  intro args res h
  unfold impl_WayToTop.stub at h
  split at h
  · rename_i q x y t n e s w b px py pt
    obtain ⟨hs, h0⟩ := gd_out h
    obtain ⟨hz, h0⟩ := gd_out h0
    cases h0
    refine impl_WayToTop.ev (n := 0) ?_
    unfold LIM at hs
    unfold impl_WayToTop.res
    obtain ⟨ho, hf, hpt⟩ := puz_ok hz
    have hlen := wyC_len ho
    obtain ⟨k, hord⟩ := wyC_ord (isFl (rws q)) ⟨x, y, ⟨t, n, e, s, w, b⟩⟩
    have hlim : (wyC (isFl (rws q)) ⟨x, y, ⟨t, n, e, s, w, b⟩⟩).length ≤ LIM := by unfold LIM; unfold BIG at hlen; omega
    have d1 : stC.decs (stC.encs (usC (wyC (isFl (rws q)) ⟨x, y, ⟨t, n, e, s, w, b⟩⟩))) = some (usC (wyC (isFl (rws q)) ⟨x, y, ⟨t, n, e, s, w, b⟩⟩)) := Cod.decs_encs (by unfold usC; rw [List.length_map]; exact hlim)
    have d2 : intC.decs (intC.encs (besC (wyC (isFl (rws q)) ⟨x, y, ⟨t, n, e, s, w, b⟩⟩))) = some (besC (wyC (isFl (rws q)) ⟨x, y, ⟨t, n, e, s, w, b⟩⟩)) := Cod.decs_encs (by unfold besC; rw [List.length_map]; exact hlim)
    have d3 : u8C.decs (u8C.encs (rlsC (wyC (isFl (rws q)) ⟨x, y, ⟨t, n, e, s, w, b⟩⟩))) = some (rlsC (wyC (isFl (rws q)) ⟨x, y, ⟨t, n, e, s, w, b⟩⟩)) := Cod.decs_encs (by unfold rlsC; rw [List.length_map]; exact hlim)
    have l1 : lnkB (besC (wyC (isFl (rws q)) ⟨x, y, ⟨t, n, e, s, w, b⟩⟩)) = true := lnk_ord hord
    have l2 : (besC (wyC (isFl (rws q)) ⟨x, y, ⟨t, n, e, s, w, b⟩⟩)).length = (rlsC (wyC (isFl (rws q)) ⟨x, y, ⟨t, n, e, s, w, b⟩⟩)).length := by unfold besC rlsC; rw [List.length_map, List.length_map]
    have l3 : (usC (wyC (isFl (rws q)) ⟨x, y, ⟨t, n, e, s, w, b⟩⟩)).length = (rlsC (wyC (isFl (rws q)) ⟨x, y, ⟨t, n, e, s, w, b⟩⟩)).length := by unfold usC rlsC; rw [List.length_map, List.length_map]
    simp only [hs, ho, hf, hpt, d1, d2, d3, l1, decide_eq_true l2, decide_eq_true l3, frsU_sol hord, Option.bind_some, cond_true, Bool.not_true, cond_false]
    unfold solF
    rw [hz]; rfl
  · cases h
/-! impl_SolutionOf -/
noncomputable def impl_SolutionOf.cfg : Cfg := { C0 with keep := fun _ => none, nb := 0, M := tabM [(40, impl_IsPuzzle.stub), (41, impl_WayToTop.stub)], MM := tabB [] }
noncomputable def impl_SolutionOf.res (n : Nat) (a0_0 : ByteArray) (a0_1 : Int) (a0_2 : Int) (a0_3 : Int) (a0_4 : Int) (a0_5 : Int) (a0_6 : Int) (a0_7 : Int) (a0_8 : Int) (a0_9 : Int) (a0_10 : Int) (a0_11 : Int) : Option (List Q) :=
  bif decide (ByteArray.size a0_0 < (17179869184 : Nat)) then bif !(isBo brd a0_0 && (Die.good (Die.mk a0_3 a0_4 a0_5 a0_6 a0_7 a0_8) && isFl (rws a0_0) a0_1 a0_2) && (isFl (rws a0_0) a0_9 a0_10 && inR a0_11 (0 : Int) (9 : Int))) then some [Q.one (D.str (ByteArray.mk #[])), Q.one (D.bool false)] else bif decide (ByteArray.size a0_0 < (17179869184 : Nat)) then bif pzOk a0_0 (Sta.mk a0_1 a0_2 (Die.mk a0_3 a0_4 a0_5 a0_6 a0_7 a0_8)) a0_9 a0_10 a0_11 then some [Q.one (D.str (mkO (solF a0_0 (Sta.mk a0_1 a0_2 (Die.mk a0_3 a0_4 a0_5 a0_6 a0_7 a0_8)) a0_9 a0_10 a0_11))), Q.one (D.bool (isSO (solF a0_0 (Sta.mk a0_1 a0_2 (Die.mk a0_3 a0_4 a0_5 a0_6 a0_7 a0_8)) a0_9 a0_10 a0_11)))] else none else none else none
theorem impl_SolutionOf.run (n : Nat) (a0_0 : ByteArray) (a0_1 : Int) (a0_2 : Int) (a0_3 : Int) (a0_4 : Int) (a0_5 : Int) (a0_6 : Int) (a0_7 : Int) (a0_8 : Int) (a0_9 : Int) (a0_10 : Int) (a0_11 : Int) :
    run1 impl_SolutionOf.cfg [RK.one LK.str, RK.one LK.bool] n Tryd.f16 [Q.agg [D.str a0_0, D.int IntKind.i64 a0_1, D.int IntKind.i64 a0_2, D.int IntKind.i64 a0_3, D.int IntKind.i64 a0_4, D.int IntKind.i64 a0_5, D.int IntKind.i64 a0_6, D.int IntKind.i64 a0_7, D.int IntKind.i64 a0_8, D.int IntKind.i64 a0_9, D.int IntKind.i64 a0_10, D.int IntKind.i64 a0_11]] = impl_SolutionOf.res n a0_0 a0_1 a0_2 a0_3 a0_4 a0_5 a0_6 a0_7 a0_8 a0_9 a0_10 a0_11 := by kernel_rfl
theorem impl_SolutionOf.ev {n : Nat} {a0_0 : ByteArray} {a0_1 : Int} {a0_2 : Int} {a0_3 : Int} {a0_4 : Int} {a0_5 : Int} {a0_6 : Int} {a0_7 : Int} {a0_8 : Int} {a0_9 : Int} {a0_10 : Int} {a0_11 : Int} {r : List Q} (h : impl_SolutionOf.res n a0_0 a0_1 a0_2 a0_3 a0_4 a0_5 a0_6 a0_7 a0_8 a0_9 a0_10 a0_11 = some r) : Snd Tryd.prog C0 16 [.agg [.str a0_0, .int .i64 a0_1, .int .i64 a0_2, .int .i64 a0_3, .int .i64 a0_4, .int .i64 a0_5, .int .i64 a0_6, .int .i64 a0_7, .int .i64 a0_8, .int .i64 a0_9, .int .i64 a0_10, .int .i64 a0_11]] r :=
  snd_ev (C := impl_SolutionOf.cfg) cfg0 mix rfl rfl rfl rfl rfl (.cons impl_IsPuzzle.ok (.cons impl_WayToTop.ok .nil)) .nil rfl Tryd.func16 (by kernel_rfl) (by kernel_rfl) rfl ((impl_SolutionOf.run n a0_0 a0_1 a0_2 a0_3 a0_4 a0_5 a0_6 a0_7 a0_8 a0_9 a0_10 a0_11).trans h)

def impl_SolutionOf.stub : Stub
  | [.agg [.str q, .int .i64 x, .int .i64 y, .int .i64 t, .int .i64 n, .int .i64 e, .int .i64 s, .int .i64 w, .int .i64 b, .int .i64 px, .int .i64 py, .int .i64 pt]] => .gd (decide (q.size < LIM)) (.ret [.one (.str (Sp.mkO (Sp.solF q ⟨x, y, ⟨t, n, e, s, w, b⟩⟩ px py pt))), .one (.bool (Sp.isSO (Sp.solF q ⟨x, y, ⟨t, n, e, s, w, b⟩⟩ px py pt)))])
  | _ => .fail
theorem impl_SolutionOf.ok : StubOk Tryd.prog C0 16 impl_SolutionOf.stub := by
  intro args res h
  unfold impl_SolutionOf.stub at h
  split at h
  · rename_i q x y t n e s w b px py pt
    obtain ⟨hs, h0⟩ := gd_out h
    cases h0
    refine impl_SolutionOf.ev (n := 0) ?_
    unfold LIM at hs
    unfold impl_SolutionOf.res
    rw [hs, show (isBo brd q && (Die.good ⟨t, n, e, s, w, b⟩ && isFl (rws q) x y) && (isFl (rws q) px py && inR pt 0 9)) = pzOk q ⟨x, y, ⟨t, n, e, s, w, b⟩⟩ px py pt from rfl]
    cases hz : pzOk q ⟨x, y, ⟨t, n, e, s, w, b⟩⟩ px py pt with
    | false =>
      unfold solF
      rw [hz]; rfl
    | true => rfl
  · cases h
/-! impl_Puzzle_length -/
noncomputable def impl_Puzzle_length.cfg : Cfg := { C0 with keep := fun _ => none, nb := 0, M := tabM [(16, impl_SolutionOf.stub)], MM := tabB [] }
noncomputable def impl_Puzzle_length.res (n : Nat) (a0_0 : ByteArray) (a0_1 : Int) (a0_2 : Int) (a0_3 : Int) (a0_4 : Int) (a0_5 : Int) (a0_6 : Int) (a0_7 : Int) (a0_8 : Int) (a0_9 : Int) (a0_10 : Int) (a0_11 : Int) : Option (List Q) :=
  bif decide (ByteArray.size a0_0 < (17179869184 : Nat)) then some [Q.one (D.int IntKind.i64 (↑(ByteArray.size (mkO (solF a0_0 (Sta.mk a0_1 a0_2 (Die.mk a0_3 a0_4 a0_5 a0_6 a0_7 a0_8)) a0_9 a0_10 a0_11))) : Int)), Q.one (D.bool (isSO (solF a0_0 (Sta.mk a0_1 a0_2 (Die.mk a0_3 a0_4 a0_5 a0_6 a0_7 a0_8)) a0_9 a0_10 a0_11)))] else none
theorem impl_Puzzle_length.run (n : Nat) (a0_0 : ByteArray) (a0_1 : Int) (a0_2 : Int) (a0_3 : Int) (a0_4 : Int) (a0_5 : Int) (a0_6 : Int) (a0_7 : Int) (a0_8 : Int) (a0_9 : Int) (a0_10 : Int) (a0_11 : Int) :
    run1 impl_Puzzle_length.cfg [RK.one (LK.int IntKind.i64), RK.one LK.bool] n Tryd.f38 [Q.agg [D.str a0_0, D.int IntKind.i64 a0_1, D.int IntKind.i64 a0_2, D.int IntKind.i64 a0_3, D.int IntKind.i64 a0_4, D.int IntKind.i64 a0_5, D.int IntKind.i64 a0_6, D.int IntKind.i64 a0_7, D.int IntKind.i64 a0_8, D.int IntKind.i64 a0_9, D.int IntKind.i64 a0_10, D.int IntKind.i64 a0_11]] = impl_Puzzle_length.res n a0_0 a0_1 a0_2 a0_3 a0_4 a0_5 a0_6 a0_7 a0_8 a0_9 a0_10 a0_11 := by kernel_rfl
theorem impl_Puzzle_length.ev {n : Nat} {a0_0 : ByteArray} {a0_1 : Int} {a0_2 : Int} {a0_3 : Int} {a0_4 : Int} {a0_5 : Int} {a0_6 : Int} {a0_7 : Int} {a0_8 : Int} {a0_9 : Int} {a0_10 : Int} {a0_11 : Int} {r : List Q} (h : impl_Puzzle_length.res n a0_0 a0_1 a0_2 a0_3 a0_4 a0_5 a0_6 a0_7 a0_8 a0_9 a0_10 a0_11 = some r) : Snd Tryd.prog C0 38 [.agg [.str a0_0, .int .i64 a0_1, .int .i64 a0_2, .int .i64 a0_3, .int .i64 a0_4, .int .i64 a0_5, .int .i64 a0_6, .int .i64 a0_7, .int .i64 a0_8, .int .i64 a0_9, .int .i64 a0_10, .int .i64 a0_11]] r :=
  snd_ev (C := impl_Puzzle_length.cfg) cfg0 mix rfl rfl rfl rfl rfl (.cons impl_SolutionOf.ok .nil) .nil rfl Tryd.func38 (by kernel_rfl) (by kernel_rfl) rfl ((impl_Puzzle_length.run n a0_0 a0_1 a0_2 a0_3 a0_4 a0_5 a0_6 a0_7 a0_8 a0_9 a0_10 a0_11).trans h)

def impl_Puzzle_length.stub : Stub
  | [.agg [.str q, .int .i64 x, .int .i64 y, .int .i64 t, .int .i64 n, .int .i64 e, .int .i64 s, .int .i64 w, .int .i64 b, .int .i64 px, .int .i64 py, .int .i64 pt]] => .gd (decide (q.size < LIM)) (.ret [.one (.int .i64 (Sp.lenO (Sp.solF q ⟨x, y, ⟨t, n, e, s, w, b⟩⟩ px py pt))), .one (.bool (Sp.isSO (Sp.solF q ⟨x, y, ⟨t, n, e, s, w, b⟩⟩ px py pt)))])
  | _ => .fail
theorem impl_Puzzle_length.ok : StubOk Tryd.prog C0 38 impl_Puzzle_length.stub := by
  intro args res h
  unfold impl_Puzzle_length.stub at h
  split at h
  · rename_i q x y t n e s w b px py pt
    obtain ⟨hs, h0⟩ := gd_out h
    cases h0
    refine impl_Puzzle_length.ev (n := 0) ?_
    unfold LIM at hs
    unfold impl_Puzzle_length.res
    rw [hs]
    cases solF q ⟨x, y, ⟨t, n, e, s, w, b⟩⟩ px py pt with
    | none => rfl
    | some l =>
      show some [Q.one (.int .i64 ((mkB l).size : Int)), Q.one (.bool true)] = _
      rw [mkB_size]; rfl
  · cases h
/-! impl_LengthOf -/
/-! laws_FnExactLengthOf -/
/-! laws_FnExactSolutionOf -/
end Go.Proofs.EV.PL
set_option linter.unusedVariables false
set_option linter.unusedSimpArgs false
set_option maxHeartbeats 4000000
/-! Texts of puzzles. -/
namespace Go.Proofs.EV.PL
open Go Go.Proofs Go.Proofs.EV Sp
/-! i_strconv_small -/
theorem small_ext {n : Int} (h : inR n 0 9 = true) : ByteArray.extract (ByteArray.mk #[48, 49, 50, 51, 52, 53, 54, 55, 56, 57, 97, 98, 99, 100, 101, 102, 103, 104, 105, 106, 107, 108, 109, 110, 111, 112, 113, 114, 115, 116, 117, 118, 119, 120, 121, 122]) n.toNat (IntKind.wrap .i64 (n + 1)).toNat = mkB [sgn n] := by
  obtain ⟨h0, h9⟩ := inR_out h
  rw [wrap_in (by omega) (by omega)]
  obtain ⟨D, rfl⟩ := Int.eq_ofNat_of_zero_le h0
  have hD : D < 10 := by omega
  match D, hD with
  | 0, _ => rfl
  | 1, _ => rfl
  | 2, _ => rfl
  | 3, _ => rfl
  | 4, _ => rfl
  | 5, _ => rfl
  | 6, _ => rfl
  | 7, _ => rfl
  | 8, _ => rfl
  | 9, _ => rfl
  | D + 10, h => omega
/-! i_strconv_FormatInt -/
/-! i_strconv_Itoa -/
/-! strconv_Itoa -/
/-! impl_State_texts -/
theorem puT_len {q : ByteArray} {s : Sta} {px py pt : Int} (h : pzOk q s px py pt = true) : (jnc 58 [bl q, [sgn s.x], [sgn s.y], [sgn s.d.t, sgn s.d.n, sgn s.d.e, sgn s.d.s, sgn s.d.w, sgn s.d.b], [sgn px], [sgn py], [sgn pt]]).length ≤ 100 := by
  have h1 := isBo_size (okSt_out (puz_ok h).1).1
  rw [← bl_len] at h1
  simp [jnc]
  omega
theorem in69 {x : Int} (h : inR x 0 6 = true) : inR x 0 9 = true := by
  have := inR_out h
  unfold inR
  rw [Bool.and_eq_true, decide_eq_true_eq, decide_eq_true_eq]; omega
/-! impl_PuzzleText -/
/-! spec_puText -/
/-! spec_PuzzleText -/
/-! laws_FnExactPuzzleText -/
end Go.Proofs.EV.PL
set_option linter.unusedVariables false
set_option linter.unusedSimpArgs false
set_option maxHeartbeats 4000000
/-! The hardest goals. -/
namespace Go.Proofs.EV.PL
open Go Go.Proofs Go.Proofs.EV Sp
/-! cmp_isNaN_int -/
/-! cmp_Compare_int -/
/-! slices_Compare_Sint_int -/
theorem cmpL_3 (a b c a' b' c' : Int) : cmpL [a, b, c] [a', b', c'] = cmp3 a b c a' b' c' := by
  unfold cmp3
  simp only [cmpL, cmpI]
  by_cases h1 : a = a'
  · subst h1
    by_cases h2 : b = b'
    · subst h2
      by_cases h3 : c = c'
      · subst h3
        simp
      · by_cases h4 : c < c'
        · simp [h4]
        · have h5 : c' < c := by omega
          simp [h3, h4, h5]
    · by_cases h4 : b < b'
      · simp [h2, h4]
      · have h5 : b' < b := by omega
        simp [h2, h4, h5]
  · by_cases h4 : a < a'
    · simp [h1, h4]
    · have h5 : a' < a := by omega
      simp [h1, h4, h5]
/-! spec_l1Same -/
/-! spec_puBefore -/
/-! spec_puHardest -/
theorem onS_true (q : ByteArray) : onS true q = q := rfl
theorem onI_true (k : Int) : onI true k = k := rfl
/-! spec_HardestGoal -/
/-! impl_hardest -/
def outH (q : ByteArray) (s : Sta) (r : Hd) : List Q := bif decide (r.most > 60) then [Q.agg [.str ⟨#[]⟩, .int .i64 0, .int .i64 0, .int .i64 0, .int .i64 0, .int .i64 0, .int .i64 0, .int .i64 0, .int .i64 0, .int .i64 0, .int .i64 0, .int .i64 0], Q.one (.int .i64 0), Q.one (.bool false)] else [Q.agg [.str (onS (isG r.best) q), .int .i64 (onI (isG r.best) s.x), .int .i64 (onI (isG r.best) s.y), .int .i64 (onI (isG r.best) s.d.t), .int .i64 (onI (isG r.best) s.d.n), .int .i64 (onI (isG r.best) s.d.e), .int .i64 (onI (isG r.best) s.d.s), .int .i64 (onI (isG r.best) s.d.w), .int .i64 (onI (isG r.best) s.d.b), .int .i64 (gO r.best).x, .int .i64 (gO r.best).y, .int .i64 (gO r.best).t], Q.one (.int .i64 r.most), Q.one (.bool true)]
/-! impl_HardestGoal -/
/-! laws_FnExactHardestGoal -/
end Go.Proofs.EV.PL
set_option linter.unusedVariables false
set_option linter.unusedSimpArgs false
set_option maxHeartbeats 4000000
/-! Needless walls. -/
namespace Go.Proofs.EV.PL
open Go Go.Proofs Go.Proofs.EV Sp
theorem u8C_set46 (l : List UInt8) (i : Nat) : setRow 1 (u8C.encs l) i 0 [D.int .u8 46] = u8C.encs (l.set i 46) := u8C_set l i 46
/-! spec_NeedlessWalls -/
/-! impl_NeedlessWalls -/
theorem wrap_ix {y w x : Nat} (hy : y ≤ 7) (hw : w ≤ 7) (hx : x ≤ 7) : IntKind.wrap .i64 (IntKind.wrap .i64 ((y : Int) * IntKind.wrap .i64 ((w : Int) + 1)) + (x : Int)) = ((y * (w + 1) + x : Nat) : Int) ∧ IntKind.wrap .i64 (IntKind.wrap .i64 ((y : Int) * (w : Int)) + (x : Int)) = ((y * w + x : Nat) : Int) := by
  have h1 : y * (w + 1) ≤ 7 * 8 := Nat.mul_le_mul hy (by omega)
  have h2 : y * w ≤ 7 * 7 := Nat.mul_le_mul hy hw
  have e1 : IntKind.wrap .i64 ((w : Int) + 1) = ((w + 1 : Nat) : Int) := by rw [wrap_in (by omega) (by omega)]; omega
  have e2 : (y : Int) * ((w + 1 : Nat) : Int) = ((y * (w + 1) : Nat) : Int) := by push_cast; rfl
  have e3 : (y : Int) * (w : Int) = ((y * w : Nat) : Int) := by push_cast; rfl
  have e4 : IntKind.wrap .i64 ((y * (w + 1) : Nat) : Int) = ((y * (w + 1) : Nat) : Int) := wrap_in (by omega) (by omega)
  have e5 : IntKind.wrap .i64 ((y * w : Nat) : Int) = ((y * w : Nat) : Int) := wrap_in (by omega) (by omega)
  rw [e1, e2, e3, e4, e5]
  refine ⟨?_, ?_⟩ <;> rw [wrap_in (by omega) (by omega)] <;> omega
section
variable {n : Nat} {q : ByteArray} {s : Sta} {px py pt k : Int} {l : List ByteArray}
end
theorem head_size : ∀ {l : List ByteArray} (h : 0 < l.length), l[0].size = wOf (lb l)
  | [], h => by simp at h
  | a :: l, _ => rfl
/-! laws_eqIntS -/
/-! laws_markIntS -/
/-! laws_heldIntS -/
/-! laws_FnExactNeedlessWalls -/
end Go.Proofs.EV.PL
set_option linter.unusedVariables false
set_option linter.unusedSimpArgs false
set_option maxHeartbeats 4000000
/-! Shortest words counted, and how many rolls are left. -/
namespace Go.Proofs.EV.PL
open Go Go.Proofs Go.Proofs.EV Sp
theorem mpGet_k (t : Sta) (us : List Sta) : ∃ d, mpGet [D.int .i64 t.x, D.int .i64 t.y, D.int .i64 t.d.t, D.int .i64 t.d.n, D.int .i64 t.d.e, D.int .i64 t.d.s, D.int .i64 t.d.w, D.int .i64 t.d.b] (plU us) = some d ∧ d.getD [D.int .i64 0] = [D.int .i64 (kAt t us : Int)] ∧ d.isSome = (posOf t us).isSome := by
  have hget := mpGet_pl t us 0
  refine ⟨_, hget, ?_, ?_⟩
  · unfold kAt
    cases posOf t us with
    | none => rfl
    | some j => simp
  · cases posOf t us <;> rfl
theorem cell1 (v : Int) : D.int? .i64 (cellD [[D.int .i64 v]] 0 0) = some v := rfl
/-! impl_reachTo -/
noncomputable def impl_reachTo.cfg : Cfg := { C0 with keep := fun _ => none, nb := 0, M := tabM [(81, impl_reachOn.stub), (73, impl_onBoard.stub)], MM := tabB [] }
noncomputable def impl_reachTo.res (n : Nat) (a0 : ByteArray) (a1_0 : Int) (a1_1 : Int) (a1_2 : Int) (a1_3 : Int) (a1_4 : Int) (a1_5 : Int) (a1_6 : Int) (a1_7 : Int) (a2_0 : Int) (a2_1 : Int) (a2_2 : Int) (a2_3 : Int) (a2_4 : Int) (a2_5 : Int) (a2_6 : Int) (a2_7 : Int) : Option (List Q) :=
  bif decide (ByteArray.size a0 < (17179869184 : Nat)) then bif okSt a0 (Sta.mk a1_0 a1_1 (Die.mk a1_2 a1_3 a1_4 a1_5 a1_6 a1_7)) then bif decide (ByteArray.size a0 < (17179869184 : Nat)) then bif !(isBo brd a0 && (Die.good (Die.mk a2_2 a2_3 a2_4 a2_5 a2_6 a2_7) && isFl (rws a0) a2_0 a2_1)) then some [Q.one D.nilp, Q.one (D.int IntKind.i64 (0 : Int)), Q.one (D.bool false)] else Option.bind (mpGet [D.int IntKind.i64 a2_0, D.int IntKind.i64 a2_1, D.int IntKind.i64 a2_2, D.int IntKind.i64 a2_3, D.int IntKind.i64 a2_4, D.int IntKind.i64 a2_5, D.int IntKind.i64 a2_6, D.int IntKind.i64 a2_7] (plU (usC (wyC (isFl (rws a0)) (Sta.mk a1_0 a1_1 (Die.mk a1_2 a1_3 a1_4 a1_5 a1_6 a1_7)))))) fun (d1 : Option (List D)) => bif decide (List.length (Option.getD d1 [D.int IntKind.i64 (0 : Int)]) = (1 : Nat)) then Option.bind (Option.bind (some (cellD [Option.getD d1 [D.int IntKind.i64 (0 : Int)]] (0 : Nat) (0 : Nat))) (D.int? IntKind.i64)) fun (i2 : Int) => bif !Option.isSome d1 then some [Q.one (D.pt [D.sl (8 : Nat) (Cod.encs stC (usC (wyC (isFl (rws a0)) (Sta.mk a1_0 a1_1 (Die.mk a1_2 a1_3 a1_4 a1_5 a1_6 a1_7))))), D.sl (1 : Nat) (Cod.encs intC (besC (wyC (isFl (rws a0)) (Sta.mk a1_0 a1_1 (Die.mk a1_2 a1_3 a1_4 a1_5 a1_6 a1_7))))), D.sl (1 : Nat) (Cod.encs u8C (rlsC (wyC (isFl (rws a0)) (Sta.mk a1_0 a1_1 (Die.mk a1_2 a1_3 a1_4 a1_5 a1_6 a1_7))))), D.sl (1 : Nat) (Cod.encs intC (fasC (wyC (isFl (rws a0)) (Sta.mk a1_0 a1_1 (Die.mk a1_2 a1_3 a1_4 a1_5 a1_6 a1_7))))), D.mp (plU (usC (wyC (isFl (rws a0)) (Sta.mk a1_0 a1_1 (Die.mk a1_2 a1_3 a1_4 a1_5 a1_6 a1_7)))))]), Q.one (D.int IntKind.i64 (-1 : Int)), Q.one (D.bool true)] else some [Q.one (D.pt [D.sl (8 : Nat) (Cod.encs stC (usC (wyC (isFl (rws a0)) (Sta.mk a1_0 a1_1 (Die.mk a1_2 a1_3 a1_4 a1_5 a1_6 a1_7))))), D.sl (1 : Nat) (Cod.encs intC (besC (wyC (isFl (rws a0)) (Sta.mk a1_0 a1_1 (Die.mk a1_2 a1_3 a1_4 a1_5 a1_6 a1_7))))), D.sl (1 : Nat) (Cod.encs u8C (rlsC (wyC (isFl (rws a0)) (Sta.mk a1_0 a1_1 (Die.mk a1_2 a1_3 a1_4 a1_5 a1_6 a1_7))))), D.sl (1 : Nat) (Cod.encs intC (fasC (wyC (isFl (rws a0)) (Sta.mk a1_0 a1_1 (Die.mk a1_2 a1_3 a1_4 a1_5 a1_6 a1_7))))), D.mp (plU (usC (wyC (isFl (rws a0)) (Sta.mk a1_0 a1_1 (Die.mk a1_2 a1_3 a1_4 a1_5 a1_6 a1_7)))))]), Q.one (D.int IntKind.i64 i2), Q.one (D.bool true)] else none else none else bif decide (ByteArray.size a0 < (17179869184 : Nat)) then some [Q.one D.nilp, Q.one (D.int IntKind.i64 (0 : Int)), Q.one (D.bool false)] else none else none
theorem impl_reachTo.run (n : Nat) (a0 : ByteArray) (a1_0 : Int) (a1_1 : Int) (a1_2 : Int) (a1_3 : Int) (a1_4 : Int) (a1_5 : Int) (a1_6 : Int) (a1_7 : Int) (a2_0 : Int) (a2_1 : Int) (a2_2 : Int) (a2_3 : Int) (a2_4 : Int) (a2_5 : Int) (a2_6 : Int) (a2_7 : Int) :
    run1 impl_reachTo.cfg [RK.one (LK.nl D.nilp), RK.one (LK.int IntKind.i64), RK.one LK.bool] n Tryd.f87 [Q.one (D.str a0), Q.agg [D.int IntKind.i64 a1_0, D.int IntKind.i64 a1_1, D.int IntKind.i64 a1_2, D.int IntKind.i64 a1_3, D.int IntKind.i64 a1_4, D.int IntKind.i64 a1_5, D.int IntKind.i64 a1_6, D.int IntKind.i64 a1_7], Q.agg [D.int IntKind.i64 a2_0, D.int IntKind.i64 a2_1, D.int IntKind.i64 a2_2, D.int IntKind.i64 a2_3, D.int IntKind.i64 a2_4, D.int IntKind.i64 a2_5, D.int IntKind.i64 a2_6, D.int IntKind.i64 a2_7]] = impl_reachTo.res n a0 a1_0 a1_1 a1_2 a1_3 a1_4 a1_5 a1_6 a1_7 a2_0 a2_1 a2_2 a2_3 a2_4 a2_5 a2_6 a2_7 := by kernel_rfl
theorem impl_reachTo.ev {n : Nat} {a0 : ByteArray} {a1_0 : Int} {a1_1 : Int} {a1_2 : Int} {a1_3 : Int} {a1_4 : Int} {a1_5 : Int} {a1_6 : Int} {a1_7 : Int} {a2_0 : Int} {a2_1 : Int} {a2_2 : Int} {a2_3 : Int} {a2_4 : Int} {a2_5 : Int} {a2_6 : Int} {a2_7 : Int} {r : List Q} (h : impl_reachTo.res n a0 a1_0 a1_1 a1_2 a1_3 a1_4 a1_5 a1_6 a1_7 a2_0 a2_1 a2_2 a2_3 a2_4 a2_5 a2_6 a2_7 = some r) : Snd Tryd.prog C0 87 [.one (.str a0), .agg [.int .i64 a1_0, .int .i64 a1_1, .int .i64 a1_2, .int .i64 a1_3, .int .i64 a1_4, .int .i64 a1_5, .int .i64 a1_6, .int .i64 a1_7], .agg [.int .i64 a2_0, .int .i64 a2_1, .int .i64 a2_2, .int .i64 a2_3, .int .i64 a2_4, .int .i64 a2_5, .int .i64 a2_6, .int .i64 a2_7]] r :=
  snd_ev (C := impl_reachTo.cfg) cfg0 mix rfl rfl rfl rfl rfl (.cons impl_reachOn.ok (.cons impl_onBoard.ok .nil)) .nil rfl Tryd.func87 (by kernel_rfl) (by kernel_rfl) rfl ((impl_reachTo.run n a0 a1_0 a1_1 a1_2 a1_3 a1_4 a1_5 a1_6 a1_7 a2_0 a2_1 a2_2 a2_3 a2_4 a2_5 a2_6 a2_7).trans h)

def impl_reachTo.stub : Stub
  | [.one (.str q), .agg [.int .i64 x, .int .i64 y, .int .i64 t, .int .i64 n, .int .i64 e, .int .i64 s, .int .i64 w, .int .i64 b], .agg [.int .i64 x', .int .i64 y', .int .i64 t', .int .i64 n', .int .i64 e', .int .i64 s', .int .i64 w', .int .i64 b']] => .gd (decide (q.size < LIM)) (.ite (Sp.okSt q ⟨x, y, ⟨t, n, e, s, w, b⟩⟩ && Sp.okSt q ⟨x', y', ⟨t', n', e', s', w', b'⟩⟩) (.ret [.one (.pt [.sl 8 (stC.encs (Sp.usC (Sp.wyC (Sp.isFl (Sp.rws q)) ⟨x, y, ⟨t, n, e, s, w, b⟩⟩))), .sl 1 (intC.encs (Sp.besC (Sp.wyC (Sp.isFl (Sp.rws q)) ⟨x, y, ⟨t, n, e, s, w, b⟩⟩))), .sl 1 (u8C.encs (Sp.rlsC (Sp.wyC (Sp.isFl (Sp.rws q)) ⟨x, y, ⟨t, n, e, s, w, b⟩⟩))), .sl 1 (intC.encs (Sp.fasC (Sp.wyC (Sp.isFl (Sp.rws q)) ⟨x, y, ⟨t, n, e, s, w, b⟩⟩))), .mp (Sp.plU (Sp.usC (Sp.wyC (Sp.isFl (Sp.rws q)) ⟨x, y, ⟨t, n, e, s, w, b⟩⟩)))]), .one (.int .i64 (Sp.atU ⟨x', y', ⟨t', n', e', s', w', b'⟩⟩ (Sp.usC (Sp.wyC (Sp.isFl (Sp.rws q)) ⟨x, y, ⟨t, n, e, s, w, b⟩⟩)))), .one (.bool true)]) (.ret [.one .nilp, .one (.int .i64 0), .one (.bool false)]))
  | _ => .fail
theorem impl_reachTo.ok : StubOk Tryd.prog C0 87 impl_reachTo.stub := by
  intro args res h
  unfold impl_reachTo.stub at h
  split at h
  · rename_i q x y t n e s w b x' y' t' n' e' s' w' b'
    obtain ⟨hs, h0⟩ := gd_out h
    have h0 := ite_out h0
    refine impl_reachTo.ev (n := 0) ?_
    unfold LIM at hs
    unfold impl_reachTo.res
    rw [hs, show (isBo brd q && (Die.good ⟨t', n', e', s', w', b'⟩ && isFl (rws q) x' y')) = okSt q ⟨x', y', ⟨t', n', e', s', w', b'⟩⟩ from rfl]
    obtain ⟨d, h1, h2, h3⟩ := mpGet_k ⟨x', y', ⟨t', n', e', s', w', b'⟩⟩ (usC (wyC (isFl (rws q)) ⟨x, y, ⟨t, n, e, s, w, b⟩⟩))
    have h1 : mpGet [D.int .i64 x', D.int .i64 y', D.int .i64 t', D.int .i64 n', D.int .i64 e', D.int .i64 s', D.int .i64 w', D.int .i64 b'] (plU (usC (wyC (isFl (rws q)) ⟨x, y, ⟨t, n, e, s, w, b⟩⟩))) = some d := h1
    cases ho : okSt q ⟨x, y, ⟨t, n, e, s, w, b⟩⟩ with
    | false =>
      rw [ho] at h0
      cases okSt q ⟨x', y', ⟨t', n', e', s', w', b'⟩⟩ <;> exact h0
    | true =>
      rw [ho] at h0
      cases ho2 : okSt q ⟨x', y', ⟨t', n', e', s', w', b'⟩⟩ with
      | false => rw [ho2] at h0; exact h0
      | true =>
        rw [ho2] at h0
        simp only [Bool.not_true, Bool.or_self, cond_false, cond_true, h1, Option.bind_some, h2, cell1, h3]
        rw [← h0]
        unfold atU kAt
        cases posOf ⟨x', y', ⟨t', n', e', s', w', b'⟩⟩ (usC (wyC (isFl (rws q)) ⟨x, y, ⟨t, n, e, s, w, b⟩⟩)) with
        | none => rfl
        | some j => rfl
  · cases h
/-! impl_CountShortest -/
noncomputable def impl_CountShortest.cfg : Cfg := { C0 with keep := fun | 8 => some [8, 9, 11, 13, 49, 50, 51] | 11 => some [8, 9, 11, 13, 14, 15, 49, 50, 51, 56] | _ => none, nb := 0, M := tabM [(87, impl_reachTo.stub), (49, impl_board.stub), (86, impl_grid_roll_i.stub)], MM := tabB [] }
noncomputable def impl_CountShortest.l8 (n : Nat) (m8 : Nat) (l0 : List (List D)) (l1 : List (List D)) (l2 : List (List D)) (l3 : List (List D)) (l4 : List (List D × List D)) (i5 : Int) (l6 : List (List D)) (i7 : Int) (i8 : Int) (l9 : List (List D)) (l10 : List (List D)) : Option (List Q) :=
  loopAt impl_CountShortest.cfg [RK.one (LK.int IntKind.i64), RK.one LK.bool] n Tryd.f54 [1, 1, 1, 1, 1, 1, 0, 1, 0] [] m8 (St.mk [V.undef, V.undef, V.undef, V.undef, V.undef, V.undef, V.undef, V.undef, V.one true (D.pt [D.sl (8 : Nat) l0, D.sl (1 : Nat) l1, D.sl (1 : Nat) l2, D.sl (1 : Nat) l3, D.mp l4]), V.one true (D.int IntKind.i64 i5), V.undef, V.rw (0 : Nat), V.undef, V.rw (1 : Nat), V.undef, V.undef, V.undef, V.undef, V.undef, V.undef, V.undef, V.undef, V.undef, V.undef, V.undef, V.undef, V.undef, V.undef, V.undef, V.undef, V.undef, V.undef, V.undef, V.undef, V.undef, V.undef, V.undef, V.undef, V.undef, V.undef, V.undef, V.undef, V.undef, V.undef, V.undef, V.undef, V.undef, V.undef, V.undef, V.one true (D.sl (8 : Nat) l6), V.one true (D.int IntKind.i64 i7), V.one true (D.int IntKind.i64 i8), V.undef, V.undef, V.undef, V.undef, V.undef, V.undef, V.undef, V.undef, V.undef, V.undef, V.undef, V.undef, V.undef, V.undef, V.undef, V.undef, V.undef, V.undef, V.undef, V.undef, V.undef, V.undef, V.undef, V.undef, V.undef, V.undef, V.undef, V.undef, V.undef, V.undef, V.undef, V.undef, V.undef, V.undef, V.undef, V.undef, V.undef, V.undef, V.undef, V.undef, V.undef, V.undef, V.undef, V.undef, V.undef, V.undef, V.undef, V.undef, V.undef, V.undef, V.undef, V.undef, V.undef, V.undef, V.undef, V.undef, V.undef, V.undef, V.undef, V.undef] [Ob.row false (1 : Nat) l9, Ob.row false (1 : Nat) l10])
noncomputable def impl_CountShortest.l11 (n : Nat) (m8 : Nat) (m11 : Nat) (l0 : List (List D)) (l1 : List (List D)) (l2 : List (List D)) (l3 : List (List D)) (l4 : List (List D × List D)) (i5 : Int) (i6 : Int) (l7 : List (List D)) (i8 : Int) (i9 : Int) (i10 : Int) (l11 : List (List D)) (l12 : List (List D)) (i13 : Int) (i14 : Int) (i15 : Int) (i16 : Int) (i17 : Int) (i18 : Int) (i19 : Int) (i20 : Int) : Option (List Q) :=
  loopAt impl_CountShortest.cfg [RK.one (LK.int IntKind.i64), RK.one LK.bool] n Tryd.f54 [1, 1, 1, 1, 1, 1, 0, 1, 0, 0, 1, 1, 0, 0, 1, 1, 0] [m8] m11 (St.mk [V.undef, V.undef, V.undef, V.undef, V.undef, V.undef, V.undef, V.undef, V.one true (D.pt [D.sl (8 : Nat) l0, D.sl (1 : Nat) l1, D.sl (1 : Nat) l2, D.sl (1 : Nat) l3, D.mp l4]), V.one true (D.int IntKind.i64 i5), V.undef, V.rw (0 : Nat), V.undef, V.rw (1 : Nat), V.one true (D.int IntKind.i64 i6), V.rp (2 : Nat) (0 : Nat), V.undef, V.undef, V.undef, V.undef, V.undef, V.undef, V.undef, V.undef, V.undef, V.undef, V.undef, V.undef, V.undef, V.undef, V.undef, V.undef, V.undef, V.undef, V.undef, V.undef, V.undef, V.undef, V.undef, V.undef, V.undef, V.undef, V.undef, V.undef, V.undef, V.undef, V.undef, V.undef, V.undef, V.one true (D.sl (8 : Nat) l7), V.one true (D.int IntKind.i64 i8), V.one true (D.int IntKind.i64 i9), V.undef, V.undef, V.undef, V.undef, V.one true (D.int IntKind.i64 i10), V.undef, V.undef, V.undef, V.undef, V.undef, V.undef, V.undef, V.undef, V.undef, V.undef, V.undef, V.undef, V.undef, V.undef, V.undef, V.undef, V.undef, V.undef, V.undef, V.undef, V.undef, V.undef, V.undef, V.undef, V.undef, V.undef, V.undef, V.undef, V.undef, V.undef, V.undef, V.undef, V.undef, V.undef, V.undef, V.undef, V.undef, V.undef, V.undef, V.undef, V.undef, V.undef, V.undef, V.undef, V.undef, V.undef, V.undef, V.undef, V.undef, V.undef, V.undef, V.undef, V.undef, V.undef, V.undef] [Ob.row false (1 : Nat) l11, Ob.row false (1 : Nat) l12, Ob.box [V.one true (D.int IntKind.i64 i13), V.one true (D.int IntKind.i64 i14), V.one true (D.int IntKind.i64 i15), V.one true (D.int IntKind.i64 i16), V.one true (D.int IntKind.i64 i17), V.one true (D.int IntKind.i64 i18), V.one true (D.int IntKind.i64 i19), V.one true (D.int IntKind.i64 i20)]])
theorem impl_CountShortest.l8_eq (n : Nat) (m8 : Nat) (l0 : List (List D)) (l1 : List (List D)) (l2 : List (List D)) (l3 : List (List D)) (l4 : List (List D × List D)) (i5 : Int) (l6 : List (List D)) (i7 : Int) (i8 : Int) (l9 : List (List D)) (l10 : List (List D)) :
    impl_CountShortest.l8 n (m8 + 1) l0 l1 l2 l3 l4 i5 l6 i7 i8 l9 l10 = bif decide (i8 < i7) then bif decide ((0 : Int) ≤ i8) then bif decide (i8 < (↑(List.length l6) : Int)) then Option.bind (Option.bind (some (cellD l6 (Int.toNat i8) (0 : Nat))) (D.int? IntKind.i64)) fun (i1 : Int) => Option.bind (Option.bind (some (cellD l6 (Int.toNat i8) (1 : Nat))) (D.int? IntKind.i64)) fun (i2 : Int) => Option.bind (Option.bind (some (cellD l6 (Int.toNat i8) (2 : Nat))) (D.int? IntKind.i64)) fun (i3 : Int) => Option.bind (Option.bind (some (cellD l6 (Int.toNat i8) (3 : Nat))) (D.int? IntKind.i64)) fun (i4 : Int) => Option.bind (Option.bind (some (cellD l6 (Int.toNat i8) (4 : Nat))) (D.int? IntKind.i64)) fun (i5_1 : Int) => Option.bind (Option.bind (some (cellD l6 (Int.toNat i8) (5 : Nat))) (D.int? IntKind.i64)) fun (i6 : Int) => Option.bind (Option.bind (some (cellD l6 (Int.toNat i8) (6 : Nat))) (D.int? IntKind.i64)) fun (i7_1 : Int) => Option.bind (Option.bind (some (cellD l6 (Int.toNat i8) (7 : Nat))) (D.int? IntKind.i64)) fun (i8_1 : Int) => impl_CountShortest.l11 n m8 n l0 l1 l2 l3 l4 i5 i8 l6 i7 i8 (0 : Int) l9 l10 i1 i2 i3 i4 i5_1 i6 i7_1 i8_1 else none else none else bif decide ((0 : Int) ≤ i5) then bif decide (i5 < (↑(List.length l10) : Int)) then Option.bind (Option.bind (some (cellD l10 (Int.toNat i5) (0 : Nat))) (D.int? IntKind.i64)) fun (i9 : Int) => some [Q.one (D.int IntKind.i64 i9), Q.one (D.bool true)] else none else none := by kernel_rfl
theorem impl_CountShortest.l11_eq (n : Nat) (m8 : Nat) (m11 : Nat) (l0 : List (List D)) (l1 : List (List D)) (l2 : List (List D)) (l3 : List (List D)) (l4 : List (List D × List D)) (i5 : Int) (i6 : Int) (l7 : List (List D)) (i8 : Int) (i9 : Int) (i10 : Int) (l11 : List (List D)) (l12 : List (List D)) (i13 : Int) (i14 : Int) (i15 : Int) (i16 : Int) (i17 : Int) (i18 : Int) (i19 : Int) (i20 : Int) :
    impl_CountShortest.l11 n m8 (m11 + 1) l0 l1 l2 l3 l4 i5 i6 l7 i8 i9 i10 l11 l12 i13 i14 i15 i16 i17 i18 i19 i20 = bif decide (i10 < (4 : Int)) then bif decide ((0 : Int) ≤ i10) then bif decide (i10 < (4 : Int)) then Option.bind (Cod.decs strC l11) fun (l10 : List ByteArray) => bif unif (lb l10) then bif smallR l10 then bif inR i13 (0 : Int) (6 : Int) then bif inR i14 (0 : Int) (6 : Int) then bif isFl (lb l10) (Sta.x (mv (Sta.mk i13 i14 (Die.mk i15 i16 i17 i18 i19 i20)) (byteAt (ByteArray.mk #[(110 : UInt8), (101 : UInt8), (115 : UInt8), (119 : UInt8)]) (Int.toNat i10)))) (Sta.y (mv (Sta.mk i13 i14 (Die.mk i15 i16 i17 i18 i19 i20)) (byteAt (ByteArray.mk #[(110 : UInt8), (101 : UInt8), (115 : UInt8), (119 : UInt8)]) (Int.toNat i10)))) then Option.bind (mpGet [D.int IntKind.i64 (Sta.x (mv (Sta.mk i13 i14 (Die.mk i15 i16 i17 i18 i19 i20)) (byteAt (ByteArray.mk #[(110 : UInt8), (101 : UInt8), (115 : UInt8), (119 : UInt8)]) (Int.toNat i10)))), D.int IntKind.i64 (Sta.y (mv (Sta.mk i13 i14 (Die.mk i15 i16 i17 i18 i19 i20)) (byteAt (ByteArray.mk #[(110 : UInt8), (101 : UInt8), (115 : UInt8), (119 : UInt8)]) (Int.toNat i10)))), D.int IntKind.i64 (Die.t (Sta.d (mv (Sta.mk i13 i14 (Die.mk i15 i16 i17 i18 i19 i20)) (byteAt (ByteArray.mk #[(110 : UInt8), (101 : UInt8), (115 : UInt8), (119 : UInt8)]) (Int.toNat i10))))), D.int IntKind.i64 (Die.n (Sta.d (mv (Sta.mk i13 i14 (Die.mk i15 i16 i17 i18 i19 i20)) (byteAt (ByteArray.mk #[(110 : UInt8), (101 : UInt8), (115 : UInt8), (119 : UInt8)]) (Int.toNat i10))))), D.int IntKind.i64 (Die.e (Sta.d (mv (Sta.mk i13 i14 (Die.mk i15 i16 i17 i18 i19 i20)) (byteAt (ByteArray.mk #[(110 : UInt8), (101 : UInt8), (115 : UInt8), (119 : UInt8)]) (Int.toNat i10))))), D.int IntKind.i64 (Die.s (Sta.d (mv (Sta.mk i13 i14 (Die.mk i15 i16 i17 i18 i19 i20)) (byteAt (ByteArray.mk #[(110 : UInt8), (101 : UInt8), (115 : UInt8), (119 : UInt8)]) (Int.toNat i10))))), D.int IntKind.i64 (Die.w (Sta.d (mv (Sta.mk i13 i14 (Die.mk i15 i16 i17 i18 i19 i20)) (byteAt (ByteArray.mk #[(110 : UInt8), (101 : UInt8), (115 : UInt8), (119 : UInt8)]) (Int.toNat i10))))), D.int IntKind.i64 (Die.b (Sta.d (mv (Sta.mk i13 i14 (Die.mk i15 i16 i17 i18 i19 i20)) (byteAt (ByteArray.mk #[(110 : UInt8), (101 : UInt8), (115 : UInt8), (119 : UInt8)]) (Int.toNat i10)))))] l4) fun (d11 : Option (List D)) => bif decide (List.length (Option.getD d11 [D.int IntKind.i64 (0 : Int)]) = (1 : Nat)) then Option.bind (Option.bind (some (cellD [Option.getD d11 [D.int IntKind.i64 (0 : Int)]] (0 : Nat) (0 : Nat))) (D.int? IntKind.i64)) fun (i12 : Int) => bif decide ((0 : Int) ≤ i12) then bif decide (i12 < (↑(List.length l3) : Int)) then Option.bind (Option.bind (some (cellD l3 (Int.toNat i12) (0 : Nat))) (D.int? IntKind.i64)) fun (i13_1 : Int) => bif decide ((0 : Int) ≤ i6) then bif decide (i6 < (↑(List.length l3) : Int)) then Option.bind (Option.bind (some (cellD l3 (Int.toNat i6) (0 : Nat))) (D.int? IntKind.i64)) fun (i14_1 : Int) => bif i13_1 == IntKind.wrap IntKind.i64 (i14_1 + (1 : Int)) then Option.bind (mpGet [D.int IntKind.i64 (Sta.x (mv (Sta.mk i13 i14 (Die.mk i15 i16 i17 i18 i19 i20)) (byteAt (ByteArray.mk #[(110 : UInt8), (101 : UInt8), (115 : UInt8), (119 : UInt8)]) (Int.toNat i10)))), D.int IntKind.i64 (Sta.y (mv (Sta.mk i13 i14 (Die.mk i15 i16 i17 i18 i19 i20)) (byteAt (ByteArray.mk #[(110 : UInt8), (101 : UInt8), (115 : UInt8), (119 : UInt8)]) (Int.toNat i10)))), D.int IntKind.i64 (Die.t (Sta.d (mv (Sta.mk i13 i14 (Die.mk i15 i16 i17 i18 i19 i20)) (byteAt (ByteArray.mk #[(110 : UInt8), (101 : UInt8), (115 : UInt8), (119 : UInt8)]) (Int.toNat i10))))), D.int IntKind.i64 (Die.n (Sta.d (mv (Sta.mk i13 i14 (Die.mk i15 i16 i17 i18 i19 i20)) (byteAt (ByteArray.mk #[(110 : UInt8), (101 : UInt8), (115 : UInt8), (119 : UInt8)]) (Int.toNat i10))))), D.int IntKind.i64 (Die.e (Sta.d (mv (Sta.mk i13 i14 (Die.mk i15 i16 i17 i18 i19 i20)) (byteAt (ByteArray.mk #[(110 : UInt8), (101 : UInt8), (115 : UInt8), (119 : UInt8)]) (Int.toNat i10))))), D.int IntKind.i64 (Die.s (Sta.d (mv (Sta.mk i13 i14 (Die.mk i15 i16 i17 i18 i19 i20)) (byteAt (ByteArray.mk #[(110 : UInt8), (101 : UInt8), (115 : UInt8), (119 : UInt8)]) (Int.toNat i10))))), D.int IntKind.i64 (Die.w (Sta.d (mv (Sta.mk i13 i14 (Die.mk i15 i16 i17 i18 i19 i20)) (byteAt (ByteArray.mk #[(110 : UInt8), (101 : UInt8), (115 : UInt8), (119 : UInt8)]) (Int.toNat i10))))), D.int IntKind.i64 (Die.b (Sta.d (mv (Sta.mk i13 i14 (Die.mk i15 i16 i17 i18 i19 i20)) (byteAt (ByteArray.mk #[(110 : UInt8), (101 : UInt8), (115 : UInt8), (119 : UInt8)]) (Int.toNat i10)))))] l4) fun (d15 : Option (List D)) => bif decide (List.length (Option.getD d15 [D.int IntKind.i64 (0 : Int)]) = (1 : Nat)) then Option.bind (Option.bind (some (cellD [Option.getD d15 [D.int IntKind.i64 (0 : Int)]] (0 : Nat) (0 : Nat))) (D.int? IntKind.i64)) fun (i16_1 : Int) => bif decide ((0 : Int) ≤ i16_1) then bif decide (i16_1 < (↑(List.length l12) : Int)) then Option.bind (Option.bind (some (cellD l12 (Int.toNat i16_1) (0 : Nat))) (D.int? IntKind.i64)) fun (i17_1 : Int) => bif decide ((0 : Int) ≤ i6) then bif decide (i6 < (↑(List.length l12) : Int)) then Option.bind (Option.bind (some (cellD l12 (Int.toNat i6) (0 : Nat))) (D.int? IntKind.i64)) fun (i18_1 : Int) => bif decide ((0 : Int) ≤ i16_1) then bif decide (i16_1 < (↑(List.length l12) : Int)) then impl_CountShortest.l11 n m8 m11 l0 l1 l2 l3 l4 i5 i6 l7 i8 i9 (IntKind.wrap IntKind.i64 (i10 + (1 : Int))) l11 (setRow (1 : Nat) l12 (Int.toNat i16_1) (0 : Nat) [D.int IntKind.i64 (IntKind.wrap IntKind.i64 (i17_1 + i18_1))]) i13 i14 i15 i16 i17 i18 i19 i20 else none else none else none else none else none else none else none else impl_CountShortest.l11 n m8 m11 l0 l1 l2 l3 l4 i5 i6 l7 i8 i9 (IntKind.wrap IntKind.i64 (i10 + (1 : Int))) l11 l12 i13 i14 i15 i16 i17 i18 i19 i20 else none else none else none else none else none else impl_CountShortest.l11 n m8 m11 l0 l1 l2 l3 l4 i5 i6 l7 i8 i9 (IntKind.wrap IntKind.i64 (i10 + (1 : Int))) l11 l12 i13 i14 i15 i16 i17 i18 i19 i20 else none else none else none else none else none else none else impl_CountShortest.l8 n m8 l0 l1 l2 l3 l4 i5 l7 i8 (IntKind.wrap IntKind.i64 (i9 + (1 : Int))) l11 l12 := by kernel_rfl
noncomputable def impl_CountShortest.res (n : Nat) (a0 : ByteArray) (a1_0 : Int) (a1_1 : Int) (a1_2 : Int) (a1_3 : Int) (a1_4 : Int) (a1_5 : Int) (a1_6 : Int) (a1_7 : Int) (a2_0 : Int) (a2_1 : Int) (a2_2 : Int) (a2_3 : Int) (a2_4 : Int) (a2_5 : Int) (a2_6 : Int) (a2_7 : Int) : Option (List Q) :=
  bif decide (ByteArray.size a0 < (17179869184 : Nat)) then bif okSt a0 (Sta.mk a1_0 a1_1 (Die.mk a1_2 a1_3 a1_4 a1_5 a1_6 a1_7)) && okSt a0 (Sta.mk a2_0 a2_1 (Die.mk a2_2 a2_3 a2_4 a2_5 a2_6 a2_7)) then bif decide (atU (Sta.mk a2_0 a2_1 (Die.mk a2_2 a2_3 a2_4 a2_5 a2_6 a2_7)) (usC (wyC (isFl (rws a0)) (Sta.mk a1_0 a1_1 (Die.mk a1_2 a1_3 a1_4 a1_5 a1_6 a1_7)))) < (0 : Int)) then some [Q.one (D.int IntKind.i64 (0 : Int)), Q.one (D.bool false)] else bif decide (ByteArray.size a0 < (17179869184 : Nat)) then bif decide ((↑(List.length (Cod.encs stC (usC (wyC (isFl (rws a0)) (Sta.mk a1_0 a1_1 (Die.mk a1_2 a1_3 a1_4 a1_5 a1_6 a1_7)))))) : Int) ≤ (↑(List.length (Cod.encs stC (usC (wyC (isFl (rws a0)) (Sta.mk a1_0 a1_1 (Die.mk a1_2 a1_3 a1_4 a1_5 a1_6 a1_7)))))) : Int)) then bif decide ((↑(List.length (Cod.encs stC (usC (wyC (isFl (rws a0)) (Sta.mk a1_0 a1_1 (Die.mk a1_2 a1_3 a1_4 a1_5 a1_6 a1_7)))))) : Int) ≤ (17179869184 : Int)) then bif decide ((0 : Int) < (↑(List.length (List.replicate (Int.toNat (↑(List.length (Cod.encs stC (usC (wyC (isFl (rws a0)) (Sta.mk a1_0 a1_1 (Die.mk a1_2 a1_3 a1_4 a1_5 a1_6 a1_7)))))) : Int)) [D.int IntKind.i64 (0 : Int)])) : Int)) then impl_CountShortest.l8 n n (Cod.encs stC (usC (wyC (isFl (rws a0)) (Sta.mk a1_0 a1_1 (Die.mk a1_2 a1_3 a1_4 a1_5 a1_6 a1_7))))) (Cod.encs intC (besC (wyC (isFl (rws a0)) (Sta.mk a1_0 a1_1 (Die.mk a1_2 a1_3 a1_4 a1_5 a1_6 a1_7))))) (Cod.encs u8C (rlsC (wyC (isFl (rws a0)) (Sta.mk a1_0 a1_1 (Die.mk a1_2 a1_3 a1_4 a1_5 a1_6 a1_7))))) (Cod.encs intC (fasC (wyC (isFl (rws a0)) (Sta.mk a1_0 a1_1 (Die.mk a1_2 a1_3 a1_4 a1_5 a1_6 a1_7))))) (plU (usC (wyC (isFl (rws a0)) (Sta.mk a1_0 a1_1 (Die.mk a1_2 a1_3 a1_4 a1_5 a1_6 a1_7))))) (atU (Sta.mk a2_0 a2_1 (Die.mk a2_2 a2_3 a2_4 a2_5 a2_6 a2_7)) (usC (wyC (isFl (rws a0)) (Sta.mk a1_0 a1_1 (Die.mk a1_2 a1_3 a1_4 a1_5 a1_6 a1_7))))) (Cod.encs stC (usC (wyC (isFl (rws a0)) (Sta.mk a1_0 a1_1 (Die.mk a1_2 a1_3 a1_4 a1_5 a1_6 a1_7))))) (↑(List.length (Cod.encs stC (usC (wyC (isFl (rws a0)) (Sta.mk a1_0 a1_1 (Die.mk a1_2 a1_3 a1_4 a1_5 a1_6 a1_7)))))) : Int) (0 : Int) (Cod.encs strC (gridI brd a0)) (setRow (1 : Nat) (List.replicate (Int.toNat (↑(List.length (Cod.encs stC (usC (wyC (isFl (rws a0)) (Sta.mk a1_0 a1_1 (Die.mk a1_2 a1_3 a1_4 a1_5 a1_6 a1_7)))))) : Int)) [D.int IntKind.i64 (0 : Int)]) (Int.toNat (0 : Int)) (0 : Nat) [D.int IntKind.i64 (1 : Int)]) else none else none else none else none else some [Q.one (D.int IntKind.i64 (0 : Int)), Q.one (D.bool false)] else none
theorem impl_CountShortest.run (n : Nat) (a0 : ByteArray) (a1_0 : Int) (a1_1 : Int) (a1_2 : Int) (a1_3 : Int) (a1_4 : Int) (a1_5 : Int) (a1_6 : Int) (a1_7 : Int) (a2_0 : Int) (a2_1 : Int) (a2_2 : Int) (a2_3 : Int) (a2_4 : Int) (a2_5 : Int) (a2_6 : Int) (a2_7 : Int) :
    run1 impl_CountShortest.cfg [RK.one (LK.int IntKind.i64), RK.one LK.bool] n Tryd.f54 [Q.one (D.str a0), Q.agg [D.int IntKind.i64 a1_0, D.int IntKind.i64 a1_1, D.int IntKind.i64 a1_2, D.int IntKind.i64 a1_3, D.int IntKind.i64 a1_4, D.int IntKind.i64 a1_5, D.int IntKind.i64 a1_6, D.int IntKind.i64 a1_7], Q.agg [D.int IntKind.i64 a2_0, D.int IntKind.i64 a2_1, D.int IntKind.i64 a2_2, D.int IntKind.i64 a2_3, D.int IntKind.i64 a2_4, D.int IntKind.i64 a2_5, D.int IntKind.i64 a2_6, D.int IntKind.i64 a2_7]] = impl_CountShortest.res n a0 a1_0 a1_1 a1_2 a1_3 a1_4 a1_5 a1_6 a1_7 a2_0 a2_1 a2_2 a2_3 a2_4 a2_5 a2_6 a2_7 := by kernel_rfl
theorem impl_CountShortest.ev {n : Nat} {a0 : ByteArray} {a1_0 : Int} {a1_1 : Int} {a1_2 : Int} {a1_3 : Int} {a1_4 : Int} {a1_5 : Int} {a1_6 : Int} {a1_7 : Int} {a2_0 : Int} {a2_1 : Int} {a2_2 : Int} {a2_3 : Int} {a2_4 : Int} {a2_5 : Int} {a2_6 : Int} {a2_7 : Int} {r : List Q} (h : impl_CountShortest.res n a0 a1_0 a1_1 a1_2 a1_3 a1_4 a1_5 a1_6 a1_7 a2_0 a2_1 a2_2 a2_3 a2_4 a2_5 a2_6 a2_7 = some r) : Snd Tryd.prog C0 54 [.one (.str a0), .agg [.int .i64 a1_0, .int .i64 a1_1, .int .i64 a1_2, .int .i64 a1_3, .int .i64 a1_4, .int .i64 a1_5, .int .i64 a1_6, .int .i64 a1_7], .agg [.int .i64 a2_0, .int .i64 a2_1, .int .i64 a2_2, .int .i64 a2_3, .int .i64 a2_4, .int .i64 a2_5, .int .i64 a2_6, .int .i64 a2_7]] r :=
  snd_ev (C := impl_CountShortest.cfg) cfg0 mix rfl rfl rfl rfl rfl (.cons impl_reachTo.ok (.cons impl_board.ok (.cons impl_grid_roll_i.ok .nil))) .nil rfl Tryd.func54 (by kernel_rfl) (by kernel_rfl) rfl ((impl_CountShortest.run n a0 a1_0 a1_1 a1_2 a1_3 a1_4 a1_5 a1_6 a1_7 a2_0 a2_1 a2_2 a2_3 a2_4 a2_5 a2_6 a2_7).trans h)

section
variable {l : List ByteArray} {l0 l1 l2 : List (List D)} {g : Int} {C : List Cr} {n : Nat}
theorem impl_CountShortest.l11_run {m8 k k' : Nat} (hu : unif (lb l) = true) (hs : smallR l = true) (hld : strC.decs (strC.encs l) = some l) (ho : COrd k' C) (hk : k < C.length) (hlen : C.length < BIG) (gx : inR C[k].u.x 0 6 = true) (gy : inR C[k].u.y 0 6 = true) :
    ∀ (d dir m : Nat) (A : List Int), dir + d = 4 → d < m → A.length = C.length →
    impl_CountShortest.l11 n m8 m l0 l1 l2 (intC.encs (C.map Cr.far)) (plU (C.map Cr.u)) g (k : Int) (stC.encs (C.map Cr.u)) ((C.length : Nat) : Int) (k : Int) (dir : Int) (strC.encs l) (intC.encs A) C[k].u.x C[k].u.y C[k].u.d.t C[k].u.d.n C[k].u.d.e C[k].u.d.s C[k].u.d.w C[k].u.d.b = impl_CountShortest.l8 n m8 l0 l1 l2 (intC.encs (C.map Cr.far)) (plU (C.map Cr.u)) g (stC.encs (C.map Cr.u)) ((C.length : Nat) : Int) ((k + 1 : Nat) : Int) (strC.encs l) (intC.encs (addF (isFl (lb l)) C k d dir A)) := by
  intro d
  induction d with
  | zero =>
    intro dir m A hi hm hA
    obtain ⟨m, rfl⟩ : ∃ m', m = m' + 1 := ⟨m - 1, by omega⟩
    have h1 : ¬ (dir : Int) < 4 := by omega
    rw [impl_CountShortest.l11_eq]
    simp only [h1, decide_false, cond_false, wrap_succ (show k ≤ LIM by unfold LIM; unfold BIG at hlen; omega)]
    rfl
  | succ d ih =>
    intro dir m A hi hm hA
    obtain ⟨m, rfl⟩ : ∃ m', m = m' + 1 := ⟨m - 1, by omega⟩
    have hd : dir < 4 := by omega
    have h1 : (dir : Int) < 4 := by omega
    unfold BIG at hlen
    have hk' : C[k]? = some C[k] := List.getElem?_eq_getElem hk
    have hfar := far_le ho (k + 1) k C[k] (by omega) hk'
    have hwf : IntKind.wrap .i64 (C[k].far + 1) = C[k].far + 1 := wrap_in (by omega) (by omega)
    obtain ⟨t, ht⟩ : ∃ t, t = rollK C[k].u (dir : Int) := ⟨_, rfl⟩
    have hro : mv ⟨C[k].u.x, C[k].u.y, C[k].u.d⟩ (byteAt (ByteArray.mk #[110, 101, 115, 119]) dir) = t := by
      rw [ht]
      exact Option.some.inj (mvO_dir C[k].u hd)
    have hadd := addA_at (p := isFl (lb l)) ho hk' (dir : Int) A
    rw [← ht] at hadd
    obtain ⟨dv, g1, g2, _⟩ := mpGet_k t (C.map Cr.u)
    have hkt : kAt t (C.map Cr.u) < C.length := by
      have := posOf_lt (t := t) (l := C.map Cr.u) (by rw [List.length_map]; omega)
      rwa [List.length_map] at this
    generalize hkv : kAt t (C.map Cr.u) = j at g2 hkt hadd
    have hjf : j < (C.map Cr.far).length := by rw [List.length_map]; exact hkt
    have hkf : k < (C.map Cr.far).length := by rw [List.length_map]; exact hk
    have c8 := intC_at hkf
    have c9 := intC_at hjf
    rw [List.getElem_map] at c8
    have hjA : j < A.length := by omega
    have hkA : k < A.length := by omega
    have c10 := intC_at hjA
    have c11 := intC_at hkA
    have eF : (C.map Cr.far).getD j 0 = (C.map Cr.far)[j] := by rw [List.getD_eq_getElem?_getD, List.getElem?_eq_getElem hjf]; rfl
    have eJ : A.getD j 0 = A[j] := by rw [List.getD_eq_getElem?_getD, List.getElem?_eq_getElem hjA]; rfl
    have eK : A.getD k 0 = A[k] := by rw [List.getD_eq_getElem?_getD, List.getElem?_eq_getElem hkA]; rfl
    rw [eF, eJ, eK] at hadd
    have hki : (k : Int) < ((C.length : Nat) : Int) := by omega
    have hji : (j : Int) < ((C.length : Nat) : Int) := by omega
    have step := ih (dir + 1) m (addA (isFl (lb l)) C k (dir : Int) A) (by omega) (by omega) (by rw [addA_len]; exact hA)
    rw [show addF (isFl (lb l)) C k (d + 1) dir A = addF (isFl (lb l)) C k d (dir + 1) (addA (isFl (lb l)) C k (dir : Int) A) from rfl]
    refine Eq.trans ?_ step
    rw [hadd, impl_CountShortest.l11_eq]
    have one : ∀ v : D, decide ([v].length = 1) = true := fun _ => rfl
    simp only [h1, hki, hji, Cod.encs_len, List.length_map, hA, Int.natCast_nonneg, Int.toNat_natCast, decide_true, cond_true, Option.bind_some, hld, hu, hs, gx, gy, Die.eta, hro, g1, g2, one, cell1, c8, c9, c10, c11, hwf, ieq, wrap_succ (show dir ≤ LIM by unfold LIM; omega)]
    cases isFl (lb l) t.x t.y with
    | false => simp only [cond_false, Bool.false_and]
    | true =>
      simp only [cond_true, Bool.true_and]
      by_cases hf : (C.map Cr.far)[j] = C[k].far + 1
      · simp only [hf, decide_true, cond_true, intC_set]
      · simp only [hf, decide_false, cond_false]
theorem impl_CountShortest.l8_run {k' : Nat} (hn : 4 < n) (hu : unif (lb l) = true) (hs : smallR l = true) (hld : strC.decs (strC.encs l) = some l) (ho : COrd k' C) (hlen : C.length < BIG) (gd : ∀ a ∈ C, inR a.u.x 0 6 = true ∧ inR a.u.y 0 6 = true) (hg0 : 0 ≤ g) (hg1 : g < ((C.length : Nat) : Int)) :
    ∀ (d k m : Nat) (A : List Int), k + d = C.length → d < m → A.length = C.length →
    impl_CountShortest.l8 n m l0 l1 l2 (intC.encs (C.map Cr.far)) (plU (C.map Cr.u)) g (stC.encs (C.map Cr.u)) ((C.length : Nat) : Int) (k : Int) (strC.encs l) (intC.encs A) = some [Q.one (.int .i64 ((cntF (isFl (lb l)) C d k A).getD g.toNat 0)), Q.one (.bool true)] := by
  intro d
  induction d with
  | zero =>
    intro k m A hi hm hA
    obtain ⟨m, rfl⟩ : ∃ m', m = m' + 1 := ⟨m - 1, by omega⟩
    have h1 : ¬ (k : Int) < ((C.length : Nat) : Int) := by omega
    have hgA : g.toNat < A.length := by omega
    have c1 := intC_at hgA
    have e1 : A.getD g.toNat 0 = A[g.toNat] := by rw [List.getD_eq_getElem?_getD, List.getElem?_eq_getElem hgA]; rfl
    rw [impl_CountShortest.l8_eq, show cntF (isFl (lb l)) C 0 k A = A from rfl, e1]
    simp only [h1, decide_false, cond_false, hg0, Cod.encs_len, hA, hg1, decide_true, cond_true, c1, Option.bind_some]
  | succ d ih =>
    intro k m A hi hm hA
    obtain ⟨m, rfl⟩ : ∃ m', m = m' + 1 := ⟨m - 1, by omega⟩
    have hk : k < C.length := by omega
    have h1 : (k : Int) < ((C.length : Nat) : Int) := by omega
    have hku : k < (C.map Cr.u).length := by rw [List.length_map]; exact hk
    obtain ⟨c0, c1, c2, c3, c4, c5, c6, c7⟩ := st_cells hku
    rw [List.getElem_map] at c0 c1 c2 c3 c4 c5 c6 c7
    obtain ⟨gx, gy⟩ := gd C[k] (List.getElem_mem hk)
    rw [impl_CountShortest.l8_eq]
    simp only [h1, Cod.encs_len, List.length_map, Int.natCast_nonneg, Int.toNat_natCast, decide_true, cond_true, c0, c1, c2, c3, c4, c5, c6, c7, Option.bind_some]
    refine Eq.trans (impl_CountShortest.l11_run (n := n) (m8 := m) hu hs hld ho hk hlen gx gy 4 0 n A rfl hn hA) ?_
    rw [addF4]
    exact ih (k + 1) m (addA4 (isFl (lb l)) C k A) (by omega) (by omega) (by unfold addA4; simp only [addA_len, hA])
end
def impl_CountShortest.stub : Stub
  | [.one (.str q), .agg [.int .i64 x, .int .i64 y, .int .i64 t, .int .i64 n, .int .i64 e, .int .i64 s, .int .i64 w, .int .i64 b], .agg [.int .i64 x', .int .i64 y', .int .i64 t', .int .i64 n', .int .i64 e', .int .i64 s', .int .i64 w', .int .i64 b']] => .gd (decide (q.size < LIM)) (.ret [.one (.int .i64 (Sp.cntV q ⟨x, y, ⟨t, n, e, s, w, b⟩⟩ ⟨x', y', ⟨t', n', e', s', w', b'⟩⟩)), .one (.bool (Sp.twoOk q ⟨x, y, ⟨t, n, e, s, w, b⟩⟩ ⟨x', y', ⟨t', n', e', s', w', b'⟩⟩))])
  | _ => .fail
theorem atU_range (t : Sta) (us : List Sta) (h : 0 ≤ atU t us) : atU t us < (us.length : Int) := by
  unfold atU at h ⊢
  cases e : posOf t us with
  | none => rw [e] at h; exact absurd h (by decide)
  | some k =>
    obtain ⟨hk, _⟩ := posOf_some e
    show (k : Int) < _
    omega
theorem impl_CountShortest.ok : StubOk Tryd.prog C0 54 impl_CountShortest.stub := by
  intro args res h
  unfold impl_CountShortest.stub at h
  split at h
  · rename_i q x y t n e s w b x' y' t' n' e' s' w' b'
    obtain ⟨hs, h0⟩ := gd_out h
    cases h0
    obtain ⟨N, hN⟩ : ∃ N, BIG + 64 ≤ N := ⟨BIG + 64, Nat.le_refl _⟩
    refine impl_CountShortest.ev (n := N) ?_
    unfold LIM at hs
    unfold impl_CountShortest.res cntV
    rw [hs]
    have e1 : twoOk q ⟨x, y, ⟨t, n, e, s, w, b⟩⟩ ⟨x', y', ⟨t', n', e', s', w', b'⟩⟩ = (okSt q ⟨x, y, ⟨t, n, e, s, w, b⟩⟩ && (okSt q ⟨x', y', ⟨t', n', e', s', w', b'⟩⟩ && decide (0 ≤ atU ⟨x', y', ⟨t', n', e', s', w', b'⟩⟩ (usC (wyC (isFl (rws q)) ⟨x, y, ⟨t, n, e, s, w, b⟩⟩))))) := rfl
    rw [e1]
    cases ho : okSt q ⟨x, y, ⟨t, n, e, s, w, b⟩⟩ with
    | false => rfl
    | true =>
      cases ho2 : okSt q ⟨x', y', ⟨t', n', e', s', w', b'⟩⟩ with
      | false => rfl
      | true =>
        simp only [Bool.and_self, cond_true, Bool.true_and]
        by_cases hneg : atU ⟨x', y', ⟨t', n', e', s', w', b'⟩⟩ (usC (wyC (isFl (rws q)) ⟨x, y, ⟨t, n, e, s, w, b⟩⟩)) < 0
        · have hneg2 : ¬ 0 ≤ atU ⟨x', y', ⟨t', n', e', s', w', b'⟩⟩ (usC (wyC (isFl (rws q)) ⟨x, y, ⟨t, n, e, s, w, b⟩⟩)) := by omega
          simp only [hneg, hneg2, decide_true, decide_false, cond_true, cond_false]
        · have hge : 0 ≤ atU ⟨x', y', ⟨t', n', e', s', w', b'⟩⟩ (usC (wyC (isFl (rws q)) ⟨x, y, ⟨t, n, e, s, w, b⟩⟩)) := by omega
          obtain ⟨hb, hg, hfl, _, _⟩ := okSt_out ho
          obtain ⟨g1, g2, g3, g4, g5, g6⟩ := Sp.gr_ok (p := brd) hb
          have hlen := wyC_len ho
          have hinv := wyC_inv ho
          obtain ⟨k', hord⟩ := wyC_ord (isFl (rws q)) ⟨x, y, ⟨t, n, e, s, w, b⟩⟩
          have hpos := wyC_pos (isFl (rws q)) ⟨x, y, ⟨t, n, e, s, w, b⟩⟩
          have hat := atU_range ⟨x', y', ⟨t', n', e', s', w', b'⟩⟩ (usC (wyC (isFl (rws q)) ⟨x, y, ⟨t, n, e, s, w, b⟩⟩)) hge
          have hl0 : (usC (wyC (isFl (rws q)) ⟨x, y, ⟨t, n, e, s, w, b⟩⟩)).length = (wyC (isFl (rws q)) ⟨x, y, ⟨t, n, e, s, w, b⟩⟩).length := by rw [usC, List.length_map]
          rw [hl0] at hat
          have hgd : ∀ a ∈ wyC (isFl (rws q)) ⟨x, y, ⟨t, n, e, s, w, b⟩⟩, inR a.u.x 0 6 = true ∧ inR a.u.y 0 6 = true := fun a ha => by
            have := wy_ok ho a ha
            exact ⟨(okSt_out this).2.2.2.1, (okSt_out this).2.2.2.2⟩
          have hBIG : BIG = 50000000 := rfl
          have hC1 : ((wyC (isFl (rws q)) ⟨x, y, ⟨t, n, e, s, w, b⟩⟩).length : Int) ≤ 17179869184 := by omega
          have hC2 : (0 : Int) < ((wyC (isFl (rws q)) ⟨x, y, ⟨t, n, e, s, w, b⟩⟩).length : Int) := by omega
          have key := impl_CountShortest.l8_run (n := N) (l := gridI brd q) (l0 := stC.encs (usC (wyC (isFl (rws q)) ⟨x, y, ⟨t, n, e, s, w, b⟩⟩))) (l1 := intC.encs (besC (wyC (isFl (rws q)) ⟨x, y, ⟨t, n, e, s, w, b⟩⟩))) (l2 := u8C.encs (rlsC (wyC (isFl (rws q)) ⟨x, y, ⟨t, n, e, s, w, b⟩⟩))) (C := wyC (isFl (rws q)) ⟨x, y, ⟨t, n, e, s, w, b⟩⟩) (by omega) (by rw [g1]; exact g2) (small_gr hb) g5 hord hlen hgd hge hat (wyC (isFl (rws q)) ⟨x, y, ⟨t, n, e, s, w, b⟩⟩).length 0 N (w1 (wyC (isFl (rws q)) ⟨x, y, ⟨t, n, e, s, w, b⟩⟩).length) (Nat.zero_add _) (by omega) (by simp [w1])
          rw [g1] at key
          have ecnt : cntF (isFl (rws q)) (wyC (isFl (rws q)) ⟨x, y, ⟨t, n, e, s, w, b⟩⟩) (wyC (isFl (rws q)) ⟨x, y, ⟨t, n, e, s, w, b⟩⟩).length 0 (w1 (wyC (isFl (rws q)) ⟨x, y, ⟨t, n, e, s, w, b⟩⟩).length) = cntC (isFl (rws q)) (wyC (isFl (rws q)) ⟨x, y, ⟨t, n, e, s, w, b⟩⟩) := (cntF_A _ _ BIG _ 0 _ (Nat.zero_add _) hlen).symm
          rw [ecnt] at key
          have erow : setRow 1 (List.replicate (wyC (isFl (rws q)) ⟨x, y, ⟨t, n, e, s, w, b⟩⟩).length [D.int .i64 0]) 0 0 [D.int .i64 1] = intC.encs (w1 (wyC (isFl (rws q)) ⟨x, y, ⟨t, n, e, s, w, b⟩⟩).length) := by rw [intC_rep, intC_set]; rfl
          simp only [hneg, hge, decide_true, decide_false, cond_true, cond_false, Cod.encs_len, hl0, Int.toNat_natCast, List.length_replicate, hC1, hC2, Int.le_refl, Int.toNat_zero, erow]
          exact key
  · cases h
end Go.Proofs.EV.PL
set_option linter.unusedVariables false
set_option linter.unusedSimpArgs false
set_option maxHeartbeats 4000000
/-! Shortest words counted, and how many rolls are left. -/
namespace Go.Proofs.EV.PL
open Go Go.Proofs Go.Proofs.EV Sp
/-! impl_Puzzle_lefts -/
noncomputable def impl_Puzzle_lefts.cfg : Cfg := { C0 with nst := fun t => Nat.beq t 115 || Nat.beq t 45, keep := fun | 6 => some [1, 4, 6, 8, 9, 10, 50, 51, 52] | 12 => some [1, 4, 6, 8, 9, 10, 11, 12, 50, 51, 52, 70] | 21 => some [4, 8, 9, 10, 17] | 24 => some [4, 8, 9, 10, 17, 112, 113, 114] | _ => none, nb := 0, M := tabM [(81, impl_reachOn.stub), (49, impl_board.stub), (53, impl_Puzzle_isGoal.stub), (86, impl_grid_roll_i.stub)], MM := tabB [] }
noncomputable def impl_Puzzle_lefts.l6 (n : Nat) (m6 : Nat) (l0 : List (List D)) (l1 : List (List D)) (l2 : List (List D)) (l3 : List (List D)) (l4 : List (List D × List D)) (l5 : List (List D)) (i6 : Int) (i7 : Int) (s8 : ByteArray) (i9 : Int) (i10 : Int) (i11 : Int) (i12 : Int) (i13 : Int) (i14 : Int) (i15 : Int) (i16 : Int) (i17 : Int) (i18 : Int) (i19 : Int) (l20 : List (List D)) (l21 : List (List D)) (l22 : List (List (List D))) (l23 : List (List D)) : Option (List Q) :=
  loopAt impl_Puzzle_lefts.cfg [RK.one (LK.nl D.nilp), RK.own (1 : Nat)] n Tryd.f52 [1, 1, 1, 1, 1, 0, 1, 0] [] m6 (St.mk [V.undef, V.rp (0 : Nat) (0 : Nat), V.undef, V.undef, V.one true (D.pt [D.sl (8 : Nat) l0, D.sl (1 : Nat) l1, D.sl (1 : Nat) l2, D.sl (1 : Nat) l3, D.mp l4]), V.undef, V.rw (1 : Nat), V.undef, V.rw (2 : Nat), V.rw (3 : Nat), V.rw (4 : Nat), V.undef, V.undef, V.undef, V.undef, V.undef, V.undef, V.undef, V.undef, V.undef, V.undef, V.undef, V.undef, V.undef, V.undef, V.undef, V.undef, V.undef, V.undef, V.undef, V.undef, V.undef, V.undef, V.undef, V.undef, V.undef, V.undef, V.undef, V.undef, V.undef, V.undef, V.undef, V.undef, V.undef, V.undef, V.undef, V.undef, V.undef, V.undef, V.undef, V.one true (D.sl (8 : Nat) l5), V.one true (D.int IntKind.i64 i6), V.one true (D.int IntKind.i64 i7), V.undef, V.undef, V.undef, V.undef, V.undef, V.undef, V.undef, V.undef, V.undef, V.undef, V.undef, V.undef, V.undef, V.undef, V.undef, V.undef, V.undef, V.undef, V.undef, V.undef, V.undef, V.undef, V.undef, V.undef, V.undef, V.undef, V.undef, V.undef, V.undef, V.undef, V.undef, V.undef, V.undef, V.undef, V.undef, V.undef, V.undef, V.undef, V.undef, V.undef, V.undef, V.undef, V.undef, V.undef, V.undef, V.undef, V.undef, V.undef, V.undef, V.undef, V.undef, V.undef, V.undef, V.undef, V.undef, V.undef, V.undef, V.undef, V.undef, V.undef, V.undef, V.undef, V.undef, V.undef, V.undef, V.undef, V.undef, V.undef, V.undef, V.undef, V.undef, V.undef, V.undef, V.undef, V.undef, V.undef, V.undef, V.undef, V.undef, V.undef, V.undef, V.undef, V.undef, V.undef, V.undef, V.undef, V.undef, V.undef] [Ob.box [V.one true (D.str s8), V.one true (D.int IntKind.i64 i9), V.one true (D.int IntKind.i64 i10), V.one true (D.int IntKind.i64 i11), V.one true (D.int IntKind.i64 i12), V.one true (D.int IntKind.i64 i13), V.one true (D.int IntKind.i64 i14), V.one true (D.int IntKind.i64 i15), V.one true (D.int IntKind.i64 i16), V.one true (D.int IntKind.i64 i17), V.one true (D.int IntKind.i64 i18), V.one true (D.int IntKind.i64 i19)], Ob.row false (1 : Nat) l20, Ob.row false (1 : Nat) l21, Ob.nest (1 : Nat) none l22, Ob.row false (1 : Nat) l23])
noncomputable def impl_Puzzle_lefts.l12 (n : Nat) (m6 : Nat) (m12 : Nat) (l0 : List (List D)) (l1 : List (List D)) (l2 : List (List D)) (l3 : List (List D)) (l4 : List (List D × List D)) (i5 : Int) (l6 : List (List D)) (i7 : Int) (i8 : Int) (i9 : Int) (s10 : ByteArray) (i11 : Int) (i12 : Int) (i13 : Int) (i14 : Int) (i15 : Int) (i16 : Int) (i17 : Int) (i18 : Int) (i19 : Int) (i20 : Int) (i21 : Int) (l22 : List (List D)) (l23 : List (List D)) (l24 : List (List (List D))) (l25 : List (List D)) (i26 : Int) (i27 : Int) (i28 : Int) (i29 : Int) (i30 : Int) (i31 : Int) (i32 : Int) (i33 : Int) : Option (List Q) :=
  loopAt impl_Puzzle_lefts.cfg [RK.one (LK.nl D.nilp), RK.own (1 : Nat)] n Tryd.f52 [1, 1, 1, 1, 1, 0, 1, 0, 0, 1, 1, 0, 0, 1, 1, 1, 1, 0] [m6] m12 (St.mk [V.undef, V.rp (0 : Nat) (0 : Nat), V.undef, V.undef, V.one true (D.pt [D.sl (8 : Nat) l0, D.sl (1 : Nat) l1, D.sl (1 : Nat) l2, D.sl (1 : Nat) l3, D.mp l4]), V.undef, V.rw (1 : Nat), V.undef, V.rw (2 : Nat), V.rw (3 : Nat), V.rw (4 : Nat), V.one true (D.int IntKind.i64 i5), V.rp (5 : Nat) (0 : Nat), V.undef, V.undef, V.undef, V.undef, V.undef, V.undef, V.undef, V.undef, V.undef, V.undef, V.undef, V.undef, V.undef, V.undef, V.undef, V.undef, V.undef, V.undef, V.undef, V.undef, V.undef, V.undef, V.undef, V.undef, V.undef, V.undef, V.undef, V.undef, V.undef, V.undef, V.undef, V.undef, V.undef, V.undef, V.undef, V.undef, V.undef, V.one true (D.sl (8 : Nat) l6), V.one true (D.int IntKind.i64 i7), V.one true (D.int IntKind.i64 i8), V.undef, V.undef, V.undef, V.undef, V.undef, V.undef, V.undef, V.undef, V.undef, V.undef, V.undef, V.undef, V.undef, V.undef, V.undef, V.undef, V.undef, V.one true (D.int IntKind.i64 i9), V.undef, V.undef, V.undef, V.undef, V.undef, V.undef, V.undef, V.undef, V.undef, V.undef, V.undef, V.undef, V.undef, V.undef, V.undef, V.undef, V.undef, V.undef, V.undef, V.undef, V.undef, V.undef, V.undef, V.undef, V.undef, V.undef, V.undef, V.undef, V.undef, V.undef, V.undef, V.undef, V.undef, V.undef, V.undef, V.undef, V.undef, V.undef, V.undef, V.undef, V.undef, V.undef, V.undef, V.undef, V.undef, V.undef, V.undef, V.undef, V.undef, V.undef, V.undef, V.undef, V.undef, V.undef, V.undef, V.undef, V.undef, V.undef, V.undef, V.undef, V.undef, V.undef, V.undef, V.undef, V.undef, V.undef, V.undef, V.undef, V.undef, V.undef] [Ob.box [V.one true (D.str s10), V.one true (D.int IntKind.i64 i11), V.one true (D.int IntKind.i64 i12), V.one true (D.int IntKind.i64 i13), V.one true (D.int IntKind.i64 i14), V.one true (D.int IntKind.i64 i15), V.one true (D.int IntKind.i64 i16), V.one true (D.int IntKind.i64 i17), V.one true (D.int IntKind.i64 i18), V.one true (D.int IntKind.i64 i19), V.one true (D.int IntKind.i64 i20), V.one true (D.int IntKind.i64 i21)], Ob.row false (1 : Nat) l22, Ob.row false (1 : Nat) l23, Ob.nest (1 : Nat) none l24, Ob.row false (1 : Nat) l25, Ob.box [V.one true (D.int IntKind.i64 i26), V.one true (D.int IntKind.i64 i27), V.one true (D.int IntKind.i64 i28), V.one true (D.int IntKind.i64 i29), V.one true (D.int IntKind.i64 i30), V.one true (D.int IntKind.i64 i31), V.one true (D.int IntKind.i64 i32), V.one true (D.int IntKind.i64 i33)]])
noncomputable def impl_Puzzle_lefts.l21 (n : Nat) (m21 : Nat) (l0 : List (List D)) (l1 : List (List D)) (l2 : List (List D)) (l3 : List (List D)) (l4 : List (List D × List D)) (i5 : Int) (l6 : List (List D)) (l7 : List (List (List D))) (l8 : List (List D)) : Option (List Q) :=
  loopAt impl_Puzzle_lefts.cfg [RK.one (LK.nl D.nilp), RK.own (1 : Nat)] n Tryd.f52 [1, 1, 1, 1, 1, 1, 0, 1, 0] [] m21 (St.mk [V.undef, V.undef, V.undef, V.undef, V.one true (D.pt [D.sl (8 : Nat) l0, D.sl (1 : Nat) l1, D.sl (1 : Nat) l2, D.sl (1 : Nat) l3, D.mp l4]), V.undef, V.undef, V.undef, V.rw (0 : Nat), V.rw (1 : Nat), V.rw (2 : Nat), V.undef, V.undef, V.undef, V.undef, V.undef, V.undef, V.one true (D.int IntKind.i64 i5), V.undef, V.undef, V.undef, V.undef, V.undef, V.undef, V.undef, V.undef, V.undef, V.undef, V.undef, V.undef, V.undef, V.undef, V.undef, V.undef, V.undef, V.undef, V.undef, V.undef, V.undef, V.undef, V.undef, V.undef, V.undef, V.undef, V.undef, V.undef, V.undef, V.undef, V.undef, V.undef, V.undef, V.undef, V.undef, V.undef, V.undef, V.undef, V.undef, V.undef, V.undef, V.undef, V.undef, V.undef, V.undef, V.undef, V.undef, V.undef, V.undef, V.undef, V.undef, V.undef, V.undef, V.undef, V.undef, V.undef, V.undef, V.undef, V.undef, V.undef, V.undef, V.undef, V.undef, V.undef, V.undef, V.undef, V.undef, V.undef, V.undef, V.undef, V.undef, V.undef, V.undef, V.undef, V.undef, V.undef, V.undef, V.undef, V.undef, V.undef, V.undef, V.undef, V.undef, V.undef, V.undef, V.undef, V.undef, V.undef, V.undef, V.undef, V.undef, V.undef, V.undef, V.undef, V.undef, V.undef, V.undef, V.undef, V.undef, V.undef, V.undef, V.undef, V.undef, V.undef, V.undef, V.undef, V.undef, V.undef, V.undef, V.undef, V.undef, V.undef, V.undef, V.undef, V.undef, V.undef, V.undef, V.undef, V.undef, V.undef, V.undef, V.undef, V.undef] [Ob.row false (1 : Nat) l6, Ob.nest (1 : Nat) none l7, Ob.row false (1 : Nat) l8])
noncomputable def impl_Puzzle_lefts.l24 (n : Nat) (m21 : Nat) (m24 : Nat) (l0 : List (List D)) (l1 : List (List D)) (l2 : List (List D)) (l3 : List (List D)) (l4 : List (List D × List D)) (i5 : Int) (i6 : Int) (i7 : Int) (l8 : List (List D)) (j9 : Nat) (l10 : List (List (List D))) (l11 : List (List D)) (l12 : List (List D)) : Option (List Q) :=
  loopAt impl_Puzzle_lefts.cfg [RK.one (LK.nl D.nilp), RK.own (1 : Nat)] n Tryd.f52 [1, 1, 1, 1, 1, 1, 0, 1, 0, 0, 1, 0, 0, 1, 0] [m21] m24 (St.mk [V.undef, V.undef, V.undef, V.undef, V.one true (D.pt [D.sl (8 : Nat) l0, D.sl (1 : Nat) l1, D.sl (1 : Nat) l2, D.sl (1 : Nat) l3, D.mp l4]), V.undef, V.undef, V.undef, V.rw (0 : Nat), V.rw (1 : Nat), V.rw (2 : Nat), V.undef, V.undef, V.undef, V.undef, V.undef, V.undef, V.one true (D.int IntKind.i64 i5), V.undef, V.undef, V.undef, V.undef, V.undef, V.undef, V.undef, V.undef, V.undef, V.undef, V.undef, V.undef, V.undef, V.undef, V.undef, V.undef, V.undef, V.undef, V.undef, V.undef, V.undef, V.undef, V.undef, V.undef, V.undef, V.undef, V.undef, V.undef, V.undef, V.undef, V.undef, V.undef, V.undef, V.undef, V.undef, V.undef, V.undef, V.undef, V.undef, V.undef, V.undef, V.undef, V.undef, V.undef, V.undef, V.undef, V.undef, V.undef, V.undef, V.undef, V.undef, V.undef, V.undef, V.undef, V.undef, V.undef, V.undef, V.undef, V.undef, V.undef, V.undef, V.undef, V.undef, V.undef, V.undef, V.undef, V.undef, V.undef, V.undef, V.undef, V.undef, V.undef, V.undef, V.undef, V.undef, V.undef, V.undef, V.undef, V.undef, V.undef, V.undef, V.undef, V.undef, V.undef, V.undef, V.undef, V.undef, V.undef, V.undef, V.undef, V.undef, V.undef, V.undef, V.undef, V.rw (3 : Nat), V.one true (D.int IntKind.i64 i6), V.one true (D.int IntKind.i64 i7), V.undef, V.undef, V.undef, V.undef, V.undef, V.undef, V.undef, V.undef, V.undef, V.undef, V.undef, V.undef, V.undef, V.undef, V.undef, V.undef, V.undef, V.undef, V.undef, V.undef, V.undef, V.undef, V.undef, V.undef, V.undef, V.undef] [Ob.row false (1 : Nat) l8, Ob.nest (1 : Nat) (some (j9, some (3 : Nat))) l10, Ob.row false (1 : Nat) l11, Ob.row false (1 : Nat) l12])
theorem impl_Puzzle_lefts.l6_eq (n : Nat) (m6 : Nat) (l0 : List (List D)) (l1 : List (List D)) (l2 : List (List D)) (l3 : List (List D)) (l4 : List (List D × List D)) (l5 : List (List D)) (i6 : Int) (i7 : Int) (s8 : ByteArray) (i9 : Int) (i10 : Int) (i11 : Int) (i12 : Int) (i13 : Int) (i14 : Int) (i15 : Int) (i16 : Int) (i17 : Int) (i18 : Int) (i19 : Int) (l20 : List (List D)) (l21 : List (List D)) (l22 : List (List (List D))) (l23 : List (List D)) :
    impl_Puzzle_lefts.l6 n (m6 + 1) l0 l1 l2 l3 l4 l5 i6 i7 s8 i9 i10 i11 i12 i13 i14 i15 i16 i17 i18 i19 l20 l21 l22 l23 = bif decide (i7 < i6) then bif decide ((0 : Int) ≤ i7) then bif decide (i7 < (↑(List.length l5) : Int)) then Option.bind (Option.bind (some (cellD l5 (Int.toNat i7) (0 : Nat))) (D.int? IntKind.i64)) fun (i1 : Int) => Option.bind (Option.bind (some (cellD l5 (Int.toNat i7) (1 : Nat))) (D.int? IntKind.i64)) fun (i2 : Int) => Option.bind (Option.bind (some (cellD l5 (Int.toNat i7) (2 : Nat))) (D.int? IntKind.i64)) fun (i3 : Int) => Option.bind (Option.bind (some (cellD l5 (Int.toNat i7) (3 : Nat))) (D.int? IntKind.i64)) fun (i4 : Int) => Option.bind (Option.bind (some (cellD l5 (Int.toNat i7) (4 : Nat))) (D.int? IntKind.i64)) fun (i5 : Int) => Option.bind (Option.bind (some (cellD l5 (Int.toNat i7) (5 : Nat))) (D.int? IntKind.i64)) fun (i6_1 : Int) => Option.bind (Option.bind (some (cellD l5 (Int.toNat i7) (6 : Nat))) (D.int? IntKind.i64)) fun (i7_1 : Int) => Option.bind (Option.bind (some (cellD l5 (Int.toNat i7) (7 : Nat))) (D.int? IntKind.i64)) fun (i8 : Int) => bif decide ((0 : Int) ≤ i7) then bif decide (i7 < (↑(List.length l21) : Int)) then bif doneS i17 i18 i19 (Sta.mk i1 i2 (Die.mk i3 i4 i5 i6_1 i7_1 i8)) then bif decide (List.length l23 + (1 : Nat) ≤ (17179869184 : Nat)) then bif decide ((0 : Int) ≤ i7) then bif decide (i7 < (↑(List.length (setRow (1 : Nat) l21 (Int.toNat i7) (0 : Nat) [D.int IntKind.i64 (-1 : Int)])) : Int)) then impl_Puzzle_lefts.l12 n m6 n l0 l1 l2 l3 l4 i7 l5 i6 i7 (0 : Int) s8 i9 i10 i11 i12 i13 i14 i15 i16 i17 i18 i19 l20 (setRow (1 : Nat) (setRow (1 : Nat) l21 (Int.toNat i7) (0 : Nat) [D.int IntKind.i64 (-1 : Int)]) (Int.toNat i7) (0 : Nat) [D.int IntKind.i64 (0 : Int)]) l22 (l23 ++ [[D.int IntKind.i64 i7]]) i1 i2 i3 i4 i5 i6_1 i7_1 i8 else none else none else none else impl_Puzzle_lefts.l12 n m6 n l0 l1 l2 l3 l4 i7 l5 i6 i7 (0 : Int) s8 i9 i10 i11 i12 i13 i14 i15 i16 i17 i18 i19 l20 (setRow (1 : Nat) l21 (Int.toNat i7) (0 : Nat) [D.int IntKind.i64 (-1 : Int)]) l22 l23 i1 i2 i3 i4 i5 i6_1 i7_1 i8 else none else none else none else none else impl_Puzzle_lefts.l21 n n l0 l1 l2 l3 l4 (0 : Int) l21 l22 l23 := by kernel_rfl
theorem impl_Puzzle_lefts.l12_eq (n : Nat) (m6 : Nat) (m12 : Nat) (l0 : List (List D)) (l1 : List (List D)) (l2 : List (List D)) (l3 : List (List D)) (l4 : List (List D × List D)) (i5 : Int) (l6 : List (List D)) (i7 : Int) (i8 : Int) (i9 : Int) (s10 : ByteArray) (i11 : Int) (i12 : Int) (i13 : Int) (i14 : Int) (i15 : Int) (i16 : Int) (i17 : Int) (i18 : Int) (i19 : Int) (i20 : Int) (i21 : Int) (l22 : List (List D)) (l23 : List (List D)) (l24 : List (List (List D))) (l25 : List (List D)) (i26 : Int) (i27 : Int) (i28 : Int) (i29 : Int) (i30 : Int) (i31 : Int) (i32 : Int) (i33 : Int) :
    impl_Puzzle_lefts.l12 n m6 (m12 + 1) l0 l1 l2 l3 l4 i5 l6 i7 i8 i9 s10 i11 i12 i13 i14 i15 i16 i17 i18 i19 i20 i21 l22 l23 l24 l25 i26 i27 i28 i29 i30 i31 i32 i33 = bif decide (i9 < (4 : Int)) then bif decide ((0 : Int) ≤ i9) then bif decide (i9 < (4 : Int)) then Option.bind (Cod.decs strC l22) fun (l9 : List ByteArray) => bif unif (lb l9) then bif smallR l9 then bif inR i26 (0 : Int) (6 : Int) then bif inR i27 (0 : Int) (6 : Int) then bif isFl (lb l9) (Sta.x (mv (Sta.mk i26 i27 (Die.mk i28 i29 i30 i31 i32 i33)) (byteAt (ByteArray.mk #[(110 : UInt8), (101 : UInt8), (115 : UInt8), (119 : UInt8)]) (Int.toNat i9)))) (Sta.y (mv (Sta.mk i26 i27 (Die.mk i28 i29 i30 i31 i32 i33)) (byteAt (ByteArray.mk #[(110 : UInt8), (101 : UInt8), (115 : UInt8), (119 : UInt8)]) (Int.toNat i9)))) then Option.bind (mpGet [D.int IntKind.i64 (Sta.x (mv (Sta.mk i26 i27 (Die.mk i28 i29 i30 i31 i32 i33)) (byteAt (ByteArray.mk #[(110 : UInt8), (101 : UInt8), (115 : UInt8), (119 : UInt8)]) (Int.toNat i9)))), D.int IntKind.i64 (Sta.y (mv (Sta.mk i26 i27 (Die.mk i28 i29 i30 i31 i32 i33)) (byteAt (ByteArray.mk #[(110 : UInt8), (101 : UInt8), (115 : UInt8), (119 : UInt8)]) (Int.toNat i9)))), D.int IntKind.i64 (Die.t (Sta.d (mv (Sta.mk i26 i27 (Die.mk i28 i29 i30 i31 i32 i33)) (byteAt (ByteArray.mk #[(110 : UInt8), (101 : UInt8), (115 : UInt8), (119 : UInt8)]) (Int.toNat i9))))), D.int IntKind.i64 (Die.n (Sta.d (mv (Sta.mk i26 i27 (Die.mk i28 i29 i30 i31 i32 i33)) (byteAt (ByteArray.mk #[(110 : UInt8), (101 : UInt8), (115 : UInt8), (119 : UInt8)]) (Int.toNat i9))))), D.int IntKind.i64 (Die.e (Sta.d (mv (Sta.mk i26 i27 (Die.mk i28 i29 i30 i31 i32 i33)) (byteAt (ByteArray.mk #[(110 : UInt8), (101 : UInt8), (115 : UInt8), (119 : UInt8)]) (Int.toNat i9))))), D.int IntKind.i64 (Die.s (Sta.d (mv (Sta.mk i26 i27 (Die.mk i28 i29 i30 i31 i32 i33)) (byteAt (ByteArray.mk #[(110 : UInt8), (101 : UInt8), (115 : UInt8), (119 : UInt8)]) (Int.toNat i9))))), D.int IntKind.i64 (Die.w (Sta.d (mv (Sta.mk i26 i27 (Die.mk i28 i29 i30 i31 i32 i33)) (byteAt (ByteArray.mk #[(110 : UInt8), (101 : UInt8), (115 : UInt8), (119 : UInt8)]) (Int.toNat i9))))), D.int IntKind.i64 (Die.b (Sta.d (mv (Sta.mk i26 i27 (Die.mk i28 i29 i30 i31 i32 i33)) (byteAt (ByteArray.mk #[(110 : UInt8), (101 : UInt8), (115 : UInt8), (119 : UInt8)]) (Int.toNat i9)))))] l4) fun (d10 : Option (List D)) => bif decide (List.length (Option.getD d10 [D.int IntKind.i64 (0 : Int)]) = (1 : Nat)) then Option.bind (Option.bind (some (cellD [Option.getD d10 [D.int IntKind.i64 (0 : Int)]] (0 : Nat) (0 : Nat))) (D.int? IntKind.i64)) fun (i11_1 : Int) => bif decide ((0 : Int) ≤ i11_1) then bif decide (i11_1 < (↑(List.length l24) : Int)) then bif decide (List.length (List.getD l24 (Int.toNat i11_1) []) + (1 : Nat) ≤ (17179869184 : Nat)) then bif decide ((0 : Int) ≤ i11_1) then bif decide (i11_1 < (↑(List.length l24) : Int)) then bif decide (Int.toNat i11_1 = Int.toNat i11_1) then impl_Puzzle_lefts.l12 n m6 m12 l0 l1 l2 l3 l4 i5 l6 i7 i8 (IntKind.wrap IntKind.i64 (i9 + (1 : Int))) s10 i11 i12 i13 i14 i15 i16 i17 i18 i19 i20 i21 l22 l23 (List.set l24 (Int.toNat i11_1) (List.getD l24 (Int.toNat i11_1) [] ++ [[D.int IntKind.i64 i5]])) l25 i26 i27 i28 i29 i30 i31 i32 i33 else none else none else none else none else none else none else none else impl_Puzzle_lefts.l12 n m6 m12 l0 l1 l2 l3 l4 i5 l6 i7 i8 (IntKind.wrap IntKind.i64 (i9 + (1 : Int))) s10 i11 i12 i13 i14 i15 i16 i17 i18 i19 i20 i21 l22 l23 l24 l25 i26 i27 i28 i29 i30 i31 i32 i33 else none else none else none else none else none else none else impl_Puzzle_lefts.l6 n m6 l0 l1 l2 l3 l4 l6 i7 (IntKind.wrap IntKind.i64 (i8 + (1 : Int))) s10 i11 i12 i13 i14 i15 i16 i17 i18 i19 i20 i21 l22 l23 l24 l25 := by kernel_rfl
theorem impl_Puzzle_lefts.l21_eq (n : Nat) (m21 : Nat) (l0 : List (List D)) (l1 : List (List D)) (l2 : List (List D)) (l3 : List (List D)) (l4 : List (List D × List D)) (i5 : Int) (l6 : List (List D)) (l7 : List (List (List D))) (l8 : List (List D)) :
    impl_Puzzle_lefts.l21 n (m21 + 1) l0 l1 l2 l3 l4 i5 l6 l7 l8 = bif decide (i5 < (↑(List.length l8) : Int)) then bif decide ((0 : Int) ≤ i5) then bif decide (i5 < (↑(List.length l8) : Int)) then Option.bind (Option.bind (some (cellD l8 (Int.toNat i5) (0 : Nat))) (D.int? IntKind.i64)) fun (i12 : Int) => bif decide ((0 : Int) ≤ i12) then bif decide (i12 < (↑(List.length l7) : Int)) then impl_Puzzle_lefts.l24 n m21 n l0 l1 l2 l3 l4 i5 (↑(List.length (List.getD l7 (Int.toNat i12) [])) : Int) (0 : Int) l6 (Int.rec (fun (a : Nat) => (fun (a : Nat) => (fun (n : Nat) => n) a) a) (fun (a : Nat) => (fun (a : Nat) => (fun (a : Nat) => (0 : Nat)) a) a) i12) l7 l8 (List.getD l7 (Int.toNat i12) []) else none else none else none else none else some [Q.one (D.pt [D.sl (8 : Nat) l0, D.sl (1 : Nat) l1, D.sl (1 : Nat) l2, D.sl (1 : Nat) l3, D.mp l4]), Q.one (D.sl (1 : Nat) l6)] := by kernel_rfl
theorem impl_Puzzle_lefts.l24_eq (n : Nat) (m21 : Nat) (m24 : Nat) (l0 : List (List D)) (l1 : List (List D)) (l2 : List (List D)) (l3 : List (List D)) (l4 : List (List D × List D)) (i5 : Int) (i6 : Int) (i7 : Int) (l8 : List (List D)) (j9 : Nat) (l10 : List (List (List D))) (l11 : List (List D)) (l12 : List (List D)) :
    impl_Puzzle_lefts.l24 n m21 (m24 + 1) l0 l1 l2 l3 l4 i5 i6 i7 l8 j9 l10 l11 l12 = bif decide (i7 < i6) then bif decide ((0 : Int) ≤ i7) then bif decide (i7 < (↑(List.length l12) : Int)) then Option.bind (Option.bind (some (cellD l12 (Int.toNat i7) (0 : Nat))) (D.int? IntKind.i64)) fun (i13 : Int) => bif decide ((0 : Int) ≤ i13) then bif decide (i13 < (↑(List.length l8) : Int)) then Option.bind (Option.bind (some (cellD l8 (Int.toNat i13) (0 : Nat))) (D.int? IntKind.i64)) fun (i14 : Int) => bif decide (i14 < (0 : Int)) then bif decide ((0 : Int) ≤ i5) then bif decide (i5 < (↑(List.length l11) : Int)) then Option.bind (Option.bind (some (cellD l11 (Int.toNat i5) (0 : Nat))) (D.int? IntKind.i64)) fun (i15 : Int) => bif decide ((0 : Int) ≤ i15) then bif decide (i15 < (↑(List.length l8) : Int)) then Option.bind (Option.bind (some (cellD l8 (Int.toNat i15) (0 : Nat))) (D.int? IntKind.i64)) fun (i16 : Int) => bif decide (List.length l11 + (1 : Nat) ≤ (17179869184 : Nat)) then bif decide ((0 : Int) ≤ i13) then bif decide (i13 < (↑(List.length l8) : Int)) then impl_Puzzle_lefts.l24 n m21 m24 l0 l1 l2 l3 l4 i5 i6 (IntKind.wrap IntKind.i64 (i7 + (1 : Int))) (setRow (1 : Nat) l8 (Int.toNat i13) (0 : Nat) [D.int IntKind.i64 (IntKind.wrap IntKind.i64 (i16 + (1 : Int)))]) j9 l10 (l11 ++ [[D.int IntKind.i64 i13]]) l12 else none else none else none else none else none else none else none else impl_Puzzle_lefts.l24 n m21 m24 l0 l1 l2 l3 l4 i5 i6 (IntKind.wrap IntKind.i64 (i7 + (1 : Int))) l8 j9 l10 l11 l12 else none else none else none else none else impl_Puzzle_lefts.l21 n m21 l0 l1 l2 l3 l4 (IntKind.wrap IntKind.i64 (i5 + (1 : Int))) l8 (List.set l10 j9 l12) l11 := by kernel_rfl
noncomputable def impl_Puzzle_lefts.res (n : Nat) (a0_0 : ByteArray) (a0_1 : Int) (a0_2 : Int) (a0_3 : Int) (a0_4 : Int) (a0_5 : Int) (a0_6 : Int) (a0_7 : Int) (a0_8 : Int) (a0_9 : Int) (a0_10 : Int) (a0_11 : Int) : Option (List Q) :=
  bif decide (ByteArray.size a0_0 < (17179869184 : Nat)) then bif okSt a0_0 (Sta.mk a0_1 a0_2 (Die.mk a0_3 a0_4 a0_5 a0_6 a0_7 a0_8)) then bif decide (ByteArray.size a0_0 < (17179869184 : Nat)) then bif decide ((↑(List.length (Cod.encs stC (usC (wyC (isFl (rws a0_0)) (Sta.mk a0_1 a0_2 (Die.mk a0_3 a0_4 a0_5 a0_6 a0_7 a0_8)))))) : Int) ≤ (↑(List.length (Cod.encs stC (usC (wyC (isFl (rws a0_0)) (Sta.mk a0_1 a0_2 (Die.mk a0_3 a0_4 a0_5 a0_6 a0_7 a0_8)))))) : Int)) then bif decide ((↑(List.length (Cod.encs stC (usC (wyC (isFl (rws a0_0)) (Sta.mk a0_1 a0_2 (Die.mk a0_3 a0_4 a0_5 a0_6 a0_7 a0_8)))))) : Int) ≤ (17179869184 : Int)) then bif decide ((↑(List.length (Cod.encs stC (usC (wyC (isFl (rws a0_0)) (Sta.mk a0_1 a0_2 (Die.mk a0_3 a0_4 a0_5 a0_6 a0_7 a0_8)))))) : Int) ≤ (↑(List.length (Cod.encs stC (usC (wyC (isFl (rws a0_0)) (Sta.mk a0_1 a0_2 (Die.mk a0_3 a0_4 a0_5 a0_6 a0_7 a0_8)))))) : Int)) then bif decide ((↑(List.length (Cod.encs stC (usC (wyC (isFl (rws a0_0)) (Sta.mk a0_1 a0_2 (Die.mk a0_3 a0_4 a0_5 a0_6 a0_7 a0_8)))))) : Int) ≤ (17179869184 : Int)) then impl_Puzzle_lefts.l6 n n (Cod.encs stC (usC (wyC (isFl (rws a0_0)) (Sta.mk a0_1 a0_2 (Die.mk a0_3 a0_4 a0_5 a0_6 a0_7 a0_8))))) (Cod.encs intC (besC (wyC (isFl (rws a0_0)) (Sta.mk a0_1 a0_2 (Die.mk a0_3 a0_4 a0_5 a0_6 a0_7 a0_8))))) (Cod.encs u8C (rlsC (wyC (isFl (rws a0_0)) (Sta.mk a0_1 a0_2 (Die.mk a0_3 a0_4 a0_5 a0_6 a0_7 a0_8))))) (Cod.encs intC (fasC (wyC (isFl (rws a0_0)) (Sta.mk a0_1 a0_2 (Die.mk a0_3 a0_4 a0_5 a0_6 a0_7 a0_8))))) (plU (usC (wyC (isFl (rws a0_0)) (Sta.mk a0_1 a0_2 (Die.mk a0_3 a0_4 a0_5 a0_6 a0_7 a0_8))))) (Cod.encs stC (usC (wyC (isFl (rws a0_0)) (Sta.mk a0_1 a0_2 (Die.mk a0_3 a0_4 a0_5 a0_6 a0_7 a0_8))))) (↑(List.length (Cod.encs stC (usC (wyC (isFl (rws a0_0)) (Sta.mk a0_1 a0_2 (Die.mk a0_3 a0_4 a0_5 a0_6 a0_7 a0_8)))))) : Int) (0 : Int) a0_0 a0_1 a0_2 a0_3 a0_4 a0_5 a0_6 a0_7 a0_8 a0_9 a0_10 a0_11 (Cod.encs strC (gridI brd a0_0)) (List.replicate (Int.toNat (↑(List.length (Cod.encs stC (usC (wyC (isFl (rws a0_0)) (Sta.mk a0_1 a0_2 (Die.mk a0_3 a0_4 a0_5 a0_6 a0_7 a0_8)))))) : Int)) [D.int IntKind.i64 (0 : Int)]) (List.replicate (Int.toNat (↑(List.length (Cod.encs stC (usC (wyC (isFl (rws a0_0)) (Sta.mk a0_1 a0_2 (Die.mk a0_3 a0_4 a0_5 a0_6 a0_7 a0_8)))))) : Int)) []) [] else none else none else none else none else none else bif decide (ByteArray.size a0_0 < (17179869184 : Nat)) then none else none else none
theorem impl_Puzzle_lefts.run (n : Nat) (a0_0 : ByteArray) (a0_1 : Int) (a0_2 : Int) (a0_3 : Int) (a0_4 : Int) (a0_5 : Int) (a0_6 : Int) (a0_7 : Int) (a0_8 : Int) (a0_9 : Int) (a0_10 : Int) (a0_11 : Int) :
    run1 impl_Puzzle_lefts.cfg [RK.one (LK.nl D.nilp), RK.own (1 : Nat)] n Tryd.f52 [Q.agg [D.str a0_0, D.int IntKind.i64 a0_1, D.int IntKind.i64 a0_2, D.int IntKind.i64 a0_3, D.int IntKind.i64 a0_4, D.int IntKind.i64 a0_5, D.int IntKind.i64 a0_6, D.int IntKind.i64 a0_7, D.int IntKind.i64 a0_8, D.int IntKind.i64 a0_9, D.int IntKind.i64 a0_10, D.int IntKind.i64 a0_11]] = impl_Puzzle_lefts.res n a0_0 a0_1 a0_2 a0_3 a0_4 a0_5 a0_6 a0_7 a0_8 a0_9 a0_10 a0_11 := by kernel_rfl
theorem impl_Puzzle_lefts.ev {n : Nat} {a0_0 : ByteArray} {a0_1 : Int} {a0_2 : Int} {a0_3 : Int} {a0_4 : Int} {a0_5 : Int} {a0_6 : Int} {a0_7 : Int} {a0_8 : Int} {a0_9 : Int} {a0_10 : Int} {a0_11 : Int} {r : List Q} (h : impl_Puzzle_lefts.res n a0_0 a0_1 a0_2 a0_3 a0_4 a0_5 a0_6 a0_7 a0_8 a0_9 a0_10 a0_11 = some r) : Snd Tryd.prog C0 52 [.agg [.str a0_0, .int .i64 a0_1, .int .i64 a0_2, .int .i64 a0_3, .int .i64 a0_4, .int .i64 a0_5, .int .i64 a0_6, .int .i64 a0_7, .int .i64 a0_8, .int .i64 a0_9, .int .i64 a0_10, .int .i64 a0_11]] r :=
  snd_ev (C := impl_Puzzle_lefts.cfg) cfg0 mix rfl rfl rfl rfl rfl (.cons impl_reachOn.ok (.cons impl_board.ok (.cons impl_Puzzle_isGoal.ok (.cons impl_grid_roll_i.ok .nil)))) .nil rfl Tryd.func52 (by kernel_rfl) (by kernel_rfl) rfl ((impl_Puzzle_lefts.run n a0_0 a0_1 a0_2 a0_3 a0_4 a0_5 a0_6 a0_7 a0_8 a0_9 a0_10 a0_11).trans h)

theorem sta_eta (u : Sta) : Sta.mk u.x u.y u.d = u := rfl
theorem nest_set (B : List (List Int)) (k : Nat) (r : List Int) : (B.map intC.encs).set k (intC.encs r) = (B.set k r).map intC.encs := by rw [List.map_set]
theorem nest_get (B : List (List Int)) (k : Nat) : (B.map intC.encs).getD k [] = intC.encs (B.getD k []) := by
  rw [List.getD_eq_getElem?_getD, List.getElem?_map, List.getD_eq_getElem?_getD]
  cases B[k]? <;> rfl
section
variable {l : List ByteArray} {l0 l1 l2 l3 : List (List D)} {C : List Cr} {n : Nat} {s8 : ByteArray} {i9 i10 i11 i12 i13 i14 i15 i16 px py pt : Int}
theorem impl_Puzzle_lefts.l12_run {m6 k : Nat} {l23 l25 : List (List D)} (hu : unif (lb l) = true) (hs : smallR l = true) (hld : strC.decs (strC.encs l) = some l) (hk : k < C.length) (hlen : C.length < BIG) (gx : inR C[k].u.x 0 6 = true) (gy : inR C[k].u.y 0 6 = true) :
    ∀ (d dir m b : Nat) (B : List (List Int)), dir + d = 4 → d < m → Bk C.length b B → b + d < 17179869184 →
    impl_Puzzle_lefts.l12 n m6 m l0 l1 l2 l3 (plU (C.map Cr.u)) (k : Int) (stC.encs (C.map Cr.u)) ((C.length : Nat) : Int) (k : Int) (dir : Int) s8 i9 i10 i11 i12 i13 i14 i15 i16 px py pt (strC.encs l) l23 (B.map intC.encs) l25 C[k].u.x C[k].u.y C[k].u.d.t C[k].u.d.n C[k].u.d.e C[k].u.d.s C[k].u.d.w C[k].u.d.b = impl_Puzzle_lefts.l6 n m6 l0 l1 l2 l3 (plU (C.map Cr.u)) (stC.encs (C.map Cr.u)) ((C.length : Nat) : Int) ((k + 1 : Nat) : Int) s8 i9 i10 i11 i12 i13 i14 i15 i16 px py pt (strC.encs l) l23 ((lfF (isFl (lb l)) C k d dir B).map intC.encs) l25 := by
  intro d
  induction d with
  | zero =>
    intro dir m b B hi hm hB hb
    obtain ⟨m, rfl⟩ : ∃ m', m = m' + 1 := ⟨m - 1, by omega⟩
    have h1 : ¬ (dir : Int) < 4 := by omega
    have h0 : lfF (isFl (lb l)) C k 0 dir B = B := rfl
    rw [impl_Puzzle_lefts.l12_eq, h0]
    simp -implicitDefEqProofs only [h1, decide_false, cond_false, wrap_succ (show k ≤ LIM by unfold LIM; unfold BIG at hlen; omega)]
  | succ d ih =>
    intro dir m b B hi hm hB hb
    obtain ⟨m, rfl⟩ : ∃ m', m = m' + 1 := ⟨m - 1, by omega⟩
    have hd : dir < 4 := by omega
    have h1 : (dir : Int) < 4 := by omega
    have hk' : C[k]? = some C[k] := List.getElem?_eq_getElem hk
    obtain ⟨t, ht⟩ : ∃ t, t = rollK C[k].u (dir : Int) := ⟨_, rfl⟩
    have hro : mv ⟨C[k].u.x, C[k].u.y, C[k].u.d⟩ (byteAt (ByteArray.mk #[110, 101, 115, 119]) dir) = t := by
      rw [ht]
      exact Option.some.inj (mvO_dir C[k].u hd)
    have hrl : lfRoll (isFl (lb l)) C k (dir : Int) B = bif isFl (lb l) t.x t.y then B.set (kAt t (C.map Cr.u)) (B.getD (kAt t (C.map Cr.u)) [] ++ [(k : Int)]) else B := by
      unfold lfRoll
      rw [hk', ht]
    have hkt : kAt t (C.map Cr.u) < C.length := by
      have := posOf_lt (t := t) (l := C.map Cr.u) (by rw [List.length_map]; omega)
      rwa [List.length_map] at this
    obtain ⟨dv, g1, g2, _⟩ := mpGet_k t (C.map Cr.u)
    have hB2 := hB.roll (p := isFl (lb l)) hk (dir : Int)
    generalize kAt t (C.map Cr.u) = j at g2 hkt hrl
    have hjB : j < B.length := by rw [hB.len]; exact hkt
    have hji : (j : Int) < ((C.length : Nat) : Int) := by omega
    have hgl : (B.getD j []).length + 1 ≤ 17179869184 := by
      have hm : B.getD j [] ∈ B := by
        rw [List.getD_eq_getElem?_getD, List.getElem?_eq_getElem hjB]; exact List.getElem_mem hjB
      have := (hB.el _ hm).1
      omega
    have step := ih (dir + 1) m (b + 1) (lfRoll (isFl (lb l)) C k (dir : Int) B) (by omega) (by omega) hB2 (by omega)
    rw [show lfF (isFl (lb l)) C k (d + 1) dir B = lfF (isFl (lb l)) C k d (dir + 1) (lfRoll (isFl (lb l)) C k (dir : Int) B) from rfl]
    refine Eq.trans ?_ step
    rw [hrl, impl_Puzzle_lefts.l12_eq]
    have one : ∀ v : D, decide ([v].length = 1) = true := fun _ => rfl
    simp -implicitDefEqProofs only [h1, hji, hB.len, Cod.encs_len, List.length_map, Int.natCast_nonneg, Int.toNat_natCast, decide_true, cond_true, Option.bind_some, hld, hu, hs, gx, gy, Die.eta, hro, g1, g2, one, cell1, nest_get, hgl, intC_snoc, nest_set, wrap_succ (show dir ≤ LIM by unfold LIM; omega)]
    cases isFl (lb l) t.x t.y with
    | false => simp -implicitDefEqProofs only [cond_false]
    | true => simp -implicitDefEqProofs only [cond_true]
theorem bqAll_end (B : List (List Int)) (f k0 : Nat) (s : List Int × List Int) (h : ¬ k0 < s.2.length) : bqAll B f k0 s = s := by
  cases f with
  | zero => rfl
  | succ f => rw [bqAll, decide_eq_false h]; rfl
theorem impl_Puzzle_lefts.l24_run {l4 : List (List D × List D)} {m21 k0 j9 N : Nat} {nest : List (List (List D))} {ks : List Int} (hN : N < BIG) (hkl : ks.length < 17179869184) (hks : ∀ k ∈ ks, 0 ≤ k ∧ k < (N : Int)) :
    ∀ (d j m : Nat) (s : List Int × List Int), j + d = ks.length → d < m → BQ N s → k0 < s.2.length →
    impl_Puzzle_lefts.l24 n m21 m l0 l1 l2 l3 l4 (k0 : Int) ((ks.length : Nat) : Int) (j : Int) (intC.encs s.1) j9 nest (intC.encs s.2) (intC.encs ks) = impl_Puzzle_lefts.l21 n m21 l0 l1 l2 l3 l4 ((k0 + 1 : Nat) : Int) (intC.encs (bqIn k0 (ks.drop j) s).1) (nest.set j9 (intC.encs ks)) (intC.encs (bqIn k0 (ks.drop j) s).2) := by
  intro d
  induction d with
  | zero =>
    intro j m s hi hm hq h0
    obtain ⟨m, rfl⟩ : ∃ m', m = m' + 1 := ⟨m - 1, by omega⟩
    have h1 : ¬ (j : Int) < ((ks.length : Nat) : Int) := by omega
    have hql := hq.qlen
    unfold BIG at hN
    rw [impl_Puzzle_lefts.l24_eq, List.drop_of_length_le (by omega)]
    simp only [h1, decide_false, cond_false, wrap_succ (show k0 ≤ LIM by unfold LIM; omega)]
    rfl
  | succ d ih =>
    intro j m s hi hm hq h0
    obtain ⟨m, rfl⟩ : ∃ m', m = m' + 1 := ⟨m - 1, by omega⟩
    have hj : j < ks.length := by omega
    have h1 : (j : Int) < ((ks.length : Nat) : Int) := by omega
    have hql := hq.qlen
    have hN' := hN
    unfold BIG at hN'
    obtain ⟨hk0, hk1⟩ := hks ks[j] (List.getElem_mem hj)
    have hstep := hq.step h0 (k := ks[j]) ⟨hk0, hk1⟩
    obtain ⟨v, hv⟩ : ∃ v : Nat, (v : Int) = ks[j] := ⟨ks[j].toNat, by omega⟩
    have hvl : v < s.1.length := by rw [hq.len]; omega
    have hqk := hq.qin s.2[k0] (List.getElem_mem h0)
    obtain ⟨u, hu⟩ : ∃ u : Nat, (u : Int) = s.2[k0] := ⟨s.2[k0].toNat, by omega⟩
    have hul : u < s.1.length := by rw [hq.len]; omega
    have c0 := intC_at hj
    have c1 := intC_at hvl
    have c2 := intC_at h0
    have c3 := intC_at hul
    have hv1 : (v : Int) < ((s.1.length : Nat) : Int) := by omega
    have hu1 : (u : Int) < ((s.1.length : Nat) : Int) := by omega
    have h01 : (k0 : Int) < ((s.2.length : Nat) : Int) := by omega
    have hs2 : s.2.length + 1 ≤ 17179869184 := by omega
    have eV : s.1.getD v 0 = s.1[v] := by rw [List.getD_eq_getElem?_getD, List.getElem?_eq_getElem hvl]; rfl
    have eU : s.1.getD u 0 = s.1[u] := by rw [List.getD_eq_getElem?_getD, List.getElem?_eq_getElem hul]; rfl
    have eQ : s.2.getD k0 0 = (u : Int) := by rw [List.getD_eq_getElem?_getD, List.getElem?_eq_getElem h0, hu]; rfl
    have hu0 : 0 ≤ s.1[u] := by
      have := hqk.2.2
      rw [← hu, Int.toNat_natCast, eU] at this
      exact this
    have hut := hq.top s.1[u] (List.getElem_mem hul)
    have hwr : IntKind.wrap .i64 (s.1[u] + 1) = s.1[u] + 1 := wrap_in (by omega) (by omega)
    have hbq : bqStep k0 ks[j] s = bif decide (s.1[v] < 0) then (s.1.set v (s.1[u] + 1), s.2 ++ [ks[j]]) else s := by
      unfold bqStep
      rw [← hv, Int.toNat_natCast, eV, eQ, Int.toNat_natCast, eU]
    rw [List.drop_eq_getElem_cons hj, bqIn]
    have step := ih (j + 1) m (bqStep k0 ks[j] s) (by omega) (by omega) hstep.1 hstep.2
    refine Eq.trans ?_ step
    rw [hbq, impl_Puzzle_lefts.l24_eq]
    rw [← hu] at c2
    rw [← hv] at c0
    rw [← hv]
    simp only [h1, hv1, hu1, h01, hs2, Cod.encs_len, Int.natCast_nonneg, Int.toNat_natCast, decide_true, cond_true, Option.bind_some, c0, c1, c2, c3, hwr, intC_set, intC_snoc, wrap_succ (show j ≤ LIM by unfold LIM; omega)]
    by_cases hneg : s.1[v] < 0
    · simp only [hneg, decide_true, cond_true]
    · simp only [hneg, decide_false, cond_false]
theorem impl_Puzzle_lefts.l21_run {l4 : List (List D × List D)} {N b : Nat} {B : List (List Int)} (hn : b < n) (hN : N < BIG) (hB : Bk N b B) (hb : b < 17179869184) :
    ∀ (f k0 m : Nat) (s : List Int × List Int), k0 + f = BIG → f < m → BQ N s →
    impl_Puzzle_lefts.l21 n m l0 l1 l2 l3 l4 (k0 : Int) (intC.encs s.1) (B.map intC.encs) (intC.encs s.2) = some [Q.one (.pt [.sl 8 l0, .sl 1 l1, .sl 1 l2, .sl 1 l3, .mp l4]), Q.one (.sl 1 (intC.encs (bqAll B f k0 s).1))] := by
  intro f
  induction f with
  | zero =>
    intro k0 m s hf hm hq
    obtain ⟨m, rfl⟩ : ∃ m', m = m' + 1 := ⟨m - 1, by omega⟩
    have hql := hq.qlen
    have h1 : ¬ (k0 : Int) < ((s.2.length : Nat) : Int) := by omega
    rw [impl_Puzzle_lefts.l21_eq]
    simp only [Cod.encs_len, h1, decide_false, cond_false]
    rfl
  | succ f ih =>
    intro k0 m s hf hm hq
    obtain ⟨m, rfl⟩ : ∃ m', m = m' + 1 := ⟨m - 1, by omega⟩
    by_cases h0 : k0 < s.2.length
    · have h1 : (k0 : Int) < ((s.2.length : Nat) : Int) := by omega
      have hqk := hq.qin s.2[k0] (List.getElem_mem h0)
      obtain ⟨u, hu⟩ : ∃ u : Nat, (u : Int) = s.2[k0] := ⟨s.2[k0].toNat, by omega⟩
      have c2 := intC_at h0
      rw [← hu] at c2
      have huB : u < B.length := by rw [hB.len]; omega
      have hu1 : (u : Int) < ((B.length : Nat) : Int) := by omega
      have eQ : s.2.getD k0 0 = (u : Int) := by rw [List.getD_eq_getElem?_getD, List.getElem?_eq_getElem h0, hu]; rfl
      have hmem : B.getD u [] ∈ B := by rw [List.getD_eq_getElem?_getD, List.getElem?_eq_getElem huB]; exact List.getElem_mem huB
      obtain ⟨hbl, hbe⟩ := hB.el _ hmem
      have hset : (B.map intC.encs).set u (intC.encs (B.getD u [])) = B.map intC.encs := by
        rw [nest_set]
        congr 1
        apply List.ext_getElem (by simp)
        intro i h1 h2
        rw [List.getElem_set]
        split
        · rename_i e; subst e
          rw [List.getD_eq_getElem?_getD, List.getElem?_eq_getElem huB]; rfl
        · rfl
      have hin := BQ.inn (B.getD u []) hq h0 hbe
      have key := impl_Puzzle_lefts.l24_run (n := n) (l0 := l0) (l1 := l1) (l2 := l2) (l3 := l3) (l4 := l4) (m21 := m) (k0 := k0) (j9 := u) (nest := B.map intC.encs) (ks := B.getD u []) hN (by omega) hbe (B.getD u []).length 0 n s (Nat.zero_add _) (by omega) hq h0
      rw [impl_Puzzle_lefts.l21_eq, bqAll, decide_eq_true h0, cond_true]
      simp only [Cod.encs_len, h1, List.length_map, Int.natCast_nonneg, Int.toNat_natCast, decide_true, cond_true, c2, Option.bind_some, hu1, nest_get]
      refine Eq.trans key ?_
      rw [List.drop_zero, hset, eQ, Int.toNat_natCast]
      exact ih (k0 + 1) m _ (by omega) (by omega) hin.1
    · have h1 : ¬ (k0 : Int) < ((s.2.length : Nat) : Int) := by omega
      rw [impl_Puzzle_lefts.l21_eq, bqAll_end _ _ _ _ h0]
      simp only [Cod.encs_len, h1, decide_false, cond_false]
theorem impl_Puzzle_lefts.l6_run (hn : BIG + 64 ≤ n) (hn2 : 4 * BIG + 64 ≤ n) (hu : unif (lb l) = true) (hs : smallR l = true) (hld : strC.decs (strC.encs l) = some l) (hlen : C.length < BIG) (gd : ∀ a ∈ C, inR a.u.x 0 6 = true ∧ inR a.u.y 0 6 = true) :
    ∀ (d i m : Nat) (s : Sp.Lf), i + d = C.length → d < m → L1 C.length i s →
    impl_Puzzle_lefts.l6 n m l0 l1 l2 l3 (plU (C.map Cr.u)) (stC.encs (C.map Cr.u)) ((C.length : Nat) : Int) (i : Int) s8 i9 i10 i11 i12 i13 i14 i15 i16 px py pt (strC.encs l) (intC.encs s.out) (s.back.map intC.encs) (intC.encs s.q) = some [Q.one (.pt [.sl 8 l0, .sl 1 l1, .sl 1 l2, .sl 1 l3, .mp (plU (C.map Cr.u))]), Q.one (.sl 1 (intC.encs (bqAll (lfAll (isFl (lb l)) (doneS px py pt) C (C.drop i) i s).back BIG 0 ((lfAll (isFl (lb l)) (doneS px py pt) C (C.drop i) i s).out, (lfAll (isFl (lb l)) (doneS px py pt) C (C.drop i) i s).q)).1))] := by
  intro d
  induction d with
  | zero =>
    intro i m s hi hm hL
    obtain ⟨m, rfl⟩ : ∃ m', m = m' + 1 := ⟨m - 1, by omega⟩
    obtain rfl : i = C.length := by omega
    have h1 : ¬ ((C.length : Nat) : Int) < ((C.length : Nat) : Int) := by omega
    rw [impl_Puzzle_lefts.l6_eq, List.drop_of_length_le (Nat.le_refl _)]
    simp only [h1, decide_false, cond_false]
    have hBIG : BIG = 50000000 := rfl
    exact impl_Puzzle_lefts.l21_run (n := n) (b := 4 * C.length) (by omega) hlen hL.bk (by omega) BIG 0 n (s.out, s.q) (Nat.zero_add _) (by omega) hL.bq
  | succ d ih =>
    intro i m s hi hm hL
    obtain ⟨m, rfl⟩ : ∃ m', m = m' + 1 := ⟨m - 1, by omega⟩
    have hk : i < C.length := by omega
    have h1 : (i : Int) < ((C.length : Nat) : Int) := by omega
    have hku : i < (C.map Cr.u).length := by rw [List.length_map]; exact hk
    have hBIG : BIG = 50000000 := rfl
    obtain ⟨c0, c1, c2, c3, c4, c5, c6, c7⟩ := st_cells hku
    rw [List.getElem_map] at c0 c1 c2 c3 c4 c5 c6 c7
    obtain ⟨gx, gy⟩ := gd C[i] (List.getElem_mem hk)
    have hcnt := hL.cnt
    have hql : s.q.length + 1 ≤ 17179869184 := by omega
    have hstep := hL.step (p := isFl (lb l)) (is := doneS px py pt) hk C[i]
    have step := ih (i + 1) m _ (by omega) (by omega) hstep
    rw [List.drop_eq_getElem_cons hk, lfAll]
    refine Eq.trans ?_ step
    rw [impl_Puzzle_lefts.l6_eq]
    simp only [h1, Cod.encs_len, List.length_map, List.length_set, hL.len, Int.natCast_nonneg, Int.toNat_natCast, decide_true, cond_true, c0, c1, c2, c3, c4, c5, c6, c7, Option.bind_some, hql, intC_set, intC_snoc, List.set_set, Die.eta, sta_eta]
    have key : ∀ l23 l25, _ := fun l23 l25 => impl_Puzzle_lefts.l12_run (n := n) (m6 := m) (l0 := l0) (l1 := l1) (l2 := l2) (l3 := l3) (s8 := s8) (i9 := i9) (i10 := i10) (i11 := i11) (i12 := i12) (i13 := i13) (i14 := i14) (i15 := i15) (i16 := i16) (px := px) (py := py) (pt := pt) (l23 := l23) (l25 := l25) hu hs hld hk hlen gx gy 4 0 n (4 * i) s.back rfl (by omega) hL.bk (by omega)
    unfold lfStep
    cases doneS px py pt C[i].u with
    | false =>
      simp only [cond_false]
      exact key _ _
    | true =>
      simp only [cond_true]
      exact key _ _
end
def impl_Puzzle_lefts.stub : Stub
  | [.agg [.str q, .int .i64 x, .int .i64 y, .int .i64 t, .int .i64 n, .int .i64 e, .int .i64 s, .int .i64 w, .int .i64 b, .int .i64 px, .int .i64 py, .int .i64 pt]] => .gd (decide (q.size < LIM)) (.gd (Sp.okSt q ⟨x, y, ⟨t, n, e, s, w, b⟩⟩) (.ret [.one (.pt [.sl 8 (stC.encs (Sp.usC (Sp.wyC (Sp.isFl (Sp.rws q)) ⟨x, y, ⟨t, n, e, s, w, b⟩⟩))), .sl 1 (intC.encs (Sp.besC (Sp.wyC (Sp.isFl (Sp.rws q)) ⟨x, y, ⟨t, n, e, s, w, b⟩⟩))), .sl 1 (u8C.encs (Sp.rlsC (Sp.wyC (Sp.isFl (Sp.rws q)) ⟨x, y, ⟨t, n, e, s, w, b⟩⟩))), .sl 1 (intC.encs (Sp.fasC (Sp.wyC (Sp.isFl (Sp.rws q)) ⟨x, y, ⟨t, n, e, s, w, b⟩⟩))), .mp (Sp.plU (Sp.usC (Sp.wyC (Sp.isFl (Sp.rws q)) ⟨x, y, ⟨t, n, e, s, w, b⟩⟩)))]), .one (.sl 1 (intC.encs (Sp.leftsL (Sp.isFl (Sp.rws q)) (Sp.doneS px py pt) (Sp.wyC (Sp.isFl (Sp.rws q)) ⟨x, y, ⟨t, n, e, s, w, b⟩⟩))))]))
  | _ => .fail
theorem impl_Puzzle_lefts.ok : StubOk Tryd.prog C0 52 impl_Puzzle_lefts.stub := by
  intro args res h
  unfold impl_Puzzle_lefts.stub at h
  split at h
  · rename_i q x y t n e s w b px py pt
    obtain ⟨hs, h0⟩ := gd_out h
    obtain ⟨ho, h0⟩ := gd_out h0
    cases h0
    obtain ⟨N, hN⟩ : ∃ N, 4 * BIG + 64 ≤ N := ⟨4 * BIG + 64, Nat.le_refl _⟩
    refine impl_Puzzle_lefts.ev (n := N) ?_
    unfold LIM at hs
    unfold impl_Puzzle_lefts.res
    obtain ⟨hb, hg, hfl, _, _⟩ := okSt_out ho
    obtain ⟨g1, g2, g3, g4, g5, g6⟩ := Sp.gr_ok (p := brd) hb
    have hlen := wyC_len ho
    have hl0 : (usC (wyC (isFl (rws q)) ⟨x, y, ⟨t, n, e, s, w, b⟩⟩)).length = (wyC (isFl (rws q)) ⟨x, y, ⟨t, n, e, s, w, b⟩⟩).length := by rw [usC, List.length_map]
    have hgd : ∀ a ∈ wyC (isFl (rws q)) ⟨x, y, ⟨t, n, e, s, w, b⟩⟩, inR a.u.x 0 6 = true ∧ inR a.u.y 0 6 = true := fun a ha => by
      have := wy_ok ho a ha
      exact ⟨(okSt_out this).2.2.2.1, (okSt_out this).2.2.2.2⟩
    have hBIG : BIG = 50000000 := rfl
    have hC1 : ((wyC (isFl (rws q)) ⟨x, y, ⟨t, n, e, s, w, b⟩⟩).length : Int) ≤ 17179869184 := by omega
    have key := impl_Puzzle_lefts.l6_run (n := N) (l := gridI brd q) (l0 := stC.encs (usC (wyC (isFl (rws q)) ⟨x, y, ⟨t, n, e, s, w, b⟩⟩))) (l1 := intC.encs (besC (wyC (isFl (rws q)) ⟨x, y, ⟨t, n, e, s, w, b⟩⟩))) (l2 := u8C.encs (rlsC (wyC (isFl (rws q)) ⟨x, y, ⟨t, n, e, s, w, b⟩⟩))) (l3 := intC.encs (fasC (wyC (isFl (rws q)) ⟨x, y, ⟨t, n, e, s, w, b⟩⟩))) (C := wyC (isFl (rws q)) ⟨x, y, ⟨t, n, e, s, w, b⟩⟩) (s8 := q) (i9 := x) (i10 := y) (i11 := t) (i12 := n) (i13 := e) (i14 := s) (i15 := w) (i16 := b) (px := px) (py := py) (pt := pt) (by omega) hN (by rw [g1]; exact g2) (small_gr hb) g5 hlen hgd (wyC (isFl (rws q)) ⟨x, y, ⟨t, n, e, s, w, b⟩⟩).length 0 N (lf0 (wyC (isFl (rws q)) ⟨x, y, ⟨t, n, e, s, w, b⟩⟩).length) (Nat.zero_add _) (by omega) (L1.zero _)
    rw [g1, List.drop_zero] at key
    have erow : (intC.encs (lf0 (wyC (isFl (rws q)) ⟨x, y, ⟨t, n, e, s, w, b⟩⟩).length).out) = List.replicate (wyC (isFl (rws q)) ⟨x, y, ⟨t, n, e, s, w, b⟩⟩).length [D.int .i64 0] := (intC_rep _ _).symm
    have enest : ((lf0 (wyC (isFl (rws q)) ⟨x, y, ⟨t, n, e, s, w, b⟩⟩).length).back.map intC.encs) = List.replicate (wyC (isFl (rws q)) ⟨x, y, ⟨t, n, e, s, w, b⟩⟩).length [] := by simp [lf0, Cod.encs]
    rw [erow, enest] at key
    simp only [hs, ho, cond_true, Cod.encs_len, hl0, Int.toNat_natCast, hC1, Int.le_refl, decide_true]
    exact key
  · cases h
end Go.Proofs.EV.PL
set_option linter.unusedVariables false
set_option linter.unusedSimpArgs false
set_option maxHeartbeats 4000000
/-! Solutions counted. -/
namespace Go.Proofs.EV.PL
open Go Go.Proofs Go.Proofs.EV Sp
theorem puB_pz {q : ByteArray} {s : Sta} {px py pt : Int} (h : puB q s px py pt = true) : pzOk q s px py pt = true ∧ puL q s px py pt = wyN (isFl (rws q)) s := by
  unfold puB at h
  rw [Bool.and_eq_true] at h
  refine ⟨?_, by unfold puL; rw [h.1]; rfl⟩
  cases hz : pzOk q s px py pt with
  | true => rfl
  | false =>
    have h1 := h.1
    unfold puK at h1
    rw [hz] at h1
    cases h1
/-! spec_CountSolutions -/
noncomputable def spec_CountSolutions.cfg : Cfg := { C0 with keep := fun | 6 => some [1, 5, 7, 18, 19, 20] | _ => none, nb := 0, M := tabM [(37, spec_puStates.stub), (51, spec_puDone.stub)], MM := tabB [] }
noncomputable def spec_CountSolutions.l6 (n : Nat) (m6 : Nat) (i0 : Int) (i1 : Int) (i2 : Int) (i3 : Int) (s4 : ByteArray) (i5 : Int) (i6 : Int) (i7 : Int) (i8 : Int) (i9 : Int) (i10 : Int) (i11 : Int) (i12 : Int) (i13 : Int) (i14 : Int) (i15 : Int) (l16 : List (List D)) : Option (List Q) :=
  loopAt spec_CountSolutions.cfg [RK.one (LK.int IntKind.i64), RK.one LK.bool] n Tryd.f26 [1, 1, 1, 1, 0, 1, 0] [] m6 (St.mk [V.undef, V.rp (0 : Nat) (0 : Nat), V.undef, V.undef, V.undef, V.one true (D.int IntKind.i64 i0), V.undef, V.one true (D.int IntKind.i64 i1), V.undef, V.undef, V.undef, V.undef, V.undef, V.undef, V.undef, V.undef, V.undef, V.undef, V.rw (1 : Nat), V.one true (D.int IntKind.i64 i2), V.one true (D.int IntKind.i64 i3), V.undef, V.undef, V.undef, V.undef, V.undef, V.undef, V.undef, V.undef, V.undef, V.undef, V.undef, V.undef, V.undef, V.undef, V.undef, V.undef, V.undef, V.undef, V.undef] [Ob.box [V.one true (D.str s4), V.one true (D.int IntKind.i64 i5), V.one true (D.int IntKind.i64 i6), V.one true (D.int IntKind.i64 i7), V.one true (D.int IntKind.i64 i8), V.one true (D.int IntKind.i64 i9), V.one true (D.int IntKind.i64 i10), V.one true (D.int IntKind.i64 i11), V.one true (D.int IntKind.i64 i12), V.one true (D.int IntKind.i64 i13), V.one true (D.int IntKind.i64 i14), V.one true (D.int IntKind.i64 i15)], Ob.row false (16 : Nat) l16])
theorem spec_CountSolutions.l6_eq (n : Nat) (m6 : Nat) (i0 : Int) (i1 : Int) (i2 : Int) (i3 : Int) (s4 : ByteArray) (i5 : Int) (i6 : Int) (i7 : Int) (i8 : Int) (i9 : Int) (i10 : Int) (i11 : Int) (i12 : Int) (i13 : Int) (i14 : Int) (i15 : Int) (l16 : List (List D)) :
    spec_CountSolutions.l6 n (m6 + 1) i0 i1 i2 i3 s4 i5 i6 i7 i8 i9 i10 i11 i12 i13 i14 i15 l16 = bif decide (i3 < i2) then bif decide ((0 : Int) ≤ i3) then bif decide (i3 < (↑(List.length l16) : Int)) then Option.bind (Option.bind (some (cellD l16 (Int.toNat i3) (0 : Nat))) (D.int? IntKind.i64)) fun (i1_1 : Int) => Option.bind (Option.bind (some (cellD l16 (Int.toNat i3) (1 : Nat))) (D.int? IntKind.i64)) fun (i2_1 : Int) => Option.bind (Option.bind (some (cellD l16 (Int.toNat i3) (2 : Nat))) (D.int? IntKind.i64)) fun (i3_1 : Int) => Option.bind (Option.bind (some (cellD l16 (Int.toNat i3) (3 : Nat))) (D.int? IntKind.i64)) fun (i4 : Int) => Option.bind (Option.bind (some (cellD l16 (Int.toNat i3) (4 : Nat))) (D.int? IntKind.i64)) fun (i5_1 : Int) => Option.bind (Option.bind (some (cellD l16 (Int.toNat i3) (5 : Nat))) (D.int? IntKind.i64)) fun (i6_1 : Int) => Option.bind (Option.bind (some (cellD l16 (Int.toNat i3) (6 : Nat))) (D.int? IntKind.i64)) fun (i7_1 : Int) => Option.bind (Option.bind (some (cellD l16 (Int.toNat i3) (7 : Nat))) (D.int? IntKind.i64)) fun (i8_1 : Int) => Option.bind (Option.bind (some (cellD l16 (Int.toNat i3) (8 : Nat))) (D.int? IntKind.i64)) fun (i9_1 : Int) => Option.bind (Option.bind (some (cellD l16 (Int.toNat i3) (9 : Nat))) (D.int? IntKind.i64)) fun (i10_1 : Int) => Option.bind (Option.bind (some (cellD l16 (Int.toNat i3) (10 : Nat))) (D.int? IntKind.i64)) fun (i11_1 : Int) => Option.bind (Option.bind (some (cellD l16 (Int.toNat i3) (11 : Nat))) (D.int? IntKind.i64)) fun (i12_1 : Int) => Option.bind (Option.bind (some (cellD l16 (Int.toNat i3) (12 : Nat))) (D.int? IntKind.i64)) fun (i13_1 : Int) => Option.bind (Option.bind (some (cellD l16 (Int.toNat i3) (13 : Nat))) (D.int? IntKind.i64)) fun (i14_1 : Int) => Option.bind (Option.bind (some (cellD l16 (Int.toNat i3) (14 : Nat))) (D.int? IntKind.i64)) fun (i15_1 : Int) => Option.bind (Option.bind (some (cellD l16 (Int.toNat i3) (15 : Nat))) (D.int? IntKind.i64)) fun (i16 : Int) => bif i9_1 == i0 then bif doneS i13 i14 i15 (Sta.mk i1_1 i2_1 (Die.mk i3_1 i4 i5_1 i6_1 i7_1 i8_1)) then spec_CountSolutions.l6 n m6 i0 (IntKind.wrap IntKind.i64 (i1 + i10_1)) i2 (IntKind.wrap IntKind.i64 (i3 + (1 : Int))) s4 i5 i6 i7 i8 i9 i10 i11 i12 i13 i14 i15 l16 else spec_CountSolutions.l6 n m6 i0 i1 i2 (IntKind.wrap IntKind.i64 (i3 + (1 : Int))) s4 i5 i6 i7 i8 i9 i10 i11 i12 i13 i14 i15 l16 else spec_CountSolutions.l6 n m6 i0 i1 i2 (IntKind.wrap IntKind.i64 (i3 + (1 : Int))) s4 i5 i6 i7 i8 i9 i10 i11 i12 i13 i14 i15 l16 else none else none else some [Q.one (D.int IntKind.i64 i1), Q.one (D.bool true)] := by kernel_rfl
noncomputable def spec_CountSolutions.res (n : Nat) (a0_0 : ByteArray) (a0_1 : Int) (a0_2 : Int) (a0_3 : Int) (a0_4 : Int) (a0_5 : Int) (a0_6 : Int) (a0_7 : Int) (a0_8 : Int) (a0_9 : Int) (a0_10 : Int) (a0_11 : Int) : Option (List Q) :=
  bif !puB a0_0 (Sta.mk a0_1 a0_2 (Die.mk a0_3 a0_4 a0_5 a0_6 a0_7 a0_8)) a0_9 a0_10 a0_11 then some [Q.one (D.int IntKind.i64 (0 : Int)), Q.one (D.bool false)] else spec_CountSolutions.l6 n n (puF a0_0 (Sta.mk a0_1 a0_2 (Die.mk a0_3 a0_4 a0_5 a0_6 a0_7 a0_8)) a0_9 a0_10 a0_11) (0 : Int) (↑(List.length (Cod.encs ndC (puL a0_0 (Sta.mk a0_1 a0_2 (Die.mk a0_3 a0_4 a0_5 a0_6 a0_7 a0_8)) a0_9 a0_10 a0_11))) : Int) (0 : Int) a0_0 a0_1 a0_2 a0_3 a0_4 a0_5 a0_6 a0_7 a0_8 a0_9 a0_10 a0_11 (Cod.encs ndC (puL a0_0 (Sta.mk a0_1 a0_2 (Die.mk a0_3 a0_4 a0_5 a0_6 a0_7 a0_8)) a0_9 a0_10 a0_11))
theorem spec_CountSolutions.run (n : Nat) (a0_0 : ByteArray) (a0_1 : Int) (a0_2 : Int) (a0_3 : Int) (a0_4 : Int) (a0_5 : Int) (a0_6 : Int) (a0_7 : Int) (a0_8 : Int) (a0_9 : Int) (a0_10 : Int) (a0_11 : Int) :
    run1 spec_CountSolutions.cfg [RK.one (LK.int IntKind.i64), RK.one LK.bool] n Tryd.f26 [Q.agg [D.str a0_0, D.int IntKind.i64 a0_1, D.int IntKind.i64 a0_2, D.int IntKind.i64 a0_3, D.int IntKind.i64 a0_4, D.int IntKind.i64 a0_5, D.int IntKind.i64 a0_6, D.int IntKind.i64 a0_7, D.int IntKind.i64 a0_8, D.int IntKind.i64 a0_9, D.int IntKind.i64 a0_10, D.int IntKind.i64 a0_11]] = spec_CountSolutions.res n a0_0 a0_1 a0_2 a0_3 a0_4 a0_5 a0_6 a0_7 a0_8 a0_9 a0_10 a0_11 := by kernel_rfl
theorem spec_CountSolutions.ev {n : Nat} {a0_0 : ByteArray} {a0_1 : Int} {a0_2 : Int} {a0_3 : Int} {a0_4 : Int} {a0_5 : Int} {a0_6 : Int} {a0_7 : Int} {a0_8 : Int} {a0_9 : Int} {a0_10 : Int} {a0_11 : Int} {r : List Q} (h : spec_CountSolutions.res n a0_0 a0_1 a0_2 a0_3 a0_4 a0_5 a0_6 a0_7 a0_8 a0_9 a0_10 a0_11 = some r) : Snd Tryd.prog C0 26 [.agg [.str a0_0, .int .i64 a0_1, .int .i64 a0_2, .int .i64 a0_3, .int .i64 a0_4, .int .i64 a0_5, .int .i64 a0_6, .int .i64 a0_7, .int .i64 a0_8, .int .i64 a0_9, .int .i64 a0_10, .int .i64 a0_11]] r :=
  snd_ev (C := spec_CountSolutions.cfg) cfg0 mix rfl rfl rfl rfl rfl (.cons spec_puStates.ok (.cons spec_puDone.ok .nil)) .nil rfl Tryd.func26 (by kernel_rfl) (by kernel_rfl) rfl ((spec_CountSolutions.run n a0_0 a0_1 a0_2 a0_3 a0_4 a0_5 a0_6 a0_7 a0_8 a0_9 a0_10 a0_11).trans h)

theorem spec_CountSolutions.l6_run {n : Nat} {N : List Nd} {q : ByteArray} {f i5 i6 i7 i8 i9 i10 i11 i12 px py pt : Int} (hl : N.length ≤ LIM) : ∀ (d i m : Nat) (c : Int), i + d = N.length → d < m →
    spec_CountSolutions.l6 n m f c ((N.length : Nat) : Int) (i : Int) q i5 i6 i7 i8 i9 i10 i11 i12 px py pt (ndC.encs N) = some [Q.one (.int .i64 (sumN (doneS px py pt) f (N.drop i) c)), Q.one (.bool true)] := by
  intro d
  induction d with
  | zero =>
    intro i m c hi hm
    obtain ⟨m, rfl⟩ : ∃ m', m = m' + 1 := ⟨m - 1, by omega⟩
    have h1 : ¬ (i : Int) < ((N.length : Nat) : Int) := by omega
    rw [spec_CountSolutions.l6_eq, List.drop_of_length_le (by omega)]
    simp only [h1, decide_false, cond_false]
    rfl
  | succ d ih =>
    intro i m c hi hm
    obtain ⟨m, rfl⟩ : ∃ m', m = m' + 1 := ⟨m - 1, by omega⟩
    have hlt : i < N.length := by omega
    have h1 : (i : Int) < ((N.length : Nat) : Int) := by omega
    obtain ⟨c0, c1, c2, c3, c4, c5, c6, c7⟩ := nd_cells hlt
    obtain ⟨c8, c9, c10, c11⟩ := nd_cells2 hlt
    obtain ⟨c12, c13, c14, c15⟩ := nd_cells3 hlt
    have step := ih (i + 1) m (bif decide (N[i].far = f) && doneS px py pt N[i].u then IntKind.i64.wrap (c + N[i].words) else c) (by omega) (by omega)
    rw [List.drop_eq_getElem_cons hlt, sumN, ← step, spec_CountSolutions.l6_eq]
    simp only [h1, Cod.encs_len, Int.natCast_nonneg, Int.toNat_natCast, decide_true, cond_true, c0, c1, c2, c3, c4, c5, c6, c7, c8, c9, c10, c11, c12, c13, c14, c15, Option.bind_some, Die.eta, sta_eta, ieq, wrap_succ (show i ≤ LIM by omega)]
    by_cases hf : N[i].far = f
    · simp only [hf, decide_true, cond_true, Bool.true_and]
      cases doneS px py pt N[i].u <;> rfl
    · simp only [hf, decide_false, cond_false, Bool.false_and]
def spec_CountSolutions.stub : Stub
  | [.agg [.str q, .int .i64 x, .int .i64 y, .int .i64 t, .int .i64 n, .int .i64 e, .int .i64 s, .int .i64 w, .int .i64 b, .int .i64 px, .int .i64 py, .int .i64 pt]] => .ret [.one (.int .i64 (Sp.csV q ⟨x, y, ⟨t, n, e, s, w, b⟩⟩ px py pt)), .one (.bool (Sp.puB q ⟨x, y, ⟨t, n, e, s, w, b⟩⟩ px py pt))]
  | _ => .fail
theorem spec_CountSolutions.ok : StubOk Tryd.prog C0 26 spec_CountSolutions.stub := by
  intro args res h
  unfold spec_CountSolutions.stub at h
  split at h
  · rename_i q x y t n e s w b px py pt
    cases h
    obtain ⟨N, hN⟩ : ∃ N, BIG + 64 ≤ N := ⟨BIG + 64, Nat.le_refl _⟩
    refine spec_CountSolutions.ev (n := N) ?_
    unfold spec_CountSolutions.res csV
    cases hz : puB q ⟨x, y, ⟨t, n, e, s, w, b⟩⟩ px py pt with
    | false => rfl
    | true =>
      obtain ⟨hp, hL⟩ := puB_pz hz
      have ho := (puz_ok hp).1
      have hlen := wyN_len ho
      have key := spec_CountSolutions.l6_run (n := N) (N := wyN (isFl (rws q)) ⟨x, y, ⟨t, n, e, s, w, b⟩⟩) (q := q) (f := puF q ⟨x, y, ⟨t, n, e, s, w, b⟩⟩ px py pt) (i5 := x) (i6 := y) (i7 := t) (i8 := n) (i9 := e) (i10 := s) (i11 := w) (i12 := b) (px := px) (py := py) (pt := pt) (by unfold LIM; unfold BIG at hlen; omega) _ 0 N 0 (Nat.zero_add _) (by omega)
      rw [List.drop_zero] at key
      simp only [hL, Bool.not_true, cond_false, cond_true, Cod.encs_len]
      exact key
  · cases h
/-! impl_CountSolutions -/
noncomputable def impl_CountSolutions.cfg : Cfg := { C0 with keep := fun | 7 => some [1, 4, 6, 7, 28, 29, 30] | _ => none, nb := 0, M := tabM [(38, impl_Puzzle_length.stub), (52, impl_Puzzle_lefts.stub), (53, impl_Puzzle_isGoal.stub), (54, impl_CountShortest.stub)], MM := tabB [] }
noncomputable def impl_CountSolutions.l7 (n : Nat) (m7 : Nat) (i0 : Int) (i1 : Int) (l2 : List (List D)) (l3 : List (List D)) (l4 : List (List D)) (l5 : List (List D)) (l6 : List (List D × List D)) (l7 : List (List D)) (i8 : Int) (i9 : Int) (s10 : ByteArray) (i11 : Int) (i12 : Int) (i13 : Int) (i14 : Int) (i15 : Int) (i16 : Int) (i17 : Int) (i18 : Int) (i19 : Int) (i20 : Int) (i21 : Int) : Option (List Q) :=
  loopAt impl_CountSolutions.cfg [RK.one (LK.int IntKind.i64), RK.one LK.bool] n Tryd.f27 [1, 1, 1, 1, 1, 0, 1, 0] [] m7 (St.mk [V.undef, V.rp (0 : Nat) (0 : Nat), V.undef, V.undef, V.one true (D.int IntKind.i64 i0), V.undef, V.one true (D.int IntKind.i64 i1), V.one true (D.pt [D.sl (8 : Nat) l2, D.sl (1 : Nat) l3, D.sl (1 : Nat) l4, D.sl (1 : Nat) l5, D.mp l6]), V.undef, V.undef, V.undef, V.undef, V.undef, V.undef, V.undef, V.undef, V.undef, V.undef, V.undef, V.undef, V.undef, V.undef, V.undef, V.undef, V.undef, V.undef, V.undef, V.undef, V.one true (D.sl (8 : Nat) l7), V.one true (D.int IntKind.i64 i8), V.one true (D.int IntKind.i64 i9), V.undef, V.undef, V.undef, V.undef, V.undef, V.undef, V.undef, V.undef, V.undef, V.undef, V.undef, V.undef, V.undef, V.undef, V.undef, V.undef, V.undef, V.undef, V.undef, V.undef, V.undef, V.undef, V.undef, V.undef, V.undef, V.undef, V.undef, V.undef, V.undef, V.undef, V.undef, V.undef] [Ob.box [V.one true (D.str s10), V.one true (D.int IntKind.i64 i11), V.one true (D.int IntKind.i64 i12), V.one true (D.int IntKind.i64 i13), V.one true (D.int IntKind.i64 i14), V.one true (D.int IntKind.i64 i15), V.one true (D.int IntKind.i64 i16), V.one true (D.int IntKind.i64 i17), V.one true (D.int IntKind.i64 i18), V.one true (D.int IntKind.i64 i19), V.one true (D.int IntKind.i64 i20), V.one true (D.int IntKind.i64 i21)]])
theorem impl_CountSolutions.l7_eq (n : Nat) (m7 : Nat) (i0 : Int) (i1 : Int) (l2 : List (List D)) (l3 : List (List D)) (l4 : List (List D)) (l5 : List (List D)) (l6 : List (List D × List D)) (l7 : List (List D)) (i8 : Int) (i9 : Int) (s10 : ByteArray) (i11 : Int) (i12 : Int) (i13 : Int) (i14 : Int) (i15 : Int) (i16 : Int) (i17 : Int) (i18 : Int) (i19 : Int) (i20 : Int) (i21 : Int) :
    impl_CountSolutions.l7 n (m7 + 1) i0 i1 l2 l3 l4 l5 l6 l7 i8 i9 s10 i11 i12 i13 i14 i15 i16 i17 i18 i19 i20 i21 = bif decide (i9 < i8) then bif decide ((0 : Int) ≤ i9) then bif decide (i9 < (↑(List.length l7) : Int)) then Option.bind (Option.bind (some (cellD l7 (Int.toNat i9) (0 : Nat))) (D.int? IntKind.i64)) fun (i1_1 : Int) => Option.bind (Option.bind (some (cellD l7 (Int.toNat i9) (1 : Nat))) (D.int? IntKind.i64)) fun (i2 : Int) => Option.bind (Option.bind (some (cellD l7 (Int.toNat i9) (2 : Nat))) (D.int? IntKind.i64)) fun (i3 : Int) => Option.bind (Option.bind (some (cellD l7 (Int.toNat i9) (3 : Nat))) (D.int? IntKind.i64)) fun (i4 : Int) => Option.bind (Option.bind (some (cellD l7 (Int.toNat i9) (4 : Nat))) (D.int? IntKind.i64)) fun (i5 : Int) => Option.bind (Option.bind (some (cellD l7 (Int.toNat i9) (5 : Nat))) (D.int? IntKind.i64)) fun (i6 : Int) => Option.bind (Option.bind (some (cellD l7 (Int.toNat i9) (6 : Nat))) (D.int? IntKind.i64)) fun (i7 : Int) => Option.bind (Option.bind (some (cellD l7 (Int.toNat i9) (7 : Nat))) (D.int? IntKind.i64)) fun (i8_1 : Int) => bif doneS i19 i20 i21 (Sta.mk i1_1 i2 (Die.mk i3 i4 i5 i6 i7 i8_1)) then bif decide ((0 : Int) ≤ i9) then bif decide (i9 < (↑(List.length l5) : Int)) then Option.bind (Option.bind (some (cellD l5 (Int.toNat i9) (0 : Nat))) (D.int? IntKind.i64)) fun (i9_1 : Int) => bif i9_1 == i0 then bif decide (ByteArray.size s10 < (17179869184 : Nat)) then impl_CountSolutions.l7 n m7 i0 (IntKind.wrap IntKind.i64 (i1 + cntV s10 (Sta.mk i11 i12 (Die.mk i13 i14 i15 i16 i17 i18)) (Sta.mk i1_1 i2 (Die.mk i3 i4 i5 i6 i7 i8_1)))) l2 l3 l4 l5 l6 l7 i8 (IntKind.wrap IntKind.i64 (i9 + (1 : Int))) s10 i11 i12 i13 i14 i15 i16 i17 i18 i19 i20 i21 else none else impl_CountSolutions.l7 n m7 i0 i1 l2 l3 l4 l5 l6 l7 i8 (IntKind.wrap IntKind.i64 (i9 + (1 : Int))) s10 i11 i12 i13 i14 i15 i16 i17 i18 i19 i20 i21 else none else none else impl_CountSolutions.l7 n m7 i0 i1 l2 l3 l4 l5 l6 l7 i8 (IntKind.wrap IntKind.i64 (i9 + (1 : Int))) s10 i11 i12 i13 i14 i15 i16 i17 i18 i19 i20 i21 else none else none else some [Q.one (D.int IntKind.i64 i1), Q.one (D.bool true)] := by kernel_rfl
noncomputable def impl_CountSolutions.res (n : Nat) (a0_0 : ByteArray) (a0_1 : Int) (a0_2 : Int) (a0_3 : Int) (a0_4 : Int) (a0_5 : Int) (a0_6 : Int) (a0_7 : Int) (a0_8 : Int) (a0_9 : Int) (a0_10 : Int) (a0_11 : Int) : Option (List Q) :=
  bif decide (ByteArray.size a0_0 < (17179869184 : Nat)) then bif !isSO (solF a0_0 (Sta.mk a0_1 a0_2 (Die.mk a0_3 a0_4 a0_5 a0_6 a0_7 a0_8)) a0_9 a0_10 a0_11) then some [Q.one (D.int IntKind.i64 (0 : Int)), Q.one (D.bool false)] else bif decide (ByteArray.size a0_0 < (17179869184 : Nat)) then bif okSt a0_0 (Sta.mk a0_1 a0_2 (Die.mk a0_3 a0_4 a0_5 a0_6 a0_7 a0_8)) then impl_CountSolutions.l7 n n (lenO (solF a0_0 (Sta.mk a0_1 a0_2 (Die.mk a0_3 a0_4 a0_5 a0_6 a0_7 a0_8)) a0_9 a0_10 a0_11)) (0 : Int) (Cod.encs stC (usC (wyC (isFl (rws a0_0)) (Sta.mk a0_1 a0_2 (Die.mk a0_3 a0_4 a0_5 a0_6 a0_7 a0_8))))) (Cod.encs intC (besC (wyC (isFl (rws a0_0)) (Sta.mk a0_1 a0_2 (Die.mk a0_3 a0_4 a0_5 a0_6 a0_7 a0_8))))) (Cod.encs u8C (rlsC (wyC (isFl (rws a0_0)) (Sta.mk a0_1 a0_2 (Die.mk a0_3 a0_4 a0_5 a0_6 a0_7 a0_8))))) (Cod.encs intC (fasC (wyC (isFl (rws a0_0)) (Sta.mk a0_1 a0_2 (Die.mk a0_3 a0_4 a0_5 a0_6 a0_7 a0_8))))) (plU (usC (wyC (isFl (rws a0_0)) (Sta.mk a0_1 a0_2 (Die.mk a0_3 a0_4 a0_5 a0_6 a0_7 a0_8))))) (Cod.encs stC (usC (wyC (isFl (rws a0_0)) (Sta.mk a0_1 a0_2 (Die.mk a0_3 a0_4 a0_5 a0_6 a0_7 a0_8))))) (↑(List.length (Cod.encs stC (usC (wyC (isFl (rws a0_0)) (Sta.mk a0_1 a0_2 (Die.mk a0_3 a0_4 a0_5 a0_6 a0_7 a0_8)))))) : Int) (0 : Int) a0_0 a0_1 a0_2 a0_3 a0_4 a0_5 a0_6 a0_7 a0_8 a0_9 a0_10 a0_11 else none else none else none
theorem impl_CountSolutions.run (n : Nat) (a0_0 : ByteArray) (a0_1 : Int) (a0_2 : Int) (a0_3 : Int) (a0_4 : Int) (a0_5 : Int) (a0_6 : Int) (a0_7 : Int) (a0_8 : Int) (a0_9 : Int) (a0_10 : Int) (a0_11 : Int) :
    run1 impl_CountSolutions.cfg [RK.one (LK.int IntKind.i64), RK.one LK.bool] n Tryd.f27 [Q.agg [D.str a0_0, D.int IntKind.i64 a0_1, D.int IntKind.i64 a0_2, D.int IntKind.i64 a0_3, D.int IntKind.i64 a0_4, D.int IntKind.i64 a0_5, D.int IntKind.i64 a0_6, D.int IntKind.i64 a0_7, D.int IntKind.i64 a0_8, D.int IntKind.i64 a0_9, D.int IntKind.i64 a0_10, D.int IntKind.i64 a0_11]] = impl_CountSolutions.res n a0_0 a0_1 a0_2 a0_3 a0_4 a0_5 a0_6 a0_7 a0_8 a0_9 a0_10 a0_11 := by kernel_rfl
theorem impl_CountSolutions.ev {n : Nat} {a0_0 : ByteArray} {a0_1 : Int} {a0_2 : Int} {a0_3 : Int} {a0_4 : Int} {a0_5 : Int} {a0_6 : Int} {a0_7 : Int} {a0_8 : Int} {a0_9 : Int} {a0_10 : Int} {a0_11 : Int} {r : List Q} (h : impl_CountSolutions.res n a0_0 a0_1 a0_2 a0_3 a0_4 a0_5 a0_6 a0_7 a0_8 a0_9 a0_10 a0_11 = some r) : Snd Tryd.prog C0 27 [.agg [.str a0_0, .int .i64 a0_1, .int .i64 a0_2, .int .i64 a0_3, .int .i64 a0_4, .int .i64 a0_5, .int .i64 a0_6, .int .i64 a0_7, .int .i64 a0_8, .int .i64 a0_9, .int .i64 a0_10, .int .i64 a0_11]] r :=
  snd_ev (C := impl_CountSolutions.cfg) cfg0 mix rfl rfl rfl rfl rfl (.cons impl_Puzzle_length.ok (.cons impl_Puzzle_lefts.ok (.cons impl_Puzzle_isGoal.ok (.cons impl_CountShortest.ok .nil)))) .nil rfl Tryd.func27 (by kernel_rfl) (by kernel_rfl) rfl ((impl_CountSolutions.run n a0_0 a0_1 a0_2 a0_3 a0_4 a0_5 a0_6 a0_7 a0_8 a0_9 a0_10 a0_11).trans h)

theorem impl_CountSolutions.l7_run {n : Nat} {q : ByteArray} {f x y t z e s w b px py pt : Int} {l2 l3 l4 : List (List D)} {l6 : List (List D × List D)} {N : List Nd} (hN : N = wyN (isFl (rws q)) ⟨x, y, ⟨t, z, e, s, w, b⟩⟩) (ho : okSt q ⟨x, y, ⟨t, z, e, s, w, b⟩⟩ = true) (hq : decide (q.size < 17179869184) = true) (hl : N.length ≤ LIM) : ∀ (d i m : Nat) (c : Int), i + d = N.length → d < m →
    impl_CountSolutions.l7 n m f c l2 l3 l4 (intC.encs ((N.map Nd.core).map Cr.far)) l6 (stC.encs ((N.map Nd.core).map Cr.u)) ((N.length : Nat) : Int) (i : Int) q x y t z e s w b px py pt = some [Q.one (.int .i64 (sumN (doneS px py pt) f (N.drop i) c)), Q.one (.bool true)] := by
  intro d
  induction d with
  | zero =>
    intro i m c hi hm
    obtain ⟨m, rfl⟩ : ∃ m', m = m' + 1 := ⟨m - 1, by omega⟩
    have h1 : ¬ (i : Int) < ((N.length : Nat) : Int) := by omega
    rw [impl_CountSolutions.l7_eq, List.drop_of_length_le (by omega)]
    simp only [h1, decide_false, cond_false]
    rfl
  | succ d ih =>
    intro i m c hi hm
    obtain ⟨m, rfl⟩ : ∃ m', m = m' + 1 := ⟨m - 1, by omega⟩
    have hlt : i < N.length := by omega
    have h1 : (i : Int) < ((N.length : Nat) : Int) := by omega
    have hltu : i < ((N.map Nd.core).map Cr.u).length := by rw [List.length_map, List.length_map]; exact hlt
    have hltf : i < ((N.map Nd.core).map Cr.far).length := by rw [List.length_map, List.length_map]; exact hlt
    obtain ⟨c0, c1, c2, c3, c4, c5, c6, c7⟩ := st_cells hltu
    have c8 := intC_at hltf
    simp only [List.getElem_map] at c0 c1 c2 c3 c4 c5 c6 c7 c8
    rw [show N[i].core.far = N[i].far from rfl] at c8
    have hcv : cntV q ⟨x, y, ⟨t, z, e, s, w, b⟩⟩ N[i].u = N[i].words := by
      subst hN
      exact (cntV_at ho hlt).1
    have step := ih (i + 1) m (bif decide (N[i].far = f) && doneS px py pt N[i].u then IntKind.i64.wrap (c + N[i].words) else c) (by omega) (by omega)
    rw [List.drop_eq_getElem_cons hlt, sumN, ← step, impl_CountSolutions.l7_eq]
    have eu : N[i].core.u = N[i].u := rfl
    simp only [h1, Cod.encs_len, List.length_map, Int.natCast_nonneg, Int.toNat_natCast, decide_true, cond_true, c0, c1, c2, c3, c4, c5, c6, c7, c8, eu, Option.bind_some, Die.eta, sta_eta, ieq, hq, hcv, wrap_succ (show i ≤ LIM by omega)]
    by_cases hf : N[i].far = f
    · simp only [hf, decide_true, cond_true, Bool.true_and]
      cases doneS px py pt N[i].u <;> rfl
    · simp only [hf, decide_false, cond_false, Bool.false_and]
      cases doneS px py pt N[i].u <;> rfl
def impl_CountSolutions.stub : Stub
  | [.agg [.str q, .int .i64 x, .int .i64 y, .int .i64 t, .int .i64 n, .int .i64 e, .int .i64 s, .int .i64 w, .int .i64 b, .int .i64 px, .int .i64 py, .int .i64 pt]] => .gd (decide (q.size < LIM)) (.ret [.one (.int .i64 (Sp.csV q ⟨x, y, ⟨t, n, e, s, w, b⟩⟩ px py pt)), .one (.bool (Sp.puB q ⟨x, y, ⟨t, n, e, s, w, b⟩⟩ px py pt))])
  | _ => .fail
theorem impl_CountSolutions.ok : StubOk Tryd.prog C0 27 impl_CountSolutions.stub := by
  intro args res h
  unfold impl_CountSolutions.stub at h
  split at h
  · rename_i q x y t n e s w b px py pt
    obtain ⟨hs, h0⟩ := gd_out h
    cases h0
    obtain ⟨N, hN⟩ : ∃ N, BIG + 64 ≤ N := ⟨BIG + 64, Nat.le_refl _⟩
    refine impl_CountSolutions.ev (n := N) ?_
    unfold LIM at hs
    unfold impl_CountSolutions.res csV
    rw [hs, solF_puB]
    cases hz : puB q ⟨x, y, ⟨t, n, e, s, w, b⟩⟩ px py pt with
    | false => rfl
    | true =>
      obtain ⟨hp, hL⟩ := puB_pz hz
      have ho := (puz_ok hp).1
      have hlen := wyN_len ho
      have key := impl_CountSolutions.l7_run (n := N) (N := wyN (isFl (rws q)) ⟨x, y, ⟨t, n, e, s, w, b⟩⟩) (q := q) (f := puF q ⟨x, y, ⟨t, n, e, s, w, b⟩⟩ px py pt) (x := x) (y := y) (t := t) (z := n) (e := e) (s := s) (w := w) (b := b) (px := px) (py := py) (pt := pt) (l2 := stC.encs (usC (wyC (isFl (rws q)) ⟨x, y, ⟨t, n, e, s, w, b⟩⟩))) (l3 := intC.encs (besC (wyC (isFl (rws q)) ⟨x, y, ⟨t, n, e, s, w, b⟩⟩))) (l4 := u8C.encs (rlsC (wyC (isFl (rws q)) ⟨x, y, ⟨t, n, e, s, w, b⟩⟩))) (l6 := plU (usC (wyC (isFl (rws q)) ⟨x, y, ⟨t, n, e, s, w, b⟩⟩))) rfl ho hs (by unfold LIM; unfold BIG at hlen; omega) _ 0 N 0 (Nat.zero_add _) (by omega)
      have hl0 : (wyN (isFl (rws q)) ⟨x, y, ⟨t, n, e, s, w, b⟩⟩).length = (usC (wyC (isFl (rws q)) ⟨x, y, ⟨t, n, e, s, w, b⟩⟩)).length := by rw [usC, List.length_map, ← wy_core, List.length_map]
      rw [List.drop_zero, wy_core] at key
      simp only [Bool.not_true, cond_false, cond_true, ho, Cod.encs_len, solF_len _ _ _ _ _ hz, ← hl0]
      exact key
  · cases h
/-! laws_FnExactCountSolutions -/
noncomputable def laws_FnExactCountSolutions.cfg : Cfg := { C0 with keep := fun _ => none, nb := 0, M := tabM [(11, laws_szPuzzle.stub), (13, laws_toPuzzle.stub), (26, spec_CountSolutions.stub), (27, impl_CountSolutions.stub)], MM := tabB [] }
noncomputable def laws_FnExactCountSolutions.res (n : Nat) (a0_0 : ByteArray) (a0_1 : Int) (a0_2 : Int) (a0_3 : Int) (a0_4 : Int) (a0_5 : Int) (a0_6 : Int) (a0_7 : Int) (a0_8 : Int) (a0_9 : Int) (a0_10 : Int) (a0_11 : Int) : Option (List Q) :=
  bif decide (ByteArray.size a0_0 ≤ (9223372036854775807 : Nat)) then bif decide ((bif decide (ByteArray.size a0_0 ≤ (1048576 : Nat)) then (1048576 : Int) - (↑(ByteArray.size a0_0) : Int) else (-1 : Int)) < (0 : Int)) then some [Q.one (D.bool true)] else bif decide (ByteArray.size a0_0 < (17179869184 : Nat)) then bif csV a0_0 (Sta.mk a0_1 a0_2 (Die.mk a0_3 a0_4 a0_5 a0_6 a0_7 a0_8)) a0_9 a0_10 a0_11 != csV a0_0 (Sta.mk a0_1 a0_2 (Die.mk a0_3 a0_4 a0_5 a0_6 a0_7 a0_8)) a0_9 a0_10 a0_11 then some [Q.one (D.bool false)] else bif !puB a0_0 (Sta.mk a0_1 a0_2 (Die.mk a0_3 a0_4 a0_5 a0_6 a0_7 a0_8)) a0_9 a0_10 a0_11 == puB a0_0 (Sta.mk a0_1 a0_2 (Die.mk a0_3 a0_4 a0_5 a0_6 a0_7 a0_8)) a0_9 a0_10 a0_11 then some [Q.one (D.bool false)] else some [Q.one (D.bool true)] else none else none
theorem laws_FnExactCountSolutions.run (n : Nat) (a0_0 : ByteArray) (a0_1 : Int) (a0_2 : Int) (a0_3 : Int) (a0_4 : Int) (a0_5 : Int) (a0_6 : Int) (a0_7 : Int) (a0_8 : Int) (a0_9 : Int) (a0_10 : Int) (a0_11 : Int) :
    run1 laws_FnExactCountSolutions.cfg [RK.one LK.bool] n Tryd.f7 [Q.agg [D.str a0_0, D.int IntKind.i64 a0_1, D.int IntKind.i64 a0_2, D.int IntKind.i64 a0_3, D.int IntKind.i64 a0_4, D.int IntKind.i64 a0_5, D.int IntKind.i64 a0_6, D.int IntKind.i64 a0_7, D.int IntKind.i64 a0_8, D.int IntKind.i64 a0_9, D.int IntKind.i64 a0_10, D.int IntKind.i64 a0_11]] = laws_FnExactCountSolutions.res n a0_0 a0_1 a0_2 a0_3 a0_4 a0_5 a0_6 a0_7 a0_8 a0_9 a0_10 a0_11 := by kernel_rfl
theorem laws_FnExactCountSolutions.ev {n : Nat} {a0_0 : ByteArray} {a0_1 : Int} {a0_2 : Int} {a0_3 : Int} {a0_4 : Int} {a0_5 : Int} {a0_6 : Int} {a0_7 : Int} {a0_8 : Int} {a0_9 : Int} {a0_10 : Int} {a0_11 : Int} {r : List Q} (h : laws_FnExactCountSolutions.res n a0_0 a0_1 a0_2 a0_3 a0_4 a0_5 a0_6 a0_7 a0_8 a0_9 a0_10 a0_11 = some r) : Snd Tryd.prog C0 7 [.agg [.str a0_0, .int .i64 a0_1, .int .i64 a0_2, .int .i64 a0_3, .int .i64 a0_4, .int .i64 a0_5, .int .i64 a0_6, .int .i64 a0_7, .int .i64 a0_8, .int .i64 a0_9, .int .i64 a0_10, .int .i64 a0_11]] r :=
  snd_ev (C := laws_FnExactCountSolutions.cfg) cfg0 mix rfl rfl rfl rfl rfl (.cons laws_szPuzzle.ok (.cons laws_toPuzzle.ok (.cons spec_CountSolutions.ok (.cons impl_CountSolutions.ok .nil)))) .nil rfl Tryd.func7 (by kernel_rfl) (by kernel_rfl) rfl ((laws_FnExactCountSolutions.run n a0_0 a0_1 a0_2 a0_3 a0_4 a0_5 a0_6 a0_7 a0_8 a0_9 a0_10 a0_11).trans h)

theorem laws_FnExactCountSolutions.law (q : ByteArray) (hq : q.size ≤ 9223372036854775807) (x y t n e s w b px py pt : Int) : Snd Tryd.prog C0 7 [.agg [.str q, .int .i64 x, .int .i64 y, .int .i64 t, .int .i64 n, .int .i64 e, .int .i64 s, .int .i64 w, .int .i64 b, .int .i64 px, .int .i64 py, .int .i64 pt]] [.one (.bool true)] := by
  refine laws_FnExactCountSolutions.ev (n := 0) ?_
  unfold laws_FnExactCountSolutions.res
  simp only [hq, decide_true, cond_true, szNeg]
  by_cases hs : q.size ≤ 1048576
  · have h1 : q.size < 17179869184 := by omega
    simp only [hs, h1, decide_true, cond_true, Bool.not_true, cond_false, strEq_refl, beq_self_eq_true, bne_self_eq_false]
  · simp only [hs, decide_false, Bool.not_false, cond_true, cond_false]
end Go.Proofs.EV.PL
