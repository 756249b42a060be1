import Derived.Shelf.Strings.OnBuilder
import Derived.Shelf.SlicesE.Clone
import Derived.Test.YtjldgcppleibgaaDoorEvC
set_option linter.unusedVariables false
set_option linter.unusedSimpArgs false
/-! Boards turned, put together, labelled; in plain Lean. -/
set_option linter.unusedSectionVars false
namespace Go.Proofs.EV
open Go Go.RowKit
variable [Dr]
namespace Sp
theorem u8dec (c d : UInt8) : decide ((c.toNat : Int) = (d.toNat : Int)) = (c == d) := by
  rw [Bool.eq_iff_iff, decide_eq_true_eq, beq_iff_eq]
  constructor
  · intro h
    exact UInt8.toNat_inj.1 (by omega)
  · rintro rfl; rfl
theorem dirUQ_any (t : ByteArray) (c : UInt8) : TQ.dirUQ (inSet t) c = (bl t).any fun u => c == u := by
  unfold TQ.dirUQ inSet
  congr 1
  funext u
  exact u8dec c u
def digI (c : Int) : Bool := decide (48 ≤ c) && decide (c ≤ 57)
def dig (c : UInt8) : Bool := digI (c.toNat : Int)
def lab (c : UInt8) : Bool := brd c || dig c
def gnd (c : UInt8) : Bool := brd c || (c == 45 || c == 111)
/-- A ground: a board of such cells with one hole at most. -/
def isGr (s : ByteArray) : Bool := isBo gnd s && decide (ctB s 111 ≤ 1)
theorem q_brd : TQ.dirUQ (inSet lit1) = brd := by
  funext c
  rw [dirUQ_any]
  show List.any [(46 : UInt8), 35] _ = _
  simp [List.any_cons, brd]
theorem q_gnd : TQ.dirUQ (inSet lit2) = gnd := by
  funext c
  rw [dirUQ_any]
  show List.any [(46 : UInt8), 35, 45, 111] _ = _
  simp [List.any_cons, brd, gnd, Bool.or_assoc]
theorem dig_any (c : UInt8) : List.any [(48 : UInt8), 49, 50, 51, 52, 53, 54, 55, 56, 57] (fun u => c == u) = dig c := by
  rw [Bool.eq_iff_iff]
  simp only [List.any_cons, List.any_nil, Bool.or_false, ← u8dec, Bool.or_eq_true, decide_eq_true_eq, dig, digI, Bool.and_eq_true]
  have e : (48 : UInt8).toNat = 48 ∧ (49 : UInt8).toNat = 49 ∧ (50 : UInt8).toNat = 50 ∧ (51 : UInt8).toNat = 51 ∧ (52 : UInt8).toNat = 52 ∧ (53 : UInt8).toNat = 53 ∧ (54 : UInt8).toNat = 54 ∧ (55 : UInt8).toNat = 55 ∧ (56 : UInt8).toNat = 56 ∧ (57 : UInt8).toNat = 57 := ⟨rfl, rfl, rfl, rfl, rfl, rfl, rfl, rfl, rfl, rfl⟩
  obtain ⟨e0, e1, e2, e3, e4, e5, e6, e7, e8, e9⟩ := e
  rw [e0, e1, e2, e3, e4, e5, e6, e7, e8, e9]
  omega
theorem q_lab : TQ.dirUQ (inSet lit3) = lab := by
  funext c
  rw [dirUQ_any]
  show List.any ([(46 : UInt8), 35] ++ [(48 : UInt8), 49, 50, 51, 52, 53, 54, 55, 56, 57]) _ = _
  rw [List.any_append, dig_any]
  simp [List.any_cons, brd, lab]
theorem unif_all {r : List (List UInt8)} (h : unif r = true) : ∀ x ∈ r, x.length = wOf r := fun x hx => of_decide_eq_true (List.all_eq_true.1 h x hx)
theorem spl_le (c : UInt8) : ∀ (l : List UInt8), ∀ r ∈ spl c l, r.length ≤ l.length
  | [], r, h => by
    obtain rfl := List.mem_singleton.1 h
    exact Nat.le_refl _
  | x :: l, r, h => by
    rw [spl] at h
    have hc := spl_cons c l
    cases hx : x == c with
    | true =>
      rw [hx, cond_true] at h
      rcases List.mem_cons.1 h with rfl | h
      · simp
      · have := spl_le c l r h
        rw [List.length_cons]; omega
    | false =>
      rw [hx, cond_false] at h
      rcases List.mem_cons.1 h with rfl | h
      · have := spl_le c l _ (by rw [hc]; exact List.mem_cons_self)
        simp only [List.length_cons]; omega
      · have := spl_le c l r (by rw [hc]; exact List.mem_cons_of_mem _ h)
        rw [List.length_cons]; omega
theorem all_two {α : Type} (p q : α → Bool) : ∀ l : List α, (l.all fun x => p x && q x) = (l.all p && l.all q)
  | [] => rfl
  | a :: l => by
    rw [List.all_cons, List.all_cons, List.all_cons, all_two p q l]
    cases p a <;> cases q a <;> simp
/-- Texts as lists of bytes. -/
def lb (l : List ByteArray) : List (List UInt8) := l.map bl
theorem lb_mkB (r : List (List UInt8)) : lb (r.map mkB) = r := by
  unfold lb
  rw [List.map_map]
  exact (List.map_congr_left (g := id) fun x _ => bl_mkB x).trans (List.map_id _)
theorem lb_len (l : List ByteArray) : (lb l).length = l.length := List.length_map _
theorem lb_get {l : List ByteArray} {i : Nat} (h : i < l.length) : (lb l).getD i [] = bl l[i] := by
  unfold lb
  rw [List.getD_eq_getElem?_getD, List.getElem?_map, List.getElem?_eq_getElem h]; rfl
theorem lb_w {l : List ByteArray} (h : 0 < l.length) : wOf (lb l) = l[0].size := by
  match l, h with
  | a :: l, _ => exact bl_len a
theorem lb_wget {l : List ByteArray} (hu : unif (lb l) = true) {i : Nat} (h : i < l.length) : l[i].size = wOf (lb l) := by
  have := unif_get hu (y := i) (by rw [lb_len]; exact h)
  rw [← this]
  unfold lb
  rw [List.getElem_map, bl_len]
def hd8 (t : ByteArray) : UInt8 := (bl t).getD 0 0
/-- Whether all texts are rows of such cells and so wide. -/
def okRows (z : Int → Bool) (w : Nat) (l : List ByteArray) : Bool := l.all fun x => decide (x.size = w) && TQ.allDirQ z x
theorem okRows_rws (z : Int → Bool) (b : ByteArray) : okRows z (wOf (rws b)) (rowsB 47 b) = fine (TQ.dirUQ z) (rws b) := by
  unfold okRows rowsB fine unif cellsQ
  rw [List.all_map, ← all_two]
  show List.all (rws b) _ = _
  congr 1
theorem lb_rowsB (b : ByteArray) : lb (rowsB 47 b) = rws b := lb_mkB _
theorem rows_len (b : ByteArray) : (rws b).length ≤ b.size + 1 := by
  unfold rws
  rw [spl_count, ← bl_len]
  have : (bl b).count 47 ≤ (bl b).length := List.count_le_length
  omega
theorem rowsB_row (b : ByteArray) : ∀ x ∈ rowsB 47 b, x.size ≤ b.size := by
  intro x hx
  obtain ⟨r, hr, rfl⟩ := List.mem_map.1 hx
  rw [mkB_size, ← bl_len]
  exact spl_le 47 _ r hr
theorem rws_ne (b : ByteArray) : 0 < (rws b).length := by
  unfold rws
  rw [spl_count]; omega
theorem bl_rows (q : UInt8 → Bool) (s : ByteArray) (h : isBo q s = true) : lb (gridI q s) = rws s := by
  show (gridI q s).map bl = rws s
  have hf : fine q (rws s) = true := by
    unfold isBo at h
    exact (Bool.and_eq_true _ _ ▸ h : _ ∧ _).1
  unfold gridI
  rw [hf, cond_true, List.map_map]
  exact (List.map_congr_left (g := id) fun x _ => bl_mkB x).trans (List.map_id _)
theorem spl_flat (c : UInt8) : ∀ l, (spl c l).flatten = l.filter fun x => !(x == c)
  | [] => rfl
  | x :: l => by
    have ih := spl_flat c l
    rw [spl_cons c l] at ih
    rw [spl, List.filter_cons]
    cases hx : x == c
    · simpa using ih
    · rw [spl_cons c l]
      simpa using ih
theorem u8bne (c d : UInt8) {k : Int} (h : (d.toNat : Int) = k) : ((c.toNat : Int) != k) = !(c == d) := by
  subst h
  rw [← u8dec, bne]; rfl
theorem u8beq (c d : UInt8) {k : Int} (h : (d.toNat : Int) = k) : ((c.toNat : Int) == k) = (c == d) := by
  subst h
  rw [← u8dec]; rfl
theorem u8C_snoc (l : List UInt8) (c : UInt8) : u8C.encs l ++ [[D.int .u8 (c.toNat : Int)]] = u8C.encs (l ++ [c]) := by
  simp [Cod.encs, u8C]
theorem u8C_cell {l : List UInt8} {k : Nat} (h : k < l.length) : D.int? .u8 (cellD (u8C.encs l) k 0) = some (l[k].toNat : Int) := by
  rw [Cod.encs_cell h]
  show D.int? .u8 (D.int .u8 _) = _
  unfold D.int?
  simp
theorem u8C_set (l : List UInt8) (i : Nat) (x : UInt8) : setRow 1 (u8C.encs l) i 0 [D.int .u8 (x.toNat : Int)] = u8C.encs (l.set i x) := by
  rw [setRow_full (sz := 1) (ds := [D.int .u8 (x.toNat : Int)]) rfl]
  unfold Cod.encs
  rw [List.map_set]; rfl
def zeroB : List Q := [.agg [.int .i64 0, .int .i64 0, .sl 1 []], .one (.bool false)]
/-- What has been read, if its size is right. -/
def outB : Option (Nat × Nat × List UInt8) → List Q
  | none => zeroB
  | some (w, h, cs) => bif decide (w ≤ 7) && (decide (h ≤ 7) && decide (cs.length ≤ 36)) then [.agg [.int .i64 w, .int .i64 h, .sl 1 (u8C.encs cs)], .one (.bool true)] else zeroB
def outG : Option (Nat × Nat × List UInt8) → List Q
  | none => zeroB
  | some (w, h, cs) => bif decide (w ≤ 7) && (decide (h ≤ 7) && (decide (cs.length ≤ 36) && decide (cs.count 111 ≤ 1))) then [.agg [.int .i64 w, .int .i64 h, .sl 1 (u8C.encs cs)], .one (.bool true)] else zeroB
theorem isBo_big {q : UInt8 → Bool} {s : ByteArray} (h : 42 < s.size) : isBo q s = false := by
  cases hb : isBo q s with
  | false => rfl
  | true => have := isBo_size hb; omega
theorem out_zero {q : UInt8 → Bool} {s : ByteArray} (h : isBo q s = false) : [Q.agg [.int .i64 (boW q s : Nat), .int .i64 (boH q s : Nat), .sl 1 (u8C.encs (boC q s))], .one (.bool (isBo q s))] = zeroB := by
  unfold boW boH boC
  rw [h]; rfl
theorem out_rd (q : UInt8 → Bool) (s : ByteArray) : outB (rdGo q (bl s) 0 0 0 []) = [Q.agg [.int .i64 (boW q s : Nat), .int .i64 (boH q s : Nat), .sl 1 (u8C.encs (boC q s))], .one (.bool (isBo q s))] := by
  rw [rdGo_eq]
  have h0 := rws_ne s
  cases hf : fine q (rws s) with
  | false => rw [out_zero (by unfold isBo; rw [hf]; rfl)]; rfl
  | true =>
    have hu : unif (rws s) = true := by
      unfold fine at hf
      exact (Bool.and_eq_true _ _ ▸ hf : _ ∧ _).1
    by_cases h1 : 0 < wOf (rws s)
    · have e : isBo q s = (decide (wOf (rws s) ≤ 7) && (decide ((rws s).length ≤ 7) && decide ((rws s).flatten.length ≤ 36))) := by
        unfold isBo sizeOk inR
        rw [hf, flat_len hu, Bool.eq_iff_iff]
        simp only [Bool.and_eq_true, decide_eq_true_eq, true_and]
        omega
      simp only [h1, decide_true, Bool.and_self, cond_true]
      show (bif _ then _ else _) = _
      rw [← e]
      cases hb : isBo q s with
      | false =>
        have z := out_zero hb
        rw [hb] at z
        rw [z]; rfl
      | true =>
        unfold boW boH boC
        rw [hb]; rfl
    · simp only [h1, decide_false, Bool.and_false, cond_false]
      rw [out_zero]
      · rfl
      · unfold isBo sizeOk inR
        rw [hf, Bool.eq_false_iff]
        simp only [ne_eq, Bool.and_eq_true, decide_eq_true_eq]
        omega
/-- What the reference reads of a ground. -/
def grW (s : ByteArray) : Nat := bif isGr s then wOf (rws s) else 0
def grH (s : ByteArray) : Nat := bif isGr s then (rws s).length else 0
def grC (s : ByteArray) : List UInt8 := bif isGr s then (rws s).flatten else []
theorem outG_zero {s : ByteArray} (h : isGr s = false) : [Q.agg [.int .i64 (grW s : Nat), .int .i64 (grH s : Nat), .sl 1 (u8C.encs (grC s))], .one (.bool (isGr s))] = zeroB := by
  unfold grW grH grC
  rw [h]; rfl
theorem outG_rd (s : ByteArray) : outG (rdGo gnd (bl s) 0 0 0 []) = [Q.agg [.int .i64 (grW s : Nat), .int .i64 (grH s : Nat), .sl 1 (u8C.encs (grC s))], .one (.bool (isGr s))] := by
  rw [rdGo_eq]
  have h0 := rws_ne s
  cases hf : fine gnd (rws s) with
  | false => rw [outG_zero (by unfold isGr isBo; rw [hf]; rfl)]; rfl
  | true =>
    have hu : unif (rws s) = true := by
      unfold fine at hf
      exact (Bool.and_eq_true _ _ ▸ hf : _ ∧ _).1
    by_cases h1 : 0 < wOf (rws s)
    · have e : isGr s = (decide (wOf (rws s) ≤ 7) && (decide ((rws s).length ≤ 7) && (decide ((rws s).flatten.length ≤ 36) && decide ((rws s).flatten.count 111 ≤ 1)))) := by
        have ec : (rws s).flatten.count 111 = ctB s 111 := by
          unfold rws ctB
          rw [spl_flat, List.count_filter (by rfl)]
        unfold isGr isBo sizeOk inR
        rw [hf, ec, flat_len hu, Bool.eq_iff_iff]
        simp only [Bool.and_eq_true, decide_eq_true_eq, true_and]
        omega
      simp only [h1, decide_true, Bool.and_self, cond_true]
      show (bif _ then _ else _) = _
      rw [← e]
      cases hb : isGr s with
      | false =>
        have z := outG_zero hb
        rw [hb] at z
        rw [z]; rfl
      | true =>
        unfold grW grH grC
        rw [hb]; rfl
    · simp only [h1, decide_false, Bool.and_false, cond_false]
      rw [outG_zero]
      · rfl
      · unfold isGr isBo sizeOk inR
        rw [hf, Bool.eq_false_iff]
        simp only [ne_eq, Bool.and_eq_true, decide_eq_true_eq]
        omega
theorem jn_cons (r : List UInt8) : ∀ rs, jn (r :: rs) = r ++ (rs.map (47 :: ·)).flatten
  | [] => by simp [jn]
  | r' :: rs => by rw [jn, jn_cons r' rs]; simp
theorem jn_snoc (l : List (List UInt8)) (r : List UInt8) : jn (l ++ [r]) = bif l.isEmpty then r else jn l ++ 47 :: r := by
  cases l with
  | nil => rfl
  | cons a l => rw [List.cons_append, jn_cons, jn_cons]; simp
def isDot (cs : List UInt8) (i : Nat) : Bool := decide (((cs.getD i 0).toNat : Int) = 46)
def chunk (w h : Nat) (cs : List UInt8) : List (List UInt8) := (List.range h).map fun y => (cs.drop (y * w)).take w
theorem flat_row : ∀ (r : List (List UInt8)) (w : Nat), (∀ x ∈ r, x.length = w) → ∀ y, y < r.length → (r.flatten.drop (y * w)).take w = r.getD y []
  | [], _, _, y, h => by simp at h
  | a :: r, w, hw, 0, _ => by
    have := hw a List.mem_cons_self
    rw [Nat.zero_mul, List.drop_zero, List.flatten_cons, List.take_append_of_le_length (by omega), List.take_of_length_le (by omega)]
    rfl
  | a :: r, w, hw, y + 1, h => by
    have := hw a List.mem_cons_self
    rw [List.flatten_cons, Nat.add_mul, Nat.one_mul, Nat.add_comm, ← List.drop_drop, List.drop_left' this, List.getD_cons_succ]
    exact flat_row r w (fun x hx => hw x (List.mem_cons_of_mem _ hx)) y (by simpa using h)
theorem chunk_flat (r : List (List UInt8)) (w : Nat) (hw : ∀ x ∈ r, x.length = w) : chunk w r.length r.flatten = r := by
  unfold chunk
  apply List.ext_getElem (by simp)
  intro i h1 h2
  rw [List.getElem_map, List.getElem_range, flat_row r w hw i h2, List.getD_eq_getElem?_getD, List.getElem?_eq_getElem h2]
  rfl
def turnC (w h : Nat) (cs : List UInt8) : List UInt8 := ((List.range w).map fun x => (List.range h).reverse.map fun y => cs.getD (y * w + x) 0).flatten
theorem turnC_rows {r : List (List UInt8)} (h : unif r = true) : turnC (wOf r) r.length r.flatten = (turnR r).flatten := by
  unfold turnC turnR
  congr 1
  refine List.map_congr_left fun x hx => ?_
  have hx := List.mem_range.1 hx
  rw [List.map_reverse, List.map_reverse]
  congr 1
  apply List.ext_getElem (by simp)
  intro i h1 h2
  have hi : i < r.length := by simpa using h2
  rw [List.getElem_map, List.getElem_map, List.getElem_range, flat_get' h hi hx, List.getD_eq_getElem?_getD (l := r), List.getElem?_eq_getElem hi]
  rfl
theorem turnR_len (r : List (List UInt8)) : (turnR r).length = wOf r := by simp [turnR]
theorem turnR_row (r : List (List UInt8)) : ∀ x ∈ turnR r, x.length = r.length := by
  intro x hx
  obtain ⟨k, _, rfl⟩ := List.mem_map.1 hx
  simp
theorem turnC_len {r : List (List UInt8)} (h : unif r = true) : (turnC (wOf r) r.length r.flatten).length = r.length * wOf r := by
  rw [turnC_rows h, List.length_flatten, sum_all (n := r.length)]
  · simp [turnR_len, Nat.mul_comm]
  · intro x hx
    obtain ⟨r', hr, rfl⟩ := List.mem_map.1 hx
    exact turnR_row r r' hr
theorem turn_text {r : List (List UInt8)} (h : unif r = true) : jn (chunk r.length (wOf r) (turnC (wOf r) r.length r.flatten)) = jn (turnR r) := by
  rw [turnC_rows h]
  have := chunk_flat (turnR r) r.length (turnR_row r)
  rw [turnR_len] at this
  rw [this]
/-- Floor in place of a label. -/
def fl (c : UInt8) : UInt8 := bif dig c then 46 else c
theorem dig47 : dig 47 = false := rfl
theorem dig46 : dig 46 = false := rfl
theorem fl_47 (c : UInt8) : (fl c == 47) = (c == 47) := by
  unfold fl
  cases h : dig c with
  | false => rfl
  | true =>
    symm
    rw [cond_true]
    show (c == 47) = false
    rw [beq_eq_false_iff_ne]
    rintro rfl
    cases h
theorem brd_fl (c : UInt8) : brd (fl c) = lab c := by
  unfold fl lab
  cases dig c
  · simp
  · simp; rfl
theorem spl_map (f : UInt8 → UInt8) (hf : ∀ c, (f c == 47) = (c == 47)) : ∀ l, spl 47 (l.map f) = (spl 47 l).map (List.map f)
  | [] => rfl
  | x :: l => by
    rw [List.map_cons, spl, spl, hf, spl_map f hf l, spl_cons 47 l]
    cases x == 47 <;> rfl
/-- A labelled board's floor. -/
def plainB (s : ByteArray) : ByteArray := mkB ((bl s).map fl)
theorem rws_plain (s : ByteArray) : rws (plainB s) = (rws s).map (List.map fl) := by
  unfold rws plainB
  rw [bl_mkB, spl_map fl fl_47]
theorem wOf_map (f : UInt8 → UInt8) (r : List (List UInt8)) : wOf (r.map (List.map f)) = wOf r := by
  cases r with
  | nil => rfl
  | cons a r => simp [wOf]
theorem unif_map (f : UInt8 → UInt8) (r : List (List UInt8)) : unif (r.map (List.map f)) = unif r := by
  unfold unif
  rw [wOf_map, List.all_map]
  congr 1
  funext x
  show decide ((x.map f).length = _) = _
  rw [List.length_map]
theorem isBo_plain (s : ByteArray) : isBo brd (plainB s) = isBo lab s := by
  unfold isBo fine sizeOk
  rw [rws_plain, unif_map, wOf_map, List.length_map]
  congr 2
  unfold cellsQ
  rw [List.all_map]
  congr 1
  funext x
  show List.all (x.map fl) brd = _
  rw [List.all_map]
  congr 1
  funext c
  exact brd_fl c
theorem plain_size (s : ByteArray) : (plainB s).size = s.size := by
  unfold plainB
  rw [mkB_size, List.length_map, bl_len]
theorem labels_flat (s : ByteArray) : (rws s).flatten = (bl s).filter fun x => !(x == 47) := spl_flat 47 _
/-- The cells of a labelled board. -/
def prL (s : ByteArray) : List UInt8 := bif decide (s.size ≤ 42) then (bl s).filter (fun x => !(x == 47)) else []
theorem flat_map (f : UInt8 → UInt8) (r : List (List UInt8)) : (r.map (List.map f)).flatten = r.flatten.map f := by
  induction r with
  | nil => rfl
  | cons a r ih => rw [List.map_cons, List.flatten_cons, List.flatten_cons, List.map_append, ih]
end Sp
end Go.Proofs.EV
set_option linter.unusedVariables false
set_option linter.unusedSimpArgs false
/-! A struct of numbers and texts, however deep, handed over by value. -/
set_option linter.unusedSectionVars false
namespace Go.Proofs.EV
open Go Go.RowKit Go.WideShapes Go.ChangeShapes Go.Deep
variable [Dr]
/-- What a struct's cells are. -/
inductive Lf where
  | i
  | s
  deriving DecidableEq
def catL (g : TypeId → Option (List Lf)) (c : TypeId → Nat) : List Field → Nat → Option (List Lf)
  | [], _ => some []
  | f :: fs, o => bif f.offset == o then (g f.type).bind fun a => bif c f.type == a.length then (catL g c fs (o + a.length)).map (a ++ ·) else none else none
def leaves (P : Program) : Nat → TypeId → Option (List Lf)
  | 0, _ => none
  | n + 1, t => match P.underlying t with
    | some (.int .i64) => some [.i]
    | some .string => some [.s]
    | some (.struct fs) => catL (leaves P n) P.cellsOf fs.toList 0
    | _ => none
def LfOk : Lf → Value → Prop
  | .i, v => ∃ z, v = .int .i64 z
  | .s, v => ∃ z, v = .string z ∧ z.size ≤ 9223372036854775807
def exD : List Lf → (List D → Prop) → Prop
  | [], p => p []
  | .i :: ks, p => ∃ z : Int, exD ks fun ds => p (.int .i64 z :: ds)
  | .s :: ks, p => ∃ z : ByteArray, z.size ≤ 9223372036854775807 ∧ exD ks fun ds => p (.str z :: ds)
theorem exD_mono : ∀ (ks : List Lf) {p q : List D → Prop}, (∀ ds, p ds → q ds) → exD ks p → exD ks q
  | [], _, _, h, hp => h _ hp
  | .i :: ks, _, _, h, ⟨z, hz⟩ => ⟨z, exD_mono ks (fun ds hd => h _ hd) hz⟩
  | .s :: ks, _, _, h, ⟨z, hs, hz⟩ => ⟨z, hs, exD_mono ks (fun ds hd => h _ hd) hz⟩
theorem exD_of {w : World} {ok : Nat → Prop} : ∀ (ks : List Lf) (cs : List Value), (∀ j (h : j < ks.length), LfOk ks[j] (cs.getD j undef)) →
    exD ks fun ds => ds.length = ks.length ∧ ∀ j, j < ks.length → CRel w ok (ds.getD j .nilp) (cs.getD j undef)
  | [], cs, _ => ⟨rfl, fun j hj => by simp at hj⟩
  | k :: ks, cs, h => by
    have h0 := h 0 (by simp)
    have ht := exD_of (w := w) (ok := ok) ks (cs.drop 1) (fun j hj => by
      have := h (j + 1) (by simpa using hj)
      rw [List.getD_eq_getElem?_getD, List.getElem?_drop, Nat.add_comm 1 j, ← List.getD_eq_getElem?_getD]
      simpa using this)
    have step : ∀ (d : D), CRel w ok d (cs.getD 0 undef) → ∀ ds : List D, (ds.length = ks.length ∧ ∀ j, j < ks.length → CRel w ok (ds.getD j .nilp) ((cs.drop 1).getD j undef)) →
        ((d :: ds).length = (k :: ks).length ∧ ∀ j, j < (k :: ks).length → CRel w ok ((d :: ds).getD j .nilp) (cs.getD j undef)) := by
      intro d hd ds ⟨h1, h2⟩
      refine ⟨by simp [h1], fun j hj => ?_⟩
      cases j with
      | zero => exact hd
      | succ j =>
        have := h2 j (by simpa using hj)
        rw [List.getD_eq_getElem?_getD (l := cs.drop 1), List.getElem?_drop, Nat.add_comm 1 j, ← List.getD_eq_getElem?_getD] at this
        exact this
    cases k with
    | i =>
      obtain ⟨z, hz⟩ := h0
      exact ⟨z, exD_mono ks (step _ (by rw [hz]; exact .int _ _)) ht⟩
    | s =>
      obtain ⟨z, hz, hs⟩ := h0
      exact ⟨z, hs, exD_mono ks (step _ (by rw [hz]; exact .str _)) ht⟩
section
variable {H : Type} {enc : TypeId × Value → H} {P : Program} {w : World} {base : Nat} {sp : Nat → Bool} {held : Bool}
theorem catL_ok {g : TypeId → Option (List Lf)} {cs : List Value} {n : Nat}
    (ih : ∀ t ks (cs : List Value) x, g t = some ks → DataW.trod enc P w base sp held n t cs = some x → cs.length = ks.length ∧ ∀ j (h : j < ks.length), LfOk ks[j] (cs.getD j undef)) :
    ∀ (fs : List Field) (o : Nat) (ks : List Lf), catL g P.cellsOf fs o = some ks → (∀ f ∈ fs, ∃ y, DataW.trod enc P w base sp held n f.type ((cs.drop f.offset).take (P.cellsOf f.type)) = some y) →
      ∀ j (h : j < ks.length), LfOk ks[j] (cs.getD (o + j) undef)
  | [], o, ks, h, _, j, hj => by
    rw [catL] at h; cases h; simp at hj
  | f :: fs, o, ks, h, hf, j, hj => by
    rw [catL] at h
    cases h1 : f.offset == o with
    | false => rw [h1] at h; cases h
    | true =>
      rw [h1] at h
      cases h2 : g f.type with
      | none => rw [h2] at h; cases h
      | some a =>
        rw [h2] at h
        simp only [cond_true, Option.bind_some] at h
        cases h3 : P.cellsOf f.type == a.length with
        | false => rw [h3] at h; cases h
        | true =>
          rw [h3] at h
          simp only [cond_true] at h
          cases h4 : catL g P.cellsOf fs (o + a.length) with
          | none => rw [h4] at h; cases h
          | some b =>
            rw [h4] at h
            cases h
            have e1 : f.offset = o := by simpa using h1
            have e3 : P.cellsOf f.type = a.length := by simpa using h3
            by_cases hja : j < a.length
            · obtain ⟨y, hy⟩ := hf f List.mem_cons_self
              obtain ⟨_, k2⟩ := ih _ _ _ _ h2 hy
              have := k2 j hja
              rw [e1, e3, List.getD_eq_getElem?_getD, List.getElem?_take_of_lt hja, List.getElem?_drop, ← List.getD_eq_getElem?_getD] at this
              have e : (a ++ b)[j] = a[j] := List.getElem_append_left hja
              rw [e]; exact this
            · have hlt : j - a.length < b.length := by rw [List.length_append] at hj; omega
              have := catL_ok ih fs (o + a.length) b h4 (fun f' hf' => hf f' (List.mem_cons_of_mem _ hf')) (j - a.length) hlt
              have e : (a ++ b)[j] = b[j - a.length] := List.getElem_append_right (by omega)
              rw [e]
              rw [show o + a.length + (j - a.length) = o + j by omega] at this
              exact this
theorem trod_leaves : ∀ (m : Nat) (fuel : Nat) (t : TypeId) (ks : List Lf) (cs : List Value) (x : DataW H × List MemPlace), leaves P m t = some ks → P.cellsOf t = ks.length → DataW.trod enc P w base sp held fuel t cs = some x →
    cs.length = ks.length ∧ ∀ j (h : j < ks.length), LfOk ks[j] (cs.getD j undef)
  | 0, _, _, _, _, _, h, _, _ => by rw [leaves] at h; cases h
  | m + 1, fuel, t, ks, cs, x, h, hc, hx => by
    rw [leaves] at h
    split at h
    · rename_i hu
      cases h
      obtain ⟨z, rfl, _, _⟩ := DataW.trod_int hu hx
      exact ⟨rfl, fun j hj => by
        obtain rfl : j = 0 := by simpa using hj
        exact ⟨z, rfl⟩⟩
    · rename_i hu
      cases h
      obtain ⟨z, rfl, _, hs⟩ := DataW.trod_string hu hx
      exact ⟨rfl, fun j hj => by
        obtain rfl : j = 0 := by simpa using hj
        exact ⟨z, rfl, hs⟩⟩
    · rename_i fs hu
      obtain ⟨xs, n, _, _, hl, hx', hf⟩ := DataW.trod_struct hu hx
      refine ⟨hl.trans hc, fun j hj => ?_⟩
      have key := catL_ok (cs := cs) (g := fun u => bif P.cellsOf u == ((leaves P m u).getD []).length then leaves P m u else none) (n := n) (fun u ks' cs' x' h1 h2 => by
        cases h3 : P.cellsOf u == ((leaves P m u).getD []).length with
        | false => rw [h3] at h1; cases h1
        | true =>
          rw [h3] at h1
          simp only [cond_true] at h1
          rw [h1] at h3
          exact trod_leaves m n u ks' cs' x' h1 (by simpa using h3) h2) fs.toList 0 ks ?_ ?_ j hj
      · simpa using key
      · rw [← h]
        clear h
        generalize hz : (0 : Nat) = o
        clear hz
        induction fs.toList generalizing o with
        | nil => rfl
        | cons f l ihl =>
          rw [catL, catL]
          cases hq : leaves P m f.type with
          | none => simp
          | some a =>
            cases hr : P.cellsOf f.type == a.length
            · simp [hr]
            · simp [hr, ihl]
      · intro f hf'
        obtain ⟨i, hi, rfl⟩ := List.mem_iff_getElem.1 hf'
        have hi' : i < fs.size := by simpa using hi
        have := hf i fs[i] (by simp [hi'])
        rw [List.getElem?_eq_getElem (by rw [hx']; exact hi')] at this
        exact ⟨_, by simpa using this⟩
    · cases h
theorem open_leaves {t : TypeId} {fs : Array Field} {ks : List Lf} {r : Reach} {b0 : Nat} {v : Value} {d : DataW H} {ps : List MemPlace} {ok : Nat → Prop} (ht : P.underlying t = some (.struct fs)) (hk : leaves P 9 t = some ks) (hc : P.cellsOf t = ks.length)
    (hval : Value.okWide P w r b0 t v) (hd : DataW.Trod enc P w base sp held t v d ps) : exD ks fun ds => QRel w ok (.agg ds) v := by
  obtain ⟨cs, rfl, hsz⟩ := okWide_struct ht hval
  obtain ⟨fuel, hf⟩ := hd
  obtain ⟨h1, h2⟩ := trod_leaves 9 fuel t ks _ _ hk hc hf
  have e : (Value.agg cs).cells.toList = cs.toList ∨ True := .inr trivial
  have := exD_of (w := w) (ok := ok) ks cs.toList (fun j hj => by simpa [Value.cells] using h2 j hj)
  refine exD_mono ks (fun ds ⟨k1, k2⟩ => ⟨cs, rfl, by omega, fun i hi => ?_⟩) this
  have := k2 i (by omega)
  simpa using this
end
end Go.Proofs.EV
set_option linter.unusedVariables false
set_option linter.unusedSimpArgs false
/-! Texts joined. -/
set_option linter.unusedSectionVars false
namespace Go.Proofs.EV
open Go Go.RowKit Go.Shelf
variable [Dr]
theorem Below.of_kit (hp : ¬ Dr.p) {B : Nat} {w w' : World} (h : RowKit.Below B w w') : Below B w w' := ⟨h.os, h.tape, h.output, h.size, h.block, fun q => absurd q hp⟩
namespace Sp
theorem jn_join (rs : List (List UInt8)) : Lib.join rs [47] = jn rs := by
  cases rs with
  | nil => rfl
  | cons r rs => rw [Lib.join_cons, jn_cons]; rfl
theorem jn_le (w : Nat) : ∀ rs : List (List UInt8), (∀ x ∈ rs, x.length ≤ w) → (jn rs).length ≤ rs.length * (w + 1)
  | [], _ => by simp [jn]
  | [r], h => by
    have := h r List.mem_cons_self
    rw [jn, List.length_singleton]; omega
  | r :: r' :: rs, h => by
    have h1 := h r List.mem_cons_self
    have h2 := jn_le w (r' :: rs) (fun x hx => h x (List.mem_cons_of_mem _ hx))
    rw [jn, List.length_append, List.length_cons, List.length_cons, Nat.add_mul]
    omega
def isSl (t : ByteArray) : Bool := decide (t = ⟨#[47]⟩)
end Sp
section
variable {P : Program} {ρ : Ren} {C : Cfg} {w : World}
theorem str_cells {ok : Nat → Prop} {l : List ByteArray} {v : Value} (h : CRel w ok (.sl 1 (Sp.strC.encs l)) v) :
    (l = [] ∧ ∃ a c, v = .slice a 0 c) ∨ ∃ b off c, v = .slice (some ⟨b, off, none⟩) l.length c ∧ ok b ∧ l.length ≤ c ∧ ∀ (j : Nat) x, l[j]? = some x → w.cell? ⟨b, off + j, none⟩ = some (.string x) := by
  generalize hes : Sp.strC.encs l = es at h
  cases h with
  | sl0 _ a c =>
    refine .inl ⟨?_, a, c, rfl⟩
    have := congrArg List.length hes
    rw [Cod.encs_len] at this
    exact List.eq_nil_of_length_eq_zero this
  | sl _ _ b off c cv hok hc h1 h2 =>
    subst hes
    rw [Cod.encs_len] at hc h1 h2
    refine .inr ⟨b, off, c, by rw [Cod.encs_len], hok, hc, fun j x hj => ?_⟩
    obtain ⟨hlt, rfl⟩ := List.getElem?_eq_some_iff.1 hj
    have a := h1 j 0 hlt (by omega)
    have b := h2 j 0 hlt (by omega)
    rw [Cod.encs_cell hlt] at b
    change CRel w ok (.str l[j]) (cv j 0) at b
    generalize cv j 0 = u at a b
    cases b
    rw [Nat.mul_one, Nat.add_zero] at a
    exact a
/-- strings.Join. -/
theorem join_ok (hp : ¬ Dr.p) (L : Lays.n156 P ρ) (X : Builder.Extra P ρ) {f : Nat} {fn : Func} (hfn : ρ.f 156 = f) (hf : P.funcs[f]? = some fn) (hfb : fn.body.isNone = false) (hfname : (fn.name == "runtime.NumGoroutine") = false) (hsig : C.sig f = [.one .str])
    (l : List ByteArray) (sep : ByteArray) (hl : l.length ≤ LIM) (hlen : (Lib.join (l.map (·.data.toList)) sep.data.toList).length ≤ LIM) :
    Snd P C f [.one (.sl 1 (Sp.strC.encs l)), .one (.str sep)] [.one (.str ⟨(Lib.join (l.map (·.data.toList)) sep.data.toList).toArray⟩)] := by
  intro w vals hG hv hr
  obtain ⟨lv⟩ := vals
  match lv, hv with
  | [v0, v1], _ =>
  have h0 := hr 0 (by simp)
  have h1 := hr 1 (by simp)
  change CRel w _ (.sl 1 (Sp.strC.encs l)) v0 at h0
  change CRel w _ (.str sep) v1 at h1
  cases h1
  refine .inl ⟨fn, hf, hfb, hfname, ?_⟩
  rw [hsig, ← hfn]
  have res : ∀ (w' : World) (s : ByteArray), RRel w' w.heap.size [.one .str] [.one (.str s)] (.string s) := fun w' s => ⟨[.string s], [], rfl, .one _ (.str _) .nil, fun i j b h => by simp at h⟩
  rcases str_cells h0 with ⟨rfl, a, c, rfl⟩ | ⟨b, off, c, rfl, hok, hc, hcells⟩
  · refine (Any.strings_Join_none L X a c sep w).mono ?_
    rintro e w' ⟨rfl, rfl⟩
    exact ⟨_, rfl, res _ _, Below.refl _ _⟩
  · unfold LIM at hl hlen
    refine (Any.strings_Join L X b off c l sep w hcells hok (by omega) hc (by omega)).mono ?_
    rintro e w' ⟨rfl, hb⟩
    exact ⟨_, rfl, res _ _, Below.of_kit hp hb⟩
end
end Go.Proofs.EV
set_option linter.unusedVariables false
set_option linter.unusedSimpArgs false
/-! Boards turned and put together, step by step; in plain Lean. -/
set_option linter.unusedSectionVars false
namespace Go.Proofs.EV
open Go Go.RowKit
variable [Dr]
namespace Sp
theorem strEq_refl (a : ByteArray) : strEq a a = true := by
  unfold strEq
  exact beq_self_eq_true _
def onI (c : Bool) (z : Int) : Int := bif c then z else 0
def onS (c : Bool) (s : ByteArray) : ByteArray := bif c then s else ⟨#[]⟩
/-- The column to which a row is turned. -/
def tx (q : ByteArray) (y : Int) : Int := IntKind.i64.wrap (IntKind.i64.wrap (((rws q).length : Int) - 1) - y)
theorem chunk_succ (w y : Nat) (cs : List UInt8) : chunk w (y + 1) cs = chunk w y cs ++ [(cs.drop (y * w)).take w] := by
  unfold chunk
  rw [List.range_succ, List.map_append]; rfl
theorem chunk_len (w y : Nat) (cs : List UInt8) : (chunk w y cs).length = y := by simp [chunk]
theorem chunk_row (w y : Nat) (cs : List UInt8) : ∀ x ∈ chunk w y cs, x.length ≤ w := by
  intro x hx
  obtain ⟨k, _, rfl⟩ := List.mem_map.1 hx
  rw [List.length_take]; omega
theorem chunk_jn (w y : Nat) (cs : List UInt8) : jn (chunk w (y + 1) cs) = bif decide (0 < y) then jn (chunk w y cs) ++ [47] ++ (cs.drop (y * w)).take w else jn (chunk w y cs) ++ (cs.drop (y * w)).take w := by
  rw [chunk_succ, jn_snoc]
  cases y with
  | zero => rfl
  | succ y =>
    have : (chunk w (y + 1) cs).isEmpty = false := by
      cases h : chunk w (y + 1) cs with
      | nil => have := chunk_len w (y + 1) cs; rw [h] at this; simp at this
      | cons a l => rfl
    rw [this]
    simp
theorem chunk_jn_le (w y : Nat) (cs : List UInt8) : (jn (chunk w y cs)).length ≤ y * (w + 1) := by
  have := jn_le w (chunk w y cs) (chunk_row w y cs)
  rwa [chunk_len] at this
/-- A column, from below. -/
def colUp (w : Nat) (cs : List UInt8) (x d : Nat) : List UInt8 := (List.range d).reverse.map fun y => cs.getD (y * w + x) 0
theorem colUp_succ (w : Nat) (cs : List UInt8) (x d : Nat) : colUp w cs x (d + 1) = cs.getD (d * w + x) 0 :: colUp w cs x d := by
  unfold colUp
  rw [List.range_succ, List.reverse_append]; rfl
theorem colUp_len (w : Nat) (cs : List UInt8) (x d : Nat) : (colUp w cs x d).length = d := by simp [colUp]
def turnTo (w h : Nat) (cs : List UInt8) (k : Nat) : List UInt8 := ((List.range k).map fun x => colUp w cs x h).flatten
theorem turnTo_all (w h : Nat) (cs : List UInt8) : turnTo w h cs w = turnC w h cs := rfl
theorem turnTo_succ (w h : Nat) (cs : List UInt8) (k : Nat) : turnTo w h cs (k + 1) = turnTo w h cs k ++ colUp w cs k h := by
  unfold turnTo
  rw [List.range_succ, List.map_append, List.flatten_append]
  simp
theorem turnTo_len (w h : Nat) (cs : List UInt8) : ∀ k, (turnTo w h cs k).length = k * h
  | 0 => by simp [turnTo]
  | k + 1 => by rw [turnTo_succ, List.length_append, turnTo_len w h cs k, colUp_len, Nat.add_mul]; omega
/-- A column of rows, from below. -/
def colR (r : List (List UInt8)) (x d : Nat) : List UInt8 := (List.range d).reverse.map fun y => (r.getD y []).getD x 0
theorem colR_succ (r : List (List UInt8)) (x d : Nat) : colR r x (d + 1) = (r.getD d []).getD x 0 :: colR r x d := by
  unfold colR
  rw [List.range_succ, List.reverse_append]; rfl
theorem colR_len (r : List (List UInt8)) (x d : Nat) : (colR r x d).length = d := by simp [colR]
theorem rev_range (r : List (List UInt8)) (x : Nat) : (r.reverse.map fun row => row.getD x 0) = colR r x r.length := by
  unfold colR
  rw [List.map_reverse, List.map_reverse]
  congr 1
  apply List.ext_getElem (by simp)
  intro i h1 h2
  have hi : i < r.length := by simpa using h1
  rw [List.getElem_map, List.getElem_map, List.getElem_range, List.getD_eq_getElem?_getD (l := r), List.getElem?_eq_getElem hi]
  rfl
def turnRTo (r : List (List UInt8)) (k : Nat) : List (List UInt8) := (List.range k).map fun x => colR r x r.length
theorem turnRTo_all (r : List (List UInt8)) : turnRTo r (wOf r) = turnR r := by
  unfold turnRTo turnR
  refine List.map_congr_left fun x _ => ?_
  exact (rev_range r x).symm
theorem turnRTo_succ (r : List (List UInt8)) (k : Nat) : turnRTo r (k + 1) = turnRTo r k ++ [colR r k r.length] := by
  unfold turnRTo
  rw [List.range_succ, List.map_append]; rfl
theorem turnRTo_len (r : List (List UInt8)) (k : Nat) : (turnRTo r k).length = k := by simp [turnRTo]
def smallR (l : List ByteArray) : Bool := decide (l.length ≤ 7) && l.all fun x => decide (x.size ≤ 7)
theorem smallR_out {l : List ByteArray} (h : smallR l = true) : l.length ≤ 7 ∧ ∀ x ∈ l, x.size ≤ 7 := by
  unfold smallR at h
  rw [Bool.and_eq_true, decide_eq_true_eq, List.all_eq_true] at h
  exact ⟨h.1, fun x hx => of_decide_eq_true (h.2 x hx)⟩
theorem small_gr {q : UInt8 → Bool} {s : ByteArray} (hb : isBo q s = true) : smallR (gridI q s) = true := by
  obtain ⟨k1, k2, k3, k4⟩ := isBo_fine hb
  have hr := bl_rows q s hb
  unfold smallR
  rw [Bool.and_eq_true, decide_eq_true_eq, List.all_eq_true]
  refine ⟨by rw [← lb_len, hr]; omega, fun x hx => ?_⟩
  have : bl x ∈ rws s := by rw [← hr]; exact List.mem_map_of_mem hx
  have := unif_all k1 _ this
  rw [bl_len] at this
  rw [decide_eq_true_eq]; omega
theorem lb_plain (l : List ByteArray) : lb (l.map plainB) = (lb l).map (List.map fl) := by
  unfold lb
  rw [List.map_map, List.map_map]
  refine List.map_congr_left fun x _ => ?_
  exact bl_mkB _
theorem prL_rows {s : ByteArray} (hb : isBo lab s = true) : prL s = (rws s).flatten := by
  unfold prL
  have := isBo_size hb
  rw [decide_eq_true this, cond_true, labels_flat]
theorem turnR_jn {r : List (List UInt8)} (h1 : r.length ≤ 7) (h2 : wOf r ≤ 7) : (jn (turnR r)).length ≤ 56 := by
  have := jn_le r.length (turnR r) (fun x hx => by rw [turnR_row r x hx]; omega)
  rw [turnR_len] at this
  have := Nat.mul_le_mul h2 (show r.length + 1 ≤ 8 by omega)
  omega
def turnB (l : List ByteArray) : List ByteArray := (turnR (lb l)).map mkB
theorem lb_turnB (l : List ByteArray) : lb (turnB l) = turnR (lb l) := lb_mkB _
def plainL (l : List ByteArray) : List ByteArray := l.map plainB
theorem lb_plainL (l : List ByteArray) : lb (plainL l) = (lb l).map (List.map fl) := lb_plain l
/-- A board's text turned. -/
def turnT (q : UInt8 → Bool) (s : ByteArray) : ByteArray := bif isBo q s then mkB (jn (turnR (rws s))) else ⟨#[]⟩
def turnG (s : ByteArray) : ByteArray := bif isGr s then mkB (jn (turnR (rws s))) else ⟨#[]⟩
def floorT (s : ByteArray) : ByteArray := bif isBo lab s then mkB (jn (rws (plainB s))) else ⟨#[]⟩
theorem r_facts {r : List (List UInt8)} (hu : unif r = true) (h1 : 1 ≤ r.length ∧ r.length ≤ 7) (h2 : 1 ≤ wOf r ∧ wOf r ≤ 7) :
    inR (wOf r : Int) 0 7 = true ∧ inR (r.length : Int) 0 7 = true ∧ inR (r.length : Int) 1 7 = true ∧ u8C.decs (u8C.encs r.flatten) = some r.flatten ∧ decide (r.flatten.length = wOf r * r.length) = true ∧
      u8C.decs (u8C.encs (turnC (wOf r) r.length r.flatten)) = some (turnC (wOf r) r.length r.flatten) ∧ decide ((turnC (wOf r) r.length r.flatten).length = r.length * wOf r) = true ∧
      chunk (wOf r) r.length r.flatten = r := by
  have h49 : wOf r * r.length ≤ 49 := by
    have := Nat.mul_le_mul h2.2 h1.2
    omega
  have h49' : r.length * wOf r ≤ 49 := by rw [Nat.mul_comm]; exact h49
  refine ⟨?_, ?_, ?_, Cod.decs_encs ?_, decide_eq_true (flat_len hu), Cod.decs_encs ?_, decide_eq_true (turnC_len hu), chunk_flat r (wOf r) (unif_all hu)⟩
  · unfold inR
    rw [Bool.and_eq_true, decide_eq_true_eq, decide_eq_true_eq]; omega
  · unfold inR
    rw [Bool.and_eq_true, decide_eq_true_eq, decide_eq_true_eq]; omega
  · unfold inR
    rw [Bool.and_eq_true, decide_eq_true_eq, decide_eq_true_eq]; omega
  · rw [flat_len hu]; unfold LIM; omega
  · rw [turnC_len hu]; unfold LIM; omega
theorem gr_ok {q : ByteArray} {p : UInt8 → Bool} (hb : isBo p q = true) : lb (gridI p q) = rws q ∧ unif (rws q) = true ∧ (gridI p q).length ≤ 7 ∧ wOf (rws q) ≤ 7 ∧ strC.decs (strC.encs (gridI p q)) = some (gridI p q) ∧ (gridI p q).length = (rws q).length := by
  obtain ⟨k1, k2, k3, k4⟩ := isBo_fine hb
  have hr := bl_rows p q hb
  have hlen : (gridI p q).length = (rws q).length := by rw [← hr, lb_len]
  exact ⟨hr, k1, by omega, by omega, Cod.decs_encs (by unfold LIM; omega), hlen⟩
theorem turn_facts {q : ByteArray} {p : UInt8 → Bool} (hb : isBo p q = true) : strC.decs (strC.encs (turnB (gridI p q))) = some (turnB (gridI p q)) ∧ lb (turnB (gridI p q)) = turnR (rws q) ∧ decide ((jn (turnR (rws q))).length ≤ 17179869184) = true := by
  obtain ⟨k1, k2, k3, k4⟩ := isBo_fine hb
  have hr := bl_rows p q hb
  refine ⟨Cod.decs_encs ?_, by rw [lb_turnB, hr], decide_eq_true ?_⟩
  · unfold turnB
    rw [List.length_map, turnR_len, hr]; unfold LIM; omega
  · have := turnR_jn k2.2 k3.2
    omega
theorem plain_facts {q : ByteArray} (hb : isBo lab q = true) : strC.decs (strC.encs (plainL (gridI lab q))) = some (plainL (gridI lab q)) ∧ lb (plainL (gridI lab q)) = rws (plainB q) ∧ decide ((jn (rws (plainB q))).length ≤ 17179869184) = true := by
  obtain ⟨k1, k2, k3, k4⟩ := isBo_fine (q := brd) (s := plainB q) (by rw [isBo_plain]; exact hb)
  have hr := bl_rows lab q hb
  have e : lb (plainL (gridI lab q)) = rws (plainB q) := by rw [lb_plainL, hr, rws_plain]
  refine ⟨Cod.decs_encs ?_, e, decide_eq_true ?_⟩
  · rw [← lb_len, e]; unfold LIM; omega
  · have := jn_le (wOf (rws (plainB q))) _ (fun x hx => by rw [unif_all k1 x hx]; omega)
    have := Nat.mul_le_mul k2.2 (show wOf (rws (plainB q)) + 1 ≤ 8 by omega)
    omega
end Sp
end Go.Proofs.EV
set_option linter.unusedVariables false
set_option linter.unusedSimpArgs false
/-! States along a word, in plain Lean. -/
set_option linter.unusedSectionVars false
namespace Go.Proofs.EV
open Go Go.RowKit
variable [Dr]
namespace Sp
def nxX (x k : Int) : Int := bif decide (k = 0) then x else bif decide (k = 1) then x + 1 else bif decide (k = 2) then x else x - 1
def nxY (y k : Int) : Int := bif decide (k = 0) then y - 1 else bif decide (k = 1) then y else bif decide (k = 2) then y + 1 else y
/-- The number of a direction's letter, 3 of another. -/
def dix (c : Int) : Int := bif decide (c = 110) then 0 else bif decide (c = 101) then 1 else bif decide (c = 115) then 2 else 3
theorem dix_ix {c : Int} (h : dirB c = true) : dirIx c = dix c := by
  unfold dirB at h
  unfold dirIx dix
  revert h
  cases decide (c = 110) <;> cases decide (c = 101) <;> cases decide (c = 115) <;> cases decide (c = 119) <;> intro h <;> first | rfl | cases h
theorem roll_dix (d : Die) (c : Int) : roll d (dix c) = rollB d c := by
  unfold dix rollB
  cases decide (c = 110) <;> cases decide (c = 101) <;> cases decide (c = 115) <;> rfl
/-- A state: a place and a die. -/
structure Sta where
  x : Int
  y : Int
  d : Die
def stC : Cod Sta where
  enc s := [.int .i64 s.x, .int .i64 s.y, .int .i64 s.d.t, .int .i64 s.d.n, .int .i64 s.d.e, .int .i64 s.d.s, .int .i64 s.d.w, .int .i64 s.d.b]
  dec | [.int .i64 x, .int .i64 y, .int .i64 t, .int .i64 n, .int .i64 e, .int .i64 s, .int .i64 w, .int .i64 b] => some ⟨x, y, ⟨t, n, e, s, w, b⟩⟩
      | _ => none
  de _ := rfl
  ed e x h := by
    split at h
    · cases h; rfl
    · cases h
/-- Whether a place of cells is floor. -/
def flC (gw gh : Int) (cs : List UInt8) (x y : Int) : Bool := inR x 0 (gw - 1) && inR y 0 (gh - 1) && isDot cs (y.toNat * gw.toNat + x.toNat)
/-- A state rolled. -/
def mv (s : Sta) (c : Int) : Sta := ⟨nxX s.x (dix c), nxY s.y (dix c), rollB s.d c⟩
/-- The states behind the rolls of a word, as far as they can be made. -/
def alT (p : Int → Int → Bool) : Sta → List UInt8 → List Sta
  | _, [] => []
  | s, c :: w => bif p (mv s c.toNat).x (mv s c.toNat).y then mv s c.toNat :: alT p (mv s c.toNat) w else []
theorem alT_len (p : Int → Int → Bool) : ∀ (w : List UInt8) (s : Sta), (alT p s w).length ≤ w.length
  | [], _ => Nat.le_refl _
  | c :: w, s => by
    rw [alT]
    cases p (mv s c.toNat).x (mv s c.toNat).y
    · simp
    · have := alT_len p w (mv s c.toNat)
      simp only [cond_true, List.length_cons]; omega
theorem alT_fl (p : Int → Int → Bool) : ∀ (w : List UInt8) (s : Sta), ∀ u ∈ alT p s w, p u.x u.y = true
  | [], _, u, h => by cases h
  | c :: w, s, u, h => by
    rw [alT] at h
    cases hp : p (mv s c.toNat).x (mv s c.toNat).y with
    | false => rw [hp] at h; cases h
    | true =>
      rw [hp, cond_true] at h
      rcases List.mem_cons.1 h with rfl | h
      · exact hp
      · exact alT_fl p w _ u h
theorem stC_cell {l : List Sta} {k : Nat} (h : k < l.length) (j : Nat) : cellD (stC.encs l) k j = (stC.enc l[k]).getD j .nilp := Cod.encs_cell h j
theorem stC_snoc (l : List Sta) (s : Sta) : stC.encs l ++ [[D.int .i64 s.x, D.int .i64 s.y, D.int .i64 s.d.t, D.int .i64 s.d.n, D.int .i64 s.d.e, D.int .i64 s.d.s, D.int .i64 s.d.w, D.int .i64 s.d.b]] = stC.encs (l ++ [s]) := by
  simp [Cod.encs, stC]
theorem st_cells {l : List Sta} {k : Nat} (h : k < l.length) : D.int? .i64 (cellD (stC.encs l) k 0) = some l[k].x ∧ D.int? .i64 (cellD (stC.encs l) k 1) = some l[k].y ∧ D.int? .i64 (cellD (stC.encs l) k 2) = some l[k].d.t ∧ D.int? .i64 (cellD (stC.encs l) k 3) = some l[k].d.n ∧ D.int? .i64 (cellD (stC.encs l) k 4) = some l[k].d.e ∧ D.int? .i64 (cellD (stC.encs l) k 5) = some l[k].d.s ∧ D.int? .i64 (cellD (stC.encs l) k 6) = some l[k].d.w ∧ D.int? .i64 (cellD (stC.encs l) k 7) = some l[k].d.b := by
  refine ⟨?_, ?_, ?_, ?_, ?_, ?_, ?_, ?_⟩ <;> (rw [stC_cell h]; rfl)
theorem flC_in {gw gh : Int} {cs : List UInt8} {x y : Int} (h1 : gw ≤ 7) (h2 : gh ≤ 7) (h : flC gw gh cs x y = true) : inR x 0 6 = true ∧ inR y 0 6 = true := by
  unfold flC inR at h
  unfold inR
  simp only [Bool.and_eq_true, decide_eq_true_eq] at h ⊢
  omega
theorem isFl_in {r : List (List UInt8)} {x y : Int} (h1 : r.length ≤ 7) (h2 : wOf r ≤ 7) (h : isFl r x y = true) : inR x 0 6 = true ∧ inR y 0 6 = true := by
  unfold isFl atZ at h
  have h := of_decide_eq_true h
  cases hh : inR y 0 ((r.length : Int) - 1) && inR x 0 ((wOf r : Int) - 1) with
  | false => rw [hh] at h; cases h
  | true =>
    unfold inR at hh ⊢
    simp only [Bool.and_eq_true, decide_eq_true_eq] at hh ⊢
    omega
def alL (p : Int → Int → Bool) (s : Sta) (w : ByteArray) : List Sta := s :: alT p s (bl w)
theorem alL_len (p : Int → Int → Bool) (s : Sta) (w : ByteArray) : (alL p s w).length ≤ w.size + 1 := by
  have := alT_len p (bl w) s
  rw [bl_len] at this
  unfold alL
  rw [List.length_cons]; omega
def okSt (q : ByteArray) (s : Sta) : Bool := isBo brd q && (s.d.good && isFl (rws q) s.x s.y)
/-- A word can be rolled along. -/
def wayOk (q : ByteArray) (s : Sta) (w : ByteArray) : Bool := okSt q s && (isWord w && decide ((alL (isFl (rws q)) s w).length = w.size + 1))
def wayL (q : ByteArray) (s : Sta) (w : ByteArray) : List Sta := bif wayOk q s w then alL (isFl (rws q)) s w else []
def wayI (q : ByteArray) (s : Sta) (w : ByteArray) : List Sta := bif okSt q s && isWord w then alL (isFl (rws q)) s w else []
theorem isWord_out {w : ByteArray} (h : isWord w = true) : w.size ≤ 60 ∧ ∀ c ∈ bl w, dirB (c.toNat : Int) = true := by
  unfold isWord allDir at h
  rw [Bool.and_eq_true, decide_eq_true_eq, List.all_eq_true] at h
  exact h
/-- Whether a state is as it is asked for. -/
def doneS (px py pt : Int) (s : Sta) : Bool := decide (s.x = px) && (decide (s.y = py) && decide (s.d.t = pt))
/-- Whether there is such a puzzle. -/
def pzOk (q : ByteArray) (s : Sta) (px py pt : Int) : Bool := okSt q s && (isFl (rws q) px py && inR pt 0 9)
def solved (q : ByteArray) (s : Sta) (px py pt : Int) (w : ByteArray) : Bool := wayOk q s w && doneS px py pt ((alL (isFl (rws q)) s w).getD w.size s)
theorem way_out {q : ByteArray} {s : Sta} {w : ByteArray} (h : wayOk q s w = true) : okSt q s = true ∧ isWord w = true ∧ (alL (isFl (rws q)) s w).length = w.size + 1 ∧ wayL q s w = alL (isFl (rws q)) s w ∧ wayI q s w = alL (isFl (rws q)) s w := by
  have h0 := h
  unfold wayOk at h
  simp only [Bool.and_eq_true, decide_eq_true_eq] at h
  refine ⟨h.1, h.2.1, h.2.2, ?_, ?_⟩
  · unfold wayL; rw [h0]; rfl
  · unfold wayI; rw [h.1, h.2.1]; rfl
theorem okSt_out {q : ByteArray} {s : Sta} (h : okSt q s = true) : isBo brd q = true ∧ s.d.good = true ∧ isFl (rws q) s.x s.y = true ∧ inR s.x 0 6 = true ∧ inR s.y 0 6 = true := by
  unfold okSt at h
  simp only [Bool.and_eq_true] at h
  obtain ⟨h1, h2, h3⟩ := h
  obtain ⟨k1, k2, k3, k4⟩ := isBo_fine h1
  obtain ⟨a, b⟩ := isFl_in k2.2 k3.2 h3
  exact ⟨h1, h2, h3, a, b⟩
def isIn (r : List (List UInt8)) (x y : Int) : Bool := inR y 0 ((r.length : Int) - 1) && inR x 0 ((wOf r : Int) - 1)
/-- A number's sign. -/
def sgn (n : Int) : UInt8 := UInt8.ofNat (48 + n.toNat)
def putB (s : ByteArray) (x : Nat) (n : Int) : ByteArray := mkB ((bl s).set x (sgn n))
def putL (l : List ByteArray) (x y : Nat) (n : Int) : List ByteArray := l.set y (putB (l.getD y ⟨#[]⟩) x n)
end Sp
end Go.Proofs.EV
set_option linter.unusedVariables false
set_option linter.unusedSimpArgs false
/-! Signs put on boards, in plain Lean. -/
set_option linter.unusedSectionVars false
namespace Go.Proofs.EV
open Go Go.RowKit
variable [Dr]
namespace Sp
def setR (r : List (List UInt8)) (x y : Nat) (c : UInt8) : List (List UInt8) := r.set y ((r.getD y []).set x c)
theorem set_flat (c : UInt8) : ∀ (r : List (List UInt8)) (w : Nat), (∀ a ∈ r, a.length = w) → ∀ (y x : Nat), y < r.length → x < w → (setR r x y c).flatten = r.flatten.set (y * w + x) c
  | [], _, _, y, _, h, _ => by simp at h
  | a :: r, w, hw, 0, x, _, hx => by
    have := hw a List.mem_cons_self
    show (a.set x c ++ r.flatten) = (a ++ r.flatten).set (0 * w + x) c
    rw [Nat.zero_mul, Nat.zero_add, List.set_append_left _ _ (by omega)]
  | a :: r, w, hw, y + 1, x, hy, hx => by
    have := hw a List.mem_cons_self
    have ih := set_flat c r w (fun b hb => hw b (List.mem_cons_of_mem _ hb)) y x (by simpa using hy) hx
    show (a ++ (setR r x y c).flatten) = (a ++ r.flatten).set ((y + 1) * w + x) c
    rw [List.set_append_right _ _ (by rw [Nat.add_mul]; omega), ih]
    congr 2
    rw [Nat.add_mul]; omega
/-- So many rows, so wide. -/
structure Rw (w h : Nat) (r : List (List UInt8)) : Prop where
  len : r.length = h
  row : ∀ a ∈ r, a.length = w
theorem Rw.set {w h : Nat} {r : List (List UInt8)} (hr : Rw w h r) (x y : Nat) (c : UInt8) : Rw w h (setR r x y c) := by
  refine ⟨by unfold setR; rw [List.length_set, hr.len], fun a ha => ?_⟩
  by_cases hy : y < r.length
  · rcases List.mem_or_eq_of_mem_set ha with h1 | h1
    · exact hr.row a h1
    · rw [h1, List.length_set, List.getD_eq_getElem?_getD, List.getElem?_eq_getElem hy]
      exact hr.row _ (List.getElem_mem hy)
  · unfold setR at ha
    rw [List.set_eq_of_length_le (by omega)] at ha
    exact hr.row a ha
theorem Rw.out {w h : Nat} {r : List (List UInt8)} (hr : Rw w h r) (h0 : 0 < h) : unif r = true ∧ wOf r = w := by
  have hw : wOf r = w := by
    cases r with
    | nil => have := hr.len; simp at this; omega
    | cons a r => exact hr.row a List.mem_cons_self
  refine ⟨?_, hw⟩
  unfold unif
  rw [List.all_eq_true]
  intro a ha
  rw [hw, decide_eq_true_eq]
  exact hr.row a ha
/-- A state within a board, of a die that is one. -/
structure Gds (w h : Nat) (u : Sta) : Prop where
  x0 : 0 ≤ u.x
  x1 : u.x < w
  y0 : 0 ≤ u.y
  y1 : u.y < h
  g : u.d.good = true
theorem good_all (d : Die) : d.good = true ↔ (0 ≤ d.t ∧ d.t ≤ 9) ∧ (0 ≤ d.n ∧ d.n ≤ 9) ∧ (0 ≤ d.e ∧ d.e ≤ 9) ∧ (0 ≤ d.s ∧ d.s ≤ 9) ∧ (0 ≤ d.w ∧ d.w ≤ 9) ∧ (0 ≤ d.b ∧ d.b ≤ 9) := by
  unfold Die.good allR Die.faces inR
  simp only [List.all_cons, List.all_nil, Bool.and_eq_true, decide_eq_true_eq, and_true]
theorem good_rollB {d : Die} (h : d.good = true) (c : Int) : (rollB d c).good = true := by
  rw [good_all] at h
  unfold rollB
  cases decide (c = 110) <;> cases decide (c = 101) <;> cases decide (c = 115) <;> (show Die.good _ = true; rw [good_all]; show (0 ≤ _ ∧ _ ≤ _) ∧ _; unfold roll; simp; omega)
theorem isFl_out {r : List (List UInt8)} {x y : Int} (h : isFl r x y = true) : 0 ≤ x ∧ x < wOf r ∧ 0 ≤ y ∧ y < r.length := by
  unfold isFl atZ at h
  have h := of_decide_eq_true h
  cases hh : inR y 0 ((r.length : Int) - 1) && inR x 0 ((wOf r : Int) - 1) with
  | false => rw [hh] at h; cases h
  | true =>
    unfold inR at hh
    simp only [Bool.and_eq_true, decide_eq_true_eq] at hh
    omega
theorem alT_good {p : Int → Int → Bool} : ∀ (w : List UInt8) (s : Sta), s.d.good = true → ∀ u ∈ alT p s w, u.d.good = true
  | [], _, _, u, h => by cases h
  | c :: w, s, hs, u, h => by
    rw [alT] at h
    have hm : (mv s c.toNat).d.good = true := good_rollB hs _
    cases hp : p (mv s c.toNat).x (mv s c.toNat).y with
    | false => rw [hp] at h; cases h
    | true =>
      rw [hp, cond_true] at h
      rcases List.mem_cons.1 h with rfl | h
      · exact hm
      · exact alT_good w _ hm u h
theorem alL_gd {q : ByteArray} {s : Sta} {wd : ByteArray} (ho : okSt q s = true) : ∀ u ∈ alL (isFl (rws q)) s wd, Gds (wOf (rws q)) (rws q).length u := by
  obtain ⟨h1, h2, h3, _, _⟩ := okSt_out ho
  intro u hu
  unfold alL at hu
  rcases List.mem_cons.1 hu with rfl | hu
  · obtain ⟨a, b, c, d⟩ := isFl_out h3
    exact ⟨a, b, c, d, h2⟩
  · obtain ⟨a, b, c, d⟩ := isFl_out (alT_fl _ _ _ u hu)
    exact ⟨a, b, c, d, alT_good _ _ h2 u hu⟩
theorem sgn_val {n : Int} (h0 : 0 ≤ n) (h9 : n ≤ 9) : IntKind.u8.wrap (IntKind.i64.wrap (48 + n)) = ((sgn n).toNat : Int) := by
  obtain ⟨k, rfl⟩ : ∃ k : Nat, n = (k : Int) := ⟨n.toNat, by omega⟩
  rcases (show k = 0 ∨ k = 1 ∨ k = 2 ∨ k = 3 ∨ k = 4 ∨ k = 5 ∨ k = 6 ∨ k = 7 ∨ k = 8 ∨ k = 9 by omega) with rfl | rfl | rfl | rfl | rfl | rfl | rfl | rfl | rfl | rfl <;> rfl
theorem sgn_nat {n : Int} (h0 : 0 ≤ n) (h9 : n ≤ 9) : ((sgn n).toNat : Int) = 48 + n := by
  obtain ⟨k, rfl⟩ : ∃ k : Nat, n = (k : Int) := ⟨n.toNat, by omega⟩
  rcases (show k = 0 ∨ k = 1 ∨ k = 2 ∨ k = 3 ∨ k = 4 ∨ k = 5 ∨ k = 6 ∨ k = 7 ∨ k = 8 ∨ k = 9 by omega) with rfl | rfl | rfl | rfl | rfl | rfl | rfl | rfl | rfl | rfl <;> rfl
def botS (u : Sta) : Int := u.d.b
def topS (u : Sta) : Int := u.d.t
def paintR (f : Sta → Int) : List Sta → List (List UInt8) → List (List UInt8)
  | [], r => r
  | u :: L, r => paintR f L (setR r u.x.toNat u.y.toNat (sgn (f u)))
def paintC (w : Nat) (f : Sta → Int) : List Sta → List UInt8 → List UInt8
  | [], cs => cs
  | u :: L, cs => paintC w f L (cs.set (u.y.toNat * w + u.x.toNat) (sgn (f u)))
theorem paint_flat {w h : Nat} (f : Sta → Int) : ∀ (L : List Sta) (r : List (List UInt8)), Rw w h r → (∀ u ∈ L, Gds w h u) → paintC w f L r.flatten = (paintR f L r).flatten ∧ Rw w h (paintR f L r)
  | [], r, hr, _ => ⟨rfl, hr⟩
  | u :: L, r, hr, hg => by
    have g := hg u List.mem_cons_self
    have ih := paint_flat f L (setR r u.x.toNat u.y.toNat (sgn (f u))) (hr.set _ _ _) (fun v hv => hg v (List.mem_cons_of_mem _ hv))
    have e := set_flat (sgn (f u)) r w hr.row u.y.toNat u.x.toNat (by have := g.y0; have := g.y1; have := hr.len; omega) (by have := g.x0; have := g.x1; omega)
    rw [e] at ih
    exact ih
/-- Signs put where no other number stands. -/
def paintL (f : Sta → Int) : List Sta → List (List UInt8) → Option (List (List UInt8))
  | [], r => some r
  | u :: L, r => bif dig ((r.getD u.y.toNat []).getD u.x.toNat 0) && !((r.getD u.y.toNat []).getD u.x.toNat 0 == sgn (f u)) then none else paintL f L (setR r u.x.toNat u.y.toNat (sgn (f u)))
def paintLC (w : Nat) (f : Sta → Int) : List Sta → List UInt8 → Option (List UInt8)
  | [], cs => some cs
  | u :: L, cs => bif dig (cs.getD (u.y.toNat * w + u.x.toNat) 0) && !(cs.getD (u.y.toNat * w + u.x.toNat) 0 == sgn (f u)) then none else paintLC w f L (cs.set (u.y.toNat * w + u.x.toNat) (sgn (f u)))
theorem paintL_flat {w h : Nat} (f : Sta → Int) : ∀ (L : List Sta) (r : List (List UInt8)), Rw w h r → (∀ u ∈ L, Gds w h u) → paintLC w f L r.flatten = (paintL f L r).map List.flatten ∧ ∀ r', paintL f L r = some r' → Rw w h r'
  | [], r, hr, _ => ⟨rfl, fun r' h => by cases h; exact hr⟩
  | u :: L, r, hr, hg => by
    have g := hg u List.mem_cons_self
    have hy : u.y.toNat < r.length := by have := g.y0; have := g.y1; have := hr.len; omega
    have hx : u.x.toNat < w := by have := g.x0; have := g.x1; omega
    have ih := paintL_flat f L (setR r u.x.toNat u.y.toNat (sgn (f u))) (hr.set _ _ _) (fun v hv => hg v (List.mem_cons_of_mem _ hv))
    have e := set_flat (sgn (f u)) r w hr.row u.y.toNat u.x.toNat hy hx
    rw [e] at ih
    rw [paintLC, paintL, flat_get r w hr.row _ _ hy hx]
    cases dig ((r.getD u.y.toNat []).getD u.x.toNat 0) && !((r.getD u.y.toNat []).getD u.x.toNat 0 == sgn (f u)) with
    | true => exact ⟨rfl, fun r' h => by cases h⟩
    | false => exact ih
theorem lb_put (l : List ByteArray) (x y : Nat) (n : Int) : lb (putL l x y n) = setR (lb l) x y (sgn n) := by
  unfold lb putL setR
  rw [List.map_set]
  congr 1
  unfold putB
  rw [bl_mkB]
  congr 1
  rw [List.getD_eq_getElem?_getD, List.getD_eq_getElem?_getD, List.getElem?_map]
  cases l[y]? <;> rfl
theorem rw_small {w h : Nat} {l : List ByteArray} (hr : Rw w h (lb l)) (hw : w ≤ 7) (hh : h ≤ 7) : smallR l = true ∧ l.length = h := by
  have hl : l.length = h := by rw [← hr.len, lb_len]
  refine ⟨?_, hl⟩
  unfold smallR
  rw [Bool.and_eq_true, decide_eq_true_eq, List.all_eq_true]
  refine ⟨by omega, fun x hx => ?_⟩
  have := hr.row (bl x) (List.mem_map_of_mem hx)
  rw [bl_len] at this
  rw [decide_eq_true_eq]; omega
theorem rw_jn {w h : Nat} {r : List (List UInt8)} (hr : Rw w h r) (hw : w ≤ 7) (hh : h ≤ 7) : (jn r).length ≤ 17179869184 := by
  have := jn_le w r (fun x hx => by rw [hr.row x hx]; omega)
  have := Nat.mul_le_mul (show r.length ≤ 7 by rw [hr.len]; exact hh) (show w + 1 ≤ 8 by omega)
  omega
def jnO : Option (List (List UInt8)) → ByteArray
  | some r => mkB (jn r)
  | none => ⟨#[]⟩
def isO : Option (List (List UInt8)) → Bool
  | some _ => true
  | none => false
def printT (q : ByteArray) (s : Sta) (wd : ByteArray) : ByteArray := bif wayOk q s wd then mkB (jn (paintR botS (alL (isFl (rws q)) s wd) (rws q))) else ⟨#[]⟩
def labelO (q : ByteArray) (s : Sta) (wd : ByteArray) : Option (List (List UInt8)) := bif wayOk q s wd then paintL topS (alL (isFl (rws q)) s wd) (rws q) else none
theorem rws_rw {q : ByteArray} {p : UInt8 → Bool} (hb : isBo p q = true) : Rw (wOf (rws q)) (rws q).length (rws q) := ⟨rfl, unif_all (isBo_fine hb).1⟩
def mkGo : Nat → Nat → ByteArray → ByteArray
  | 0, _, s => s
  | m + 1, k, s => bif decide (0 < k) then mkGo m (k / 10) (mkB [UInt8.ofNat (48 + k % 10)] ++ s) else s
/-- A mark's text. -/
def mkT (k : Nat) : ByteArray := ⟨#[109]⟩ ++ mkGo 4 k ⟨#[]⟩
/-- A die's text. -/
def dieT (d : Die) : ByteArray := mkB [sgn d.t, sgn d.n, sgn d.e, sgn d.s, sgn d.w, sgn d.b]
def replayL (q : ByteArray) (s : Sta) (px py pt : Int) (wd : ByteArray) : List ByteArray := bif pzOk q s px py pt && wayOk q s wd then (alL (isFl (rws q)) s wd).map fun u => dieT u.d else []
def marksT (n : Nat) : List ByteArray := (List.range n).map fun i => mkT (1 + i)
def isMarksT (l : List ByteArray) : Bool := decide (l = marksT l.length)
def mkE (n : Nat) : Int := ((1 + n : Nat) : Int)
theorem marksT_len (n : Nat) : (marksT n).length = n := by simp [marksT]
theorem marksT_succ (n : Nat) : marksT (n + 1) = marksT n ++ [mkT (1 + n)] := by
  unfold marksT
  rw [List.range_succ, List.map_append]; rfl
theorem marksT_get {n i : Nat} (h : i < (marksT n).length) : (marksT n)[i] = mkT (1 + i) := by
  have h' : i < ((List.range n).map fun i => mkT (1 + i)).length := h
  show ((List.range n).map fun i => mkT (1 + i))[i] = _
  rw [List.getElem_map, List.getElem_range]
theorem isMarksT_marks (n : Nat) : isMarksT (marksT n) = true := by unfold isMarksT; rw [marksT_len, decide_eq_true_eq]
/-- What is asked for of a puzzle's cells. -/
def pz3 : List V → Option (Int × Int × Int)
  | [.one true (.str _), .one true (.int .i64 _), .one true (.int .i64 _), .one true (.int .i64 _), .one true (.int .i64 _), .one true (.int .i64 _), .one true (.int .i64 _), .one true (.int .i64 _), .one true (.int .i64 _), .one true (.int .i64 px), .one true (.int .i64 py), .one true (.int .i64 pt)] => some (px, py, pt)
  | _ => none
/-- The first state that is as it is asked for. -/
def firstAt (px py pt : Int) : List Sta → Nat → Option Nat
  | [], _ => none
  | u :: L, i => bif doneS px py pt u then some i else firstAt px py pt L (i + 1)
theorem firstAt_lt (px py pt : Int) : ∀ (L : List Sta) (i k : Nat), firstAt px py pt L i = some k → i ≤ k ∧ k < i + L.length
  | [], i, k, h => by cases h
  | u :: L, i, k, h => by
    rw [firstAt] at h
    cases hd : doneS px py pt u with
    | true =>
      rw [hd, cond_true] at h
      cases h
      simp
    | false =>
      rw [hd, cond_false] at h
      have := firstAt_lt px py pt L (i + 1) k h
      rw [List.length_cons]; omega
def ixO : Option Nat → Int
  | some k => (k : Int)
  | none => -1
def preT (w : ByteArray) : Option Nat → ByteArray
  | some k => w.extract 0 k
  | none => ⟨#[]⟩
def isN : Option Nat → Bool
  | some _ => true
  | none => false
def firstO (q : ByteArray) (s : Sta) (px py pt : Int) (wd : ByteArray) : Option Nat := bif pzOk q s px py pt && wayOk q s wd then firstAt px py pt (alL (isFl (rws q)) s wd) 0 else none
end Sp
end Go.Proofs.EV
set_option linter.unusedVariables false
set_option linter.unusedSimpArgs false
/-! What rolls make of a state: a search by breadth, in plain Lean. -/
set_option linter.unusedSectionVars false
namespace Go.Proofs.EV
open Go Go.RowKit
variable [Dr]
namespace Sp
theorem nodup_lt : ∀ (B : Nat) (l : List Nat), l.Nodup → (∀ x ∈ l, x < B) → l.length ≤ B
  | 0, l, _, h => by
    cases l with
    | nil => simp
    | cons a l => exact absurd (h a List.mem_cons_self) (by omega)
  | B + 1, l, hn, h => by
    have h1 := nodup_lt B (l.erase B) (hn.erase B) (fun x hx => by
      rw [hn.mem_erase_iff] at hx
      have := h x hx.2
      omega)
    by_cases hm : B ∈ l
    · rw [List.length_erase_of_mem hm] at h1
      have : 0 < l.length := List.length_pos_of_mem hm
      omega
    · rw [List.erase_of_not_mem hm] at h1
      omega
/-- A state's number. -/
def codeN (w : Nat) (u : Sta) : Nat := 10 * (10 * (10 * (10 * (10 * (10 * (u.y.toNat * w + u.x.toNat) + u.d.t.toNat) + u.d.n.toNat) + u.d.e.toNat) + u.d.s.toNat) + u.d.w.toNat) + u.d.b.toNat
theorem dig_inj {a b : Nat} {f g : Int} (h1 : 0 ≤ f ∧ f ≤ 9) (h2 : 0 ≤ g ∧ g ≤ 9) (h : 10 * a + f.toNat = 10 * b + g.toNat) : a = b ∧ f = g := by omega
theorem cell_inj {w x y x' y' : Nat} (h1 : x < w) (h2 : x' < w) (h : y * w + x = y' * w + x') : y = y' ∧ x = x' := by
  have e1 : (y * w + x) / w = y := by
    rw [Nat.mul_comm, Nat.mul_add_div (by omega), Nat.div_eq_of_lt h1, Nat.add_zero]
  have e2 : (y' * w + x') / w = y' := by
    rw [Nat.mul_comm, Nat.mul_add_div (by omega), Nat.div_eq_of_lt h2, Nat.add_zero]
  have hy : y = y' := by rw [← e1, ← e2, h]
  subst hy
  exact ⟨rfl, by omega⟩
theorem code_lt {w h : Nat} {u : Sta} (g : Gds w h u) : codeN w u < 1000000 * (w * h) := by
  have gg := (good_all u.d).1 g.g
  have e1 : (u.y.toNat + 1) * w ≤ h * w := Nat.mul_le_mul_right _ (by have := g.y0; have := g.y1; omega)
  have e2 : (u.y.toNat + 1) * w = u.y.toNat * w + w := by rw [Nat.add_mul, Nat.one_mul]
  have e3 : w * h = h * w := Nat.mul_comm w h
  have := g.x0
  have := g.x1
  unfold codeN
  omega
theorem code_inj {w h : Nat} {u v : Sta} (g : Gds w h u) (k : Gds w h v) (he : codeN w u = codeN w v) : u = v := by
  have gu := (good_all u.d).1 g.g
  have gv := (good_all v.d).1 k.g
  obtain ⟨ux0, ux1, uy0, uy1, _⟩ := g
  obtain ⟨vx0, vx1, vy0, vy1, _⟩ := k
  obtain ⟨ux, uy, ⟨ut, un, ue, us, uw, ub⟩⟩ := u
  obtain ⟨vx, vy, ⟨vt, vn, ve, vs, vw, vb⟩⟩ := v
  unfold codeN at he
  simp only at gu gv ux0 ux1 uy0 uy1 vx0 vx1 vy0 vy1 he
  obtain ⟨he1, rfl⟩ := dig_inj gu.2.2.2.2.2 gv.2.2.2.2.2 he
  obtain ⟨he2, rfl⟩ := dig_inj gu.2.2.2.2.1 gv.2.2.2.2.1 he1
  obtain ⟨he3, rfl⟩ := dig_inj gu.2.2.2.1 gv.2.2.2.1 he2
  obtain ⟨he4, rfl⟩ := dig_inj gu.2.2.1 gv.2.2.1 he3
  obtain ⟨he5, rfl⟩ := dig_inj gu.2.1 gv.2.1 he4
  obtain ⟨hA, rfl⟩ := dig_inj gu.1 gv.1 he5
  obtain ⟨h1, h2⟩ := cell_inj (by omega) (by omega) hA
  have hx : ux = vx := by omega
  have hy : uy = vy := by omega
  subst hx hy
  rfl
/-- A state rolled in a direction. -/
def rollK (s : Sta) (k : Int) : Sta := ⟨nxX s.x k, nxY s.y k, roll s.d k⟩
theorem good_roll {d : Die} (h : d.good = true) (k : Int) : (roll d k).good = true := by
  rw [good_all] at h
  unfold roll
  cases decide (k = 0) <;> cases decide (k = 1) <;> cases decide (k = 2) <;> (show Die.good _ = true; rw [good_all]; simp; omega)
/-- A state that is reached: how far, by how many shortest words, from which one, by what roll, and what rolls make of it. -/
structure Nd where
  u : Sta
  far : Int
  words : Int
  bef : Int
  dir : Int
  n0 : Int
  n1 : Int
  n2 : Int
  n3 : Int
def Nd.nx (a : Nd) (dir : Int) (v : Int) : Nd :=
  bif decide (dir = 0) then { a with n0 := v } else bif decide (dir = 1) then { a with n1 := v } else bif decide (dir = 2) then { a with n2 := v } else { a with n3 := v }
theorem Nd.nx_u (a : Nd) (dir v : Int) : (a.nx dir v).u = a.u := by
  unfold Nd.nx
  cases decide (dir = 0) <;> cases decide (dir = 1) <;> cases decide (dir = 2) <;> rfl
theorem Nd.nx_far (a : Nd) (dir v : Int) : (a.nx dir v).far = a.far := by
  unfold Nd.nx
  cases decide (dir = 0) <;> cases decide (dir = 1) <;> cases decide (dir = 2) <;> rfl
def eqSt (a b : Sta) : Bool := decide (a.x = b.x) && (decide (a.y = b.y) && (decide (a.d.t = b.d.t) && (decide (a.d.n = b.d.n) && (decide (a.d.e = b.d.e) && (decide (a.d.s = b.d.s) && (decide (a.d.w = b.d.w) && decide (a.d.b = b.d.b)))))))
theorem eqSt_iff {a b : Sta} : eqSt a b = true ↔ a = b := by
  obtain ⟨ux, uy, ⟨ut, un, ue, us, uw, ub⟩⟩ := a
  obtain ⟨vx, vy, ⟨vt, vn, ve, vs, vw, vb⟩⟩ := b
  unfold eqSt
  simp only [Bool.and_eq_true, decide_eq_true_eq, Sta.mk.injEq, Die.mk.injEq]
/-- The place of a state among others. -/
def posOf (t : Sta) : List Sta → Option Nat
  | [] => none
  | u :: l => bif eqSt u t then some 0 else (posOf t l).map (· + 1)
theorem posOf_none {t : Sta} : ∀ {l : List Sta}, posOf t l = none → t ∉ l
  | [], _ => by simp
  | u :: l, h => by
    rw [posOf] at h
    cases he : eqSt u t with
    | true => rw [he] at h; cases h
    | false =>
      rw [he, cond_false, Option.map_eq_none_iff] at h
      intro hm
      rcases List.mem_cons.1 hm with rfl | hm
      · rw [eqSt_iff.2 rfl] at he; cases he
      · exact posOf_none h hm
theorem posOf_some {t : Sta} : ∀ {l : List Sta} {k : Nat}, posOf t l = some k → ∃ h : k < l.length, l[k] = t
  | [], _, h => by cases h
  | u :: l, k, h => by
    rw [posOf] at h
    cases he : eqSt u t with
    | true =>
      rw [he, cond_true] at h
      cases h
      exact ⟨by simp, eqSt_iff.1 he⟩
    | false =>
      rw [he, cond_false] at h
      obtain ⟨j, hj, rfl⟩ := Option.map_eq_some_iff.1 h
      obtain ⟨h1, h2⟩ := posOf_some hj
      exact ⟨by simpa using h1, by simpa using h2⟩
/-- One roll of the state at place k. -/
def visit (p : Int → Int → Bool) (k : Nat) (dir : Int) (N : List Nd) : List Nd :=
  match N[k]? with
  | none => N
  | some a =>
    let t := rollK a.u dir
    let N0 := N.set k (a.nx dir (-1))
    bif p t.x t.y then
      let at' := (posOf t (N0.map Nd.u)).getD N0.length
      let N1 := bif (posOf t (N0.map Nd.u)).isSome then N0 else N0 ++ [⟨t, a.far + 1, 0, (k : Int), dir, 0, 0, 0, 0⟩]
      match N1[at']? with
      | none => N1
      | some b =>
        let N2 := bif decide (b.far = a.far + 1) then N1.set at' { b with words := IntKind.i64.wrap (b.words + a.words) } else N1
        match N2[k]? with
        | none => N2
        | some a' => N2.set k (a'.nx dir (at' : Int))
    else N0
def visit4 (p : Int → Int → Bool) (k : Nat) (N : List Nd) : List Nd := visit p k 3 (visit p k 2 (visit p k 1 (visit p k 0 N)))
def bf (p : Int → Int → Bool) : Nat → Nat → List Nd → List Nd
  | 0, _, N => N
  | f + 1, k, N => bif decide (k < N.length) then bf p f (k + 1) (visit4 p k N) else N
/-- A state that is reached: how far, from which one, by what roll. -/
structure Cr where
  u : Sta
  far : Int
  bef : Int
  dir : Int
def Nd.core (a : Nd) : Cr := ⟨a.u, a.far, a.bef, a.dir⟩
theorem core_nx (a : Nd) (dir v : Int) : (a.nx dir v).core = a.core := by
  unfold Nd.nx
  cases decide (dir = 0) <;> cases decide (dir = 1) <;> cases decide (dir = 2) <;> rfl
def visitC (p : Int → Int → Bool) (k : Nat) (dir : Int) (C : List Cr) : List Cr :=
  match C[k]? with
  | none => C
  | some a => bif p (rollK a.u dir).x (rollK a.u dir).y && !(posOf (rollK a.u dir) (C.map Cr.u)).isSome then C ++ [⟨rollK a.u dir, a.far + 1, (k : Int), dir⟩] else C
def visitC4 (p : Int → Int → Bool) (k : Nat) (C : List Cr) : List Cr := visitC p k 3 (visitC p k 2 (visitC p k 1 (visitC p k 0 C)))
def bfC (p : Int → Int → Bool) : Nat → Nat → List Cr → List Cr
  | 0, _, C => C
  | f + 1, k, C => bif decide (k < C.length) then bfC p f (k + 1) (visitC4 p k C) else C
theorem set_core {N : List Nd} {k : Nat} {a b : Nd} (h : N[k]? = some a) (hc : b.core = a.core) : (N.set k b).map Nd.core = N.map Nd.core := by
  obtain ⟨hk, rfl⟩ := List.getElem?_eq_some_iff.1 h
  rw [List.map_set, hc]
  apply List.ext_getElem (by simp)
  intro i h1 h2
  rw [List.getElem_set]
  split
  · subst_vars
    rw [List.getElem_map]
  · rfl
theorem map_core_u (N : List Nd) : (N.map Nd.core).map Cr.u = N.map Nd.u := by
  rw [List.map_map]; rfl
theorem visit_core (p : Int → Int → Bool) (k : Nat) (dir : Int) (N : List Nd) : (visit p k dir N).map Nd.core = visitC p k dir (N.map Nd.core) := by
  unfold visit visitC
  rw [List.getElem?_map, map_core_u]
  cases hk : N[k]? with
  | none => rfl
  | some a =>
    have h0 : (N.set k (a.nx dir (-1))).map Nd.core = N.map Nd.core := set_core hk (core_nx a dir (-1))
    have hu : (N.set k (a.nx dir (-1))).map Nd.u = N.map Nd.u := by rw [← map_core_u, h0, map_core_u]
    simp only [Option.map_some, hu]
    show List.map Nd.core (bif p (rollK a.u dir).x (rollK a.u dir).y then _ else _) = bif p (rollK a.u dir).x (rollK a.u dir).y && !(posOf (rollK a.u dir) (N.map Nd.u)).isSome then _ else _
    cases hp : p (rollK a.u dir).x (rollK a.u dir).y with
    | false => simpa using h0
    | true =>
      simp only [cond_true, Bool.true_and]
      generalize hN1 : (bif (posOf (rollK a.u dir) (N.map Nd.u)).isSome then N.set k (a.nx dir (-1)) else N.set k (a.nx dir (-1)) ++ [⟨rollK a.u dir, a.far + 1, 0, (k : Int), dir, 0, 0, 0, 0⟩]) = N1
      have h1 : N1.map Nd.core = bif !(posOf (rollK a.u dir) (N.map Nd.u)).isSome then N.map Nd.core ++ [⟨rollK a.u dir, a.far + 1, (k : Int), dir⟩] else N.map Nd.core := by
        rw [← hN1]
        cases (posOf (rollK a.u dir) (N.map Nd.u)).isSome
        · simp only [cond_false, Bool.not_false, cond_true, List.map_append, h0]; rfl
        · simpa using h0
      refine Eq.trans ?_ h1
      split
      · rfl
      · rename_i b hb
        generalize hN2 : (bif decide (b.far = a.far + 1) then N1.set ((posOf (rollK a.u dir) (N.map Nd.u)).getD (N.set k (a.nx dir (-1))).length) { b with words := IntKind.i64.wrap (b.words + a.words) } else N1) = N2
        have h2 : N2.map Nd.core = N1.map Nd.core := by
          rw [← hN2]
          cases decide (b.far = a.far + 1)
          · rfl
          · exact set_core hb rfl
        split
        · exact h2
        · rename_i a' ha'
          rw [set_core ha' (core_nx a' dir _), h2]
theorem visit4_core (p : Int → Int → Bool) (k : Nat) (N : List Nd) : (visit4 p k N).map Nd.core = visitC4 p k (N.map Nd.core) := by
  unfold visit4 visitC4
  rw [visit_core, visit_core, visit_core, visit_core]
theorem bf_core (p : Int → Int → Bool) : ∀ (f k : Nat) (N : List Nd), (bf p f k N).map Nd.core = bfC p f k (N.map Nd.core)
  | 0, _, _ => rfl
  | f + 1, k, N => by
    rw [bf, bfC, List.length_map]
    cases decide (k < N.length)
    · rfl
    · simp only [cond_true]
      rw [bf_core p f (k + 1), visit4_core]
/-- All states differ and lie on the board. -/
structure CInv (w h : Nat) (C : List Cr) : Prop where
  nodup : (C.map Cr.u).Nodup
  gd : ∀ a ∈ C, Gds w h a.u
theorem CInv.len {w h : Nat} {C : List Cr} (hc : CInv w h C) : C.length ≤ 1000000 * (w * h) := by
  have h1 : ((C.map Cr.u).map (codeN w)).Nodup := by
    have : ∀ l : List Sta, l.Nodup → (∀ u ∈ l, Gds w h u) → (l.map (codeN w)).Nodup := by
      intro l
      induction l with
      | nil => intro _ _; exact List.nodup_nil
      | cons u l ih =>
        intro hn hg
        rw [List.nodup_cons] at hn
        rw [List.map_cons, List.nodup_cons]
        refine ⟨fun hm => ?_, ih hn.2 (fun v hv => hg v (List.mem_cons_of_mem _ hv))⟩
        obtain ⟨v, hv, he⟩ := List.mem_map.1 hm
        have := code_inj (hg v (List.mem_cons_of_mem _ hv)) (hg u List.mem_cons_self) he
        exact hn.1 (this ▸ hv)
    exact this _ hc.nodup (fun u hu => by
      obtain ⟨a, ha, rfl⟩ := List.mem_map.1 hu
      exact hc.gd a ha)
  have h2 := nodup_lt (1000000 * (w * h)) _ h1 (fun x hx => by
    obtain ⟨u, hu, rfl⟩ := List.mem_map.1 hx
    obtain ⟨a, ha, rfl⟩ := List.mem_map.1 hu
    exact code_lt (hc.gd a ha))
  simpa using h2
theorem CInv.visit {w h : Nat} {p : Int → Int → Bool} (hp : ∀ x y, p x y = true → 0 ≤ x ∧ x < w ∧ 0 ≤ y ∧ y < h) {C : List Cr} (hc : CInv w h C) (k : Nat) (dir : Int) : CInv w h (visitC p k dir C) := by
  unfold visitC
  cases hk : C[k]? with
  | none => exact hc
  | some a =>
    have ha : a ∈ C := List.mem_of_getElem? hk
    show CInv w h (bif _ then _ else _)
    cases hq : p (rollK a.u dir).x (rollK a.u dir).y && !(posOf (rollK a.u dir) (C.map Cr.u)).isSome with
    | false => exact hc
    | true =>
      rw [Bool.and_eq_true, Bool.not_eq_true', Option.isSome_eq_false_iff, Option.isNone_iff_eq_none] at hq
      obtain ⟨h1, h2⟩ := hq
      have h3 := posOf_none h2
      obtain ⟨x0, x1, y0, y1⟩ := hp _ _ h1
      refine ⟨?_, fun b hb => ?_⟩
      · show ((C ++ [_]).map Cr.u).Nodup
        rw [List.map_append, List.nodup_append]
        refine ⟨hc.nodup, by simp, fun x hx y hy => ?_⟩
        simp only [List.map_cons, List.map_nil, List.mem_singleton] at hy
        rintro rfl
        exact h3 (hy ▸ hx)
      · rcases List.mem_append.1 hb with hb | hb
        · exact hc.gd b hb
        · rw [List.mem_singleton.1 hb]
          exact ⟨x0, x1, y0, y1, good_roll (hc.gd a ha).g dir⟩
theorem CInv.visit4 {w h : Nat} {p : Int → Int → Bool} (hp : ∀ x y, p x y = true → 0 ≤ x ∧ x < w ∧ 0 ≤ y ∧ y < h) {C : List Cr} (hc : CInv w h C) (k : Nat) : CInv w h (visitC4 p k C) :=
  (((hc.visit hp k 0).visit hp k 1).visit hp k 2).visit hp k 3
theorem CInv.bf {w h : Nat} {p : Int → Int → Bool} (hp : ∀ x y, p x y = true → 0 ≤ x ∧ x < w ∧ 0 ≤ y ∧ y < h) : ∀ (f k : Nat) {C : List Cr}, CInv w h C → CInv w h (bfC p f k C)
  | 0, _, _, hc => hc
  | f + 1, k, C, hc => by
    rw [bfC]
    cases decide (k < C.length)
    · exact hc
    · exact CInv.bf hp f (k + 1) (hc.visit4 hp k)
end Sp
end Go.Proofs.EV
set_option linter.unusedVariables false
set_option linter.unusedSimpArgs false
/-! The order of a search by breadth; words that it tells; in plain Lean. -/
set_option linter.unusedSectionVars false
namespace Go.Proofs.EV
open Go Go.RowKit
variable [Dr]
namespace Sp
/-- Links lead back, distances never fall, none is more than one above that of the state at hand. -/
structure COrd (k : Nat) (C : List Cr) : Prop where
  first : ∃ a : Cr, C[0]? = some a ∧ a.far = 0 ∧ a.bef = -1
  link : ∀ (i : Nat) (a : Cr), C[i]? = some a → 0 < i → ∃ (j : Nat) (b : Cr), a.bef = (j : Int) ∧ j < i ∧ C[j]? = some b ∧ a.far = b.far + 1 ∧ 0 ≤ a.dir ∧ a.dir ≤ 3
  mono : ∀ (i j : Nat) (a b : Cr), i ≤ j → C[i]? = some a → C[j]? = some b → a.far ≤ b.far
  top : ∀ (i : Nat) (a b : Cr), C[i]? = some a → C[k]? = some b → a.far ≤ b.far + 1
theorem snoc_get {α : Type} {C : List α} {c a : α} {i : Nat} (h : (C ++ [c])[i]? = some a) : C[i]? = some a ∨ (i = C.length ∧ a = c) := by
  by_cases hi : i < C.length
  · rw [List.getElem?_append_left hi] at h
    exact .inl h
  · rw [List.getElem?_append_right (by omega)] at h
    by_cases h0 : i - C.length = 0
    · rw [h0] at h
      simp only [List.getElem?_cons_zero, Option.some.injEq] at h
      exact .inr ⟨by omega, h.symm⟩
    · obtain ⟨j, hj⟩ : ∃ j, i - C.length = j + 1 := ⟨i - C.length - 1, by omega⟩
      rw [hj] at h
      simp at h
theorem get_lt {α : Type} {C : List α} {a : α} {i : Nat} (h : C[i]? = some a) : i < C.length := (List.getElem?_eq_some_iff.1 h).1
theorem snoc_old {α : Type} {C : List α} {c a : α} {i : Nat} (h : C[i]? = some a) : (C ++ [c])[i]? = some a := by
  rw [List.getElem?_append_left (get_lt h)]; exact h
theorem COrd.visit {p : Int → Int → Bool} {k : Nat} {C : List Cr} (ho : COrd k C) {dir : Int} (hd : 0 ≤ dir ∧ dir ≤ 3) : COrd k (visitC p k dir C) ∧ C.length ≤ (visitC p k dir C).length := by
  unfold visitC
  cases hk : C[k]? with
  | none => exact ⟨ho, Nat.le_refl _⟩
  | some c =>
    show COrd k (bif _ then _ else _) ∧ _ ≤ (bif _ then _ else _ : List Cr).length
    cases p (rollK c.u dir).x (rollK c.u dir).y && !(posOf (rollK c.u dir) (C.map Cr.u)).isSome with
    | false => exact ⟨ho, Nat.le_refl _⟩
    | true =>
      simp only [cond_true]
      refine ⟨⟨?_, ?_, ?_, ?_⟩, by simp⟩
      · obtain ⟨a, h1, h2, h3⟩ := ho.first
        exact ⟨a, snoc_old h1, h2, h3⟩
      · intro i a hi h0
        rcases snoc_get hi with hi | ⟨rfl, rfl⟩
        · obtain ⟨j, b, h1, h2, h3, h4, h5, h6⟩ := ho.link i a hi h0
          exact ⟨j, b, h1, h2, snoc_old h3, h4, h5, h6⟩
        · exact ⟨k, c, rfl, get_lt hk, snoc_old hk, rfl, hd.1, hd.2⟩
      · intro i j a b hij hi hj
        rcases snoc_get hj with hj | ⟨rfl, rfl⟩
        · rcases snoc_get hi with hi | ⟨rfl, _⟩
          · exact ho.mono i j a b hij hi hj
          · have := get_lt hj
            omega
        · rcases snoc_get hi with hi | ⟨_, rfl⟩
          · exact ho.top i a c hi hk
          · exact Int.le_refl _
      · intro i a b hi hb
        have hb' : b = c := by
          have := snoc_old (c := (⟨rollK c.u dir, c.far + 1, (k : Int), dir⟩ : Cr)) hk
          rw [this] at hb
          exact (Option.some.inj hb).symm
        subst hb'
        rcases snoc_get hi with hi | ⟨_, rfl⟩
        · exact ho.top i a b hi hk
        · exact Int.le_refl _
theorem COrd.visit4 {p : Int → Int → Bool} {k : Nat} {C : List Cr} (ho : COrd k C) : COrd k (visitC4 p k C) ∧ C.length ≤ (visitC4 p k C).length := by
  obtain ⟨o0, l0⟩ := ho.visit (p := p) (dir := 0) (by omega)
  obtain ⟨o1, l1⟩ := o0.visit (p := p) (dir := 1) (by omega)
  obtain ⟨o2, l2⟩ := o1.visit (p := p) (dir := 2) (by omega)
  obtain ⟨o3, l3⟩ := o2.visit (p := p) (dir := 3) (by omega)
  exact ⟨o3, by unfold visitC4; omega⟩
theorem COrd.step {k : Nat} {C : List Cr} (ho : COrd k C) (hk : k < C.length) : COrd (k + 1) C := by
  refine ⟨ho.first, ho.link, ho.mono, fun i a b hi hb => ?_⟩
  have h1 := ho.top i a C[k] hi (List.getElem?_eq_getElem hk)
  have h2 := ho.mono k (k + 1) C[k] b (by omega) (List.getElem?_eq_getElem hk) hb
  omega
theorem COrd.bf {p : Int → Int → Bool} : ∀ (f k : Nat) {C : List Cr}, COrd k C → ∃ k', COrd k' (bfC p f k C)
  | 0, k, C, ho => ⟨k, ho⟩
  | f + 1, k, C, ho => by
    rw [bfC]
    by_cases hk : k < C.length
    · obtain ⟨h1, h2⟩ := ho.visit4 (p := p)
      rw [decide_eq_true hk, cond_true]
      exact COrd.bf f (k + 1) (h1.step (by omega))
    · rw [decide_eq_false hk, cond_false]
      exact ⟨k, ho⟩
def dirL (d : Int) : UInt8 := [110, 101, 115, 119].getD d.toNat 0
/-- The word to a state. -/
def wordN (C : List Cr) : Nat → Nat → List UInt8
  | 0, _ => []
  | f + 1, i => match C[i]? with
    | none => []
    | some a => bif decide (a.bef < 0) then [] else wordN C f a.bef.toNat ++ [dirL a.dir]
theorem wordN_len {k : Nat} {C : List Cr} (ho : COrd k C) : ∀ (f i : Nat) (a : Cr), C[i]? = some a → i < f → ((wordN C f i).length : Int) = a.far
  | 0, _, _, _, h => by omega
  | f + 1, i, a, hi, hf => by
    rw [wordN, hi]
    by_cases h0 : 0 < i
    · obtain ⟨j, b, h1, h2, h3, h4, _⟩ := ho.link i a hi h0
      have hn : ¬ a.bef < 0 := by omega
      have e : a.bef.toNat = j := by omega
      have ih := wordN_len ho f j b h3 (by omega)
      simp only [hn, decide_false, cond_false, e, List.length_append, List.length_singleton]
      omega
    · obtain rfl : i = 0 := by omega
      obtain ⟨c, h1, h2, h3⟩ := ho.first
      obtain rfl : c = a := by rw [hi] at h1; exact (Option.some.inj h1).symm
      have hn : c.bef < 0 := by omega
      simp only [hn, decide_true, cond_true, List.length_nil]
      omega
theorem wordN_fuel {k : Nat} {C : List Cr} (ho : COrd k C) : ∀ (f g i : Nat) (a : Cr), C[i]? = some a → i < f → i < g → wordN C f i = wordN C g i
  | 0, _, _, _, _, h, _ => by omega
  | _ + 1, 0, _, _, _, _, h => by omega
  | f + 1, g + 1, i, a, hi, hf, hg => by
    rw [wordN, wordN, hi]
    by_cases h0 : 0 < i
    · obtain ⟨j, b, h1, h2, h3, h4, _⟩ := ho.link i a hi h0
      have e : a.bef.toNat = j := by omega
      simp only [e]
      rw [wordN_fuel ho f g j b h3 (by omega) (by omega)]
    · obtain rfl : i = 0 := by omega
      obtain ⟨c, h1, h2, h3⟩ := ho.first
      obtain rfl : c = a := by rw [hi] at h1; exact (Option.some.inj h1).symm
      have hn : c.bef < 0 := by omega
      simp only [hn, decide_true, cond_true]
/-- The first of some that is such. -/
def firstC (is : Sta → Bool) : List Cr → Nat → Option Nat
  | [], _ => none
  | a :: C, i => bif is a.u then some i else firstC is C (i + 1)
theorem firstC_out (is : Sta → Bool) : ∀ (C : List Cr) (i k : Nat), firstC is C i = some k → ∃ a : Cr, i ≤ k ∧ C[k - i]? = some a ∧ is a.u = true ∧ ∀ (j : Nat) (b : Cr), j < k - i → C[j]? = some b → is b.u = false
  | [], _, _, h => by cases h
  | a :: C, i, k, h => by
    rw [firstC] at h
    cases hd : is a.u with
    | true =>
      rw [hd, cond_true] at h
      cases h
      exact ⟨a, Nat.le_refl _, by simp, hd, fun j b hj => by omega⟩
    | false =>
      rw [hd, cond_false] at h
      obtain ⟨c, h1, h2, h3, h4⟩ := firstC_out is C (i + 1) k h
      refine ⟨c, by omega, ?_, h3, fun j b hj hb => ?_⟩
      · obtain ⟨m, hm⟩ : ∃ m, k - i = m + 1 := ⟨k - i - 1, by omega⟩
        rw [hm, List.getElem?_cons_succ]
        rw [show k - (i + 1) = m by omega] at h2
        exact h2
      · cases j with
        | zero =>
          simp only [List.getElem?_cons_zero, Option.some.injEq] at hb
          rw [← hb]; exact hd
        | succ j =>
          rw [List.getElem?_cons_succ] at hb
          exact h4 j b (by omega) hb
/-- The first of some that is such and no farther. -/
def firstM (is : Sta → Bool) (M : Int) : List Cr → Nat → Option Nat
  | [], _ => none
  | a :: C, i => bif is a.u && decide (a.far ≤ M) then some i else firstM is M C (i + 1)
theorem firstM_none (is : Sta → Bool) (M : Int) : ∀ (C : List Cr) (i : Nat), (∀ b ∈ C, ¬ b.far ≤ M) → firstM is M C i = none
  | [], _, _ => rfl
  | a :: C, i, h => by
    rw [firstM]
    have := h a List.mem_cons_self
    simp only [this, decide_false, Bool.and_false, cond_false]
    exact firstM_none is M C (i + 1) (fun b hb => h b (List.mem_cons_of_mem _ hb))
/-- Where distances never fall, the first such state is the nearest. -/
theorem firstM_eq (is : Sta → Bool) (M : Int) : ∀ (C : List Cr) (i : Nat), (∀ (x y : Nat) (a b : Cr), x ≤ y → C[x]? = some a → C[y]? = some b → a.far ≤ b.far) →
    firstM is M C i = (firstC is C i).bind fun k => match C[k - i]? with | some a => bif decide (a.far ≤ M) then some k else none | none => none
  | [], _, _ => rfl
  | a :: C, i, hm => by
    have hm' : ∀ (x y : Nat) (a b : Cr), x ≤ y → C[x]? = some a → C[y]? = some b → a.far ≤ b.far := fun x y c d hxy hc hd => hm (x + 1) (y + 1) c d (by omega) (by simpa using hc) (by simpa using hd)
    rw [firstM, firstC]
    cases hd : is a.u with
    | true =>
      simp only [Bool.true_and, cond_true, Option.bind_some, Nat.sub_self, List.getElem?_cons_zero]
      by_cases hf : a.far ≤ M
      · simp only [hf, decide_true, cond_true]
      · simp only [hf, decide_false, cond_false]
        refine firstM_none is M C (i + 1) (fun b hb hle => ?_)
        obtain ⟨j, hj⟩ := List.mem_iff_getElem?.1 hb
        have := hm 0 (j + 1) a b (by omega) (by simp) (by simpa using hj)
        omega
    | false =>
      simp only [Bool.false_and, cond_false]
      rw [firstM_eq is M C (i + 1) hm']
      cases hk : firstC is C (i + 1) with
      | none => rfl
      | some k =>
        obtain ⟨c, h1, h2, _, _⟩ := firstC_out is C (i + 1) k hk
        obtain ⟨m, hm1⟩ : ∃ m, k - i = m + 1 := ⟨k - i - 1, by omega⟩
        have e : k - (i + 1) = m := by omega
        simp only [Option.bind_some, hm1, List.getElem?_cons_succ, e]
end Sp
end Go.Proofs.EV
set_option linter.unusedVariables false
set_option linter.unusedSimpArgs false
/-! Shortest words counted: while searching, and afterwards; in plain Lean. -/
set_option linter.unusedSectionVars false
namespace Go.Proofs.EV
open Go Go.RowKit
variable [Dr]
namespace Sp
theorem posOf_app {t : Sta} (m : List Sta) : ∀ {l : List Sta} {j : Nat}, posOf t l = some j → posOf t (l ++ m) = some j
  | [], _, h => by cases h
  | u :: l, j, h => by
    rw [posOf] at h
    rw [List.cons_append, posOf]
    cases he : eqSt u t with
    | true => rw [he] at h; exact h
    | false =>
      rw [he, cond_false] at h
      obtain ⟨i, hi, rfl⟩ := Option.map_eq_some_iff.1 h
      rw [cond_false, posOf_app m hi]; rfl
theorem posOf_new {t : Sta} (m : List Sta) : ∀ {l : List Sta}, posOf t l = none → posOf t (l ++ t :: m) = some l.length
  | [], _ => by
    rw [List.nil_append, posOf, eqSt_iff.2 rfl]; rfl
  | u :: l, h => by
    rw [posOf] at h
    rw [List.cons_append, posOf]
    cases he : eqSt u t with
    | true => rw [he] at h; cases h
    | false =>
      rw [he, cond_false, Option.map_eq_none_iff] at h
      rw [cond_false, posOf_new m h]; rfl
theorem visitC_pre (p : Int → Int → Bool) (k : Nat) (dir : Int) (C : List Cr) : ∃ m, visitC p k dir C = C ++ m := by
  unfold visitC
  cases C[k]? with
  | none => exact ⟨[], by simp⟩
  | some a =>
    show ∃ m, (bif _ then _ else _) = C ++ m
    cases p (rollK a.u dir).x (rollK a.u dir).y && !(posOf (rollK a.u dir) (C.map Cr.u)).isSome with
    | false => exact ⟨[], by simp⟩
    | true => exact ⟨_, rfl⟩
theorem visitC4_pre (p : Int → Int → Bool) (k : Nat) (C : List Cr) : ∃ m, visitC4 p k C = C ++ m := by
  obtain ⟨m0, h0⟩ := visitC_pre p k 0 C
  obtain ⟨m1, h1⟩ := visitC_pre p k 1 (visitC p k 0 C)
  obtain ⟨m2, h2⟩ := visitC_pre p k 2 (visitC p k 1 (visitC p k 0 C))
  obtain ⟨m3, h3⟩ := visitC_pre p k 3 (visitC p k 2 (visitC p k 1 (visitC p k 0 C)))
  refine ⟨m0 ++ (m1 ++ (m2 ++ m3)), ?_⟩
  unfold visitC4
  rw [h3, h2, h1, h0]
  simp only [List.append_assoc]
theorem bfC_pre (p : Int → Int → Bool) : ∀ (f k : Nat) (C : List Cr), ∃ m, bfC p f k C = C ++ m
  | 0, _, C => ⟨[], by simp [bfC]⟩
  | f + 1, k, C => by
    rw [bfC]
    cases decide (k < C.length) with
    | false => exact ⟨[], by simp⟩
    | true =>
      obtain ⟨m, hm⟩ := visitC4_pre p k C
      obtain ⟨m', hm'⟩ := bfC_pre p f (k + 1) (visitC4 p k C)
      refine ⟨m ++ m', ?_⟩
      rw [cond_true, hm', hm, List.append_assoc]
/-- Words counted behind the search, at one roll of the state at place k. -/
def addA (p : Int → Int → Bool) (C : List Cr) (k : Nat) (dir : Int) (A : List Int) : List Int :=
  match C[k]? with
  | none => A
  | some a => bif p (rollK a.u dir).x (rollK a.u dir).y then
      (match posOf (rollK a.u dir) (C.map Cr.u) with
       | none => A
       | some j => match C[j]? with
         | none => A
         | some b => bif decide (b.far = a.far + 1) then A.set j (IntKind.i64.wrap (A.getD j 0 + A.getD k 0)) else A)
    else A
def addA4 (p : Int → Int → Bool) (C : List Cr) (k : Nat) (A : List Int) : List Int := addA p C k 3 (addA p C k 2 (addA p C k 1 (addA p C k 0 A)))
theorem addA_len (p : Int → Int → Bool) (C : List Cr) (k : Nat) (dir : Int) (A : List Int) : (addA p C k dir A).length = A.length := by
  unfold addA
  split
  · rfl
  · rename_i a _
    cases p (rollK a.u dir).x (rollK a.u dir).y
    · rfl
    · simp only [cond_true]
      split
      · rfl
      · split
        · rfl
        · rename_i b _
          cases decide (b.far = a.far + 1)
          · rfl
          · simp
/-- The words of a search so far are those counted so far. -/
def WRel (N : List Nd) (A : List Int) : Prop := ∀ j, A.getD j 0 = ((N[j]?).map Nd.words).getD 0
theorem nx_words (a : Nd) (dir v : Int) : (a.nx dir v).words = a.words := by
  unfold Nd.nx
  cases decide (dir = 0) <;> cases decide (dir = 1) <;> cases decide (dir = 2) <;> rfl
theorem WRel.set {N : List Nd} {A : List Int} (hw : WRel N A) {k : Nat} {a b : Nd} (h : N[k]? = some a) (hb : b.words = a.words) : WRel (N.set k b) A := by
  intro j
  rw [hw j]
  by_cases hj : k = j
  · subst hj
    rw [h, List.getElem?_set_self (get_lt h)]
    simp [hb]
  · rw [List.getElem?_set_ne hj]
theorem WRel.add {N : List Nd} {A : List Int} (hw : WRel N A) {j : Nat} {b : Nd} (h : N[j]? = some b) (hA : j < A.length) (v : Int) : WRel (N.set j { b with words := IntKind.i64.wrap (b.words + v) }) (A.set j (IntKind.i64.wrap (A.getD j 0 + v))) := by
  intro i
  have e := hw j
  rw [h] at e
  simp only [Option.map_some, Option.getD_some] at e
  by_cases hj : j = i
  · subst hj
    rw [List.getElem?_set_self (get_lt h), List.getD_eq_getElem?_getD, List.getElem?_set_self hA]
    show IntKind.i64.wrap (A.getD j 0 + v) = IntKind.i64.wrap (b.words + v)
    rw [e]
  · rw [List.getElem?_set_ne hj, List.getD_eq_getElem?_getD, List.getElem?_set_ne hj, ← List.getD_eq_getElem?_getD]
    exact hw i
theorem core_get {N : List Nd} {C m : List Cr} (hC : C = N.map Nd.core ++ m) {j : Nat} {b : Nd} (h : N[j]? = some b) : C[j]? = some b.core := by
  rw [hC, List.getElem?_append_left (by rw [List.length_map]; exact get_lt h), List.getElem?_map, h]; rfl
/-- One roll: the search counts as is counted behind it. -/
theorem visit_words {p : Int → Int → Bool} {k : Nat} {dir : Int} {N : List Nd} {C m : List Cr} {A : List Int} (hC : C = (visit p k dir N).map Nd.core ++ m) (hlen : A.length = C.length) (hw : WRel N A) (hk : k < N.length) :
    WRel (visit p k dir N) (addA p C k dir A) := by
  obtain ⟨m0, hm0⟩ := visitC_pre p k dir (N.map Nd.core)
  have hCN : C = N.map Nd.core ++ (m0 ++ m) := by rw [hC, visit_core, hm0, List.append_assoc]
  have ha : N[k]? = some N[k] := List.getElem?_eq_getElem hk
  generalize hav : N[k] = a at ha
  have hCk := core_get hCN ha
  have hNu : N.map Nd.u = (N.map Nd.core).map Cr.u := (map_core_u N).symm
  rw [visit_core] at hC
  unfold visitC at hC
  rw [List.getElem?_map, ha, map_core_u] at hC
  simp only [Option.map_some] at hC
  unfold visit addA
  rw [ha, hCk]
  have hw0 : WRel (N.set k (a.nx dir (-1))) A := hw.set ha (nx_words a dir (-1))
  have h0 : (N.set k (a.nx dir (-1))).map Nd.core = N.map Nd.core := set_core ha (core_nx a dir (-1))
  have hu : (N.set k (a.nx dir (-1))).map Nd.u = N.map Nd.u := by rw [← map_core_u, h0, map_core_u]
  simp only [hu]
  have ecore : a.core.u = a.u := rfl
  have efar : a.core.far = a.far := rfl
  rw [ecore, efar] at hC ⊢
  cases hp : p (rollK a.u dir).x (rollK a.u dir).y with
  | false => simpa using hw0
  | true =>
    rw [hp] at hC
    simp only [cond_true, Bool.true_and] at hC ⊢
    cases hpos : posOf (rollK a.u dir) (N.map Nd.u) with
    | some j =>
      rw [hpos] at hC
      simp only [Option.isSome_some, Bool.not_true, cond_false] at hC
      have hpC : posOf (rollK a.u dir) (C.map Cr.u) = some j := by
        rw [hC, List.map_append, map_core_u]
        exact posOf_app _ hpos
      obtain ⟨hj, _⟩ := posOf_some hpos
      rw [List.length_map] at hj
      obtain ⟨b, hb0⟩ : ∃ b, (N.set k (a.nx dir (-1)))[j]? = some b := ⟨_, List.getElem?_eq_getElem (by rw [List.length_set]; exact hj)⟩
      have hCb : C[j]? = some b.core := core_get (m := m) (N := N.set k (a.nx dir (-1))) (by rw [h0]; exact hC) hb0
      simp only [Option.isSome_some, cond_true, Option.getD_some, hb0, hpC, hCb]
      rw [show b.core.far = b.far from rfl]
      have hAk : A.getD k 0 = a.words := by
        have := hw k
        rw [ha] at this
        simpa using this
      cases hf : decide (b.far = a.far + 1) with
      | false =>
        simp only [cond_false]
        split
        · exact hw0
        · rename_i a' ha'
          exact hw0.set ha' (nx_words a' dir _)
      | true =>
        simp only [cond_true]
        have hw1 := hw0.add hb0 (by rw [hlen, hC, List.length_append, List.length_map]; omega) a.words
        rw [hAk]
        split
        · exact hw1
        · rename_i a' ha'
          exact hw1.set ha' (nx_words a' dir _)
    | none =>
      rw [hpos] at hC
      simp only [Option.isSome_none, Bool.not_false, cond_true] at hC
      have hpC : posOf (rollK a.u dir) (C.map Cr.u) = some N.length := by
        rw [hC, List.map_append, List.map_append, map_core_u, List.append_assoc]
        have := posOf_new (m.map Cr.u) hpos
        rw [List.length_map] at this
        exact this
      have hls : (N.set k (a.nx dir (-1))).length = N.length := List.length_set ..
      simp only [Option.isSome_none, cond_false, Option.getD_none, hls]
      generalize hnd : (⟨rollK a.u dir, a.far + 1, 0, (k : Int), dir, 0, 0, 0, 0⟩ : Nd) = nd
      have hb0 : (N.set k (a.nx dir (-1)) ++ [nd])[N.length]? = some nd := by
        rw [List.getElem?_append_right (by omega), hls, Nat.sub_self]; rfl
      have hCb : C[N.length]? = some nd.core := by
        rw [hC, ← hnd, List.getElem?_append_left (by simp), List.getElem?_append_right (by simp)]
        simp [Nd.core]
      have hf : decide (nd.far = a.far + 1) = true := decide_eq_true (by rw [← hnd])
      have hw1 : WRel (N.set k (a.nx dir (-1)) ++ [nd]) A := by
        intro j
        rw [hw0 j]
        by_cases hj : j < N.length
        · rw [List.getElem?_append_left (by omega)]
        · rw [List.getElem?_eq_none (by omega)]
          by_cases hj2 : j = N.length
          · rw [hj2, hb0, ← hnd]; rfl
          · rw [List.getElem?_eq_none (by rw [List.length_append, hls, List.length_singleton]; omega)]
      have hAk : A.getD k 0 = a.words := by
        have := hw k
        rw [ha] at this
        simpa using this
      simp only [hb0, hpC, hCb]
      rw [show nd.core.far = nd.far from rfl, hf, hAk]
      simp only [cond_true]
      have hw2 := hw1.add hb0 (by rw [hlen, hC, List.length_append, List.length_append, List.length_map, List.length_singleton]; omega) a.words
      split
      · exact hw2
      · rename_i a' ha'
        exact hw2.set ha' (nx_words a' dir _)
theorem visit_pre (p : Int → Int → Bool) (k : Nat) (dir : Int) (N : List Nd) : ∃ m, (visit p k dir N).map Nd.core = N.map Nd.core ++ m := by
  rw [visit_core]
  exact visitC_pre p k dir _
theorem visit_len (p : Int → Int → Bool) (k : Nat) (dir : Int) (N : List Nd) : N.length ≤ (visit p k dir N).length := by
  obtain ⟨m, hm⟩ := visit_pre p k dir N
  have := congrArg List.length hm
  rw [List.length_append, List.length_map, List.length_map] at this
  omega
theorem visit4_words {p : Int → Int → Bool} {k : Nat} {N : List Nd} {C m : List Cr} {A : List Int} (hC : C = (visit4 p k N).map Nd.core ++ m) (hlen : A.length = C.length) (hw : WRel N A) (hk : k < N.length) :
    WRel (visit4 p k N) (addA4 p C k A) ∧ (addA4 p C k A).length = C.length := by
  unfold visit4 at hC ⊢
  unfold addA4
  obtain ⟨m1, e1⟩ := visit_pre p k 1 (visit p k 0 N)
  obtain ⟨m2, e2⟩ := visit_pre p k 2 (visit p k 1 (visit p k 0 N))
  obtain ⟨m3, e3⟩ := visit_pre p k 3 (visit p k 2 (visit p k 1 (visit p k 0 N)))
  have c2 : C = (visit p k 2 (visit p k 1 (visit p k 0 N))).map Nd.core ++ (m3 ++ m) := by rw [hC, e3, List.append_assoc]
  have c1 : C = (visit p k 1 (visit p k 0 N)).map Nd.core ++ (m2 ++ (m3 ++ m)) := by rw [c2, e2, List.append_assoc]
  have c0 : C = (visit p k 0 N).map Nd.core ++ (m1 ++ (m2 ++ (m3 ++ m))) := by rw [c1, e1, List.append_assoc]
  have l0 := visit_len p k 0 N
  have l1 := visit_len p k 1 (visit p k 0 N)
  have l2 := visit_len p k 2 (visit p k 1 (visit p k 0 N))
  have w0 := visit_words c0 hlen hw hk
  have n0 : (addA p C k 0 A).length = C.length := by rw [addA_len, hlen]
  have w1 := visit_words c1 n0 w0 (by omega)
  have n1 : (addA p C k 1 (addA p C k 0 A)).length = C.length := by rw [addA_len, n0]
  have w2 := visit_words c2 n1 w1 (by omega)
  have n2 : (addA p C k 2 (addA p C k 1 (addA p C k 0 A))).length = C.length := by rw [addA_len, n1]
  have w3 := visit_words hC n2 w2 (by omega)
  exact ⟨w3, by rw [addA_len, n2]⟩
def cntA (p : Int → Int → Bool) (C : List Cr) : Nat → Nat → List Int → List Int
  | 0, _, A => A
  | f + 1, k, A => bif decide (k < C.length) then cntA p C f (k + 1) (addA4 p C k A) else A
/-- The words of the whole search are those counted behind it. -/
theorem bf_words {p : Int → Int → Bool} {C : List Cr} : ∀ (f k : Nat) (N : List Nd) (A : List Int), C = (bf p f k N).map Nd.core → A.length = C.length → WRel N A → WRel (bf p f k N) (cntA p C f k A)
  | 0, _, _, _, _, _, hw => hw
  | f + 1, k, N, A, hC, hlen, hw => by
    rw [bf] at hC ⊢
    rw [cntA]
    by_cases hk : k < N.length
    · rw [decide_eq_true hk, cond_true] at hC ⊢
      obtain ⟨m, hm⟩ := bfC_pre p f (k + 1) ((visit4 p k N).map Nd.core)
      have hC' : C = (visit4 p k N).map Nd.core ++ m := by rw [hC, bf_core, hm]
      obtain ⟨m0, hm0⟩ := visitC4_pre p k (N.map Nd.core)
      have hkC : k < C.length := by
        rw [hC', visit4_core, hm0]
        simp only [List.length_append, List.length_map]
        omega
      rw [decide_eq_true hkC, cond_true]
      obtain ⟨h1, h2⟩ := visit4_words hC' hlen hw hk
      exact bf_words f (k + 1) (visit4 p k N) (addA4 p C k A) hC h2 h1
    · rw [decide_eq_false hk, cond_false] at hC ⊢
      have hkC : ¬ k < C.length := by rw [hC, List.length_map]; exact hk
      rw [decide_eq_false hkC, cond_false]
      exact hw
end Sp
end Go.Proofs.EV
set_option linter.unusedVariables false
set_option linter.unusedSimpArgs false
/-! Codes of reached states; the whole search; in plain Lean. -/
set_option linter.unusedSectionVars false
namespace Go.Proofs.EV
open Go Go.RowKit
variable [Dr]
namespace Sp
def ixOf (n : Int) : List Int → Option Nat
  | [] => none
  | m :: l => bif decide (m = n) then some 0 else (ixOf n l).map (· + 1)
def codes (w : Nat) (l : List Sta) : List Int := l.map fun u => ((codeN w u : Nat) : Int)
theorem ixOf_codes {w h : Nat} {t : Sta} (ht : Gds w h t) : ∀ {l : List Sta}, (∀ u ∈ l, Gds w h u) → ixOf (codeN w t : Nat) (codes w l) = posOf t l
  | [], _ => rfl
  | u :: l, hl => by
    show (bif decide (((codeN w u : Nat) : Int) = ((codeN w t : Nat) : Int)) then some 0 else (ixOf _ (codes w l)).map (· + 1)) = _
    rw [posOf, ixOf_codes ht (fun v hv => hl v (List.mem_cons_of_mem _ hv))]
    congr 1
    rw [Bool.eq_iff_iff, decide_eq_true_eq, eqSt_iff]
    constructor
    · intro he
      exact code_inj (hl u List.mem_cons_self) ht (by omega)
    · rintro rfl; rfl
theorem ixOf_lt {n : Int} : ∀ {l : List Int} {k : Nat}, ixOf n l = some k → k < l.length
  | [], _, h => by cases h
  | m :: l, k, h => by
    rw [ixOf] at h
    cases hd : decide (m = n) with
    | true => rw [hd] at h; cases h; simp
    | false =>
      rw [hd, cond_false] at h
      obtain ⟨j, hj, rfl⟩ := Option.map_eq_some_iff.1 h
      have := ixOf_lt hj
      simpa using this
/-- Reached states by their cells. -/
def ndC : Cod Nd where
  enc a := [.int .i64 a.u.x, .int .i64 a.u.y, .int .i64 a.u.d.t, .int .i64 a.u.d.n, .int .i64 a.u.d.e, .int .i64 a.u.d.s, .int .i64 a.u.d.w, .int .i64 a.u.d.b, .int .i64 a.far, .int .i64 a.words, .int .i64 a.bef, .int .i64 a.dir, .int .i64 a.n0, .int .i64 a.n1, .int .i64 a.n2, .int .i64 a.n3]
  dec | [.int .i64 x, .int .i64 y, .int .i64 t, .int .i64 n, .int .i64 e, .int .i64 s, .int .i64 w, .int .i64 b, .int .i64 far, .int .i64 words, .int .i64 bef, .int .i64 dir, .int .i64 n0, .int .i64 n1, .int .i64 n2, .int .i64 n3] => some ⟨⟨x, y, ⟨t, n, e, s, w, b⟩⟩, far, words, bef, dir, n0, n1, n2, n3⟩
      | _ => none
  de _ := rfl
  ed e x h := by
    split at h
    · cases h; rfl
    · cases h
/-- More rounds than any search on a board takes. -/
def BIG : Nat := 50000000
def nd0 (s : Sta) : Nd := ⟨s, 0, 1, -1, 0, 0, 0, 0, 0⟩
def cr0 (s : Sta) : Cr := ⟨s, 0, -1, 0⟩
/-- All that rolls make of a state. -/
def wyN (p : Int → Int → Bool) (s : Sta) : List Nd := bf p BIG 0 [nd0 s]
def wyC (p : Int → Int → Bool) (s : Sta) : List Cr := bfC p BIG 0 [cr0 s]
theorem wy_core (p : Int → Int → Bool) (s : Sta) : (wyN p s).map Nd.core = wyC p s := bf_core p BIG 0 [nd0 s]
theorem cr0_ord (s : Sta) : COrd 0 [cr0 s] := by
  refine ⟨⟨cr0 s, rfl, rfl, rfl⟩, fun i a hi h0 => ?_, fun i j a b hij hi hj => ?_, fun i a b hi hb => ?_⟩
  · have := get_lt hi
    simp at this
    omega
  · have h1 := get_lt hi
    have h2 := get_lt hj
    simp at h1 h2
    subst h1 h2
    rw [hi] at hj
    rw [Option.some.inj hj]
    exact Int.le_refl _
  · have h1 := get_lt hi
    simp at h1
    subst h1
    rw [hi] at hb
    rw [Option.some.inj hb]
    omega
theorem wyC_ord (p : Int → Int → Bool) (s : Sta) : ∃ k, COrd k (wyC p s) := COrd.bf BIG 0 (cr0_ord s)
theorem cr0_inv {w h : Nat} {s : Sta} (g : Gds w h s) : CInv w h [cr0 s] := ⟨by simp, fun a ha => by rw [List.mem_singleton.1 ha]; exact g⟩
theorem isFl_gd {r : List (List UInt8)} : ∀ x y, isFl r x y = true → 0 ≤ x ∧ x < wOf r ∧ 0 ≤ y ∧ y < r.length := fun _ _ h => isFl_out h
theorem wyC_inv {q : ByteArray} {s : Sta} (ho : okSt q s = true) : CInv (wOf (rws q)) (rws q).length (wyC (isFl (rws q)) s) := by
  obtain ⟨h1, h2, h3, _, _⟩ := okSt_out ho
  obtain ⟨a, b, c, d⟩ := isFl_out h3
  exact CInv.bf isFl_gd BIG 0 (cr0_inv ⟨a, b, c, d, h2⟩)
theorem cinv_big {w h : Nat} (hw : w ≤ 7) (hh : h ≤ 7) {C : List Cr} (hc : CInv w h C) : C.length < BIG := by
  have h1 := hc.len
  have h2 := Nat.mul_le_mul hw hh
  have h3 := Nat.mul_le_mul_left 1000000 h2
  unfold BIG
  omega
/-- Rolls in the directions from one on. -/
def visF (p : Int → Int → Bool) (k : Nat) : Nat → Nat → List Nd → List Nd
  | 0, _, N => N
  | d + 1, dir, N => visF p k d (dir + 1) (visit p k (dir : Int) N)
theorem visF4 (p : Int → Int → Bool) (k : Nat) (N : List Nd) : visF p k 4 0 N = visit4 p k N := rfl
def visCF (p : Int → Int → Bool) (k : Nat) : Nat → Nat → List Cr → List Cr
  | 0, _, C => C
  | d + 1, dir, C => visCF p k d (dir + 1) (visitC p k (dir : Int) C)
theorem visCF4 (p : Int → Int → Bool) (k : Nat) (C : List Cr) : visCF p k 4 0 C = visitC4 p k C := rfl
theorem far_le {k : Nat} {C : List Cr} (ho : COrd k C) : ∀ (n i : Nat) (a : Cr), i < n → C[i]? = some a → 0 ≤ a.far ∧ a.far ≤ (i : Int)
  | 0, i, _, h, _ => by omega
  | n + 1, i, a, hn, hi => by
    by_cases h0 : 0 < i
    · obtain ⟨j, b, h1, h2, h3, h4, _⟩ := ho.link i a hi h0
      have := far_le ho n j b (by omega) h3
      omega
    · obtain rfl : i = 0 := by omega
      obtain ⟨c, h1, h2, h3⟩ := ho.first
      obtain rfl : c = a := by rw [hi] at h1; exact (Option.some.inj h1).symm
      omega
/-- The word to the first state that is such, if it is no longer than 60. -/
def solO (is : Sta → Bool) (C : List Cr) : Option (List UInt8) :=
  (firstC is C 0).bind fun k => match C[k]? with
    | some a => bif decide (a.far ≤ 60) then some (wordN C (k + 1) k) else none
    | none => none
theorem solO_M (is : Sta → Bool) {k' : Nat} {C : List Cr} (ho : COrd k' C) : solO is C = (firstM is 60 C 0).map fun k => wordN C (k + 1) k := by
  rw [firstM_eq is 60 C 0 ho.mono]
  unfold solO
  cases firstC is C 0 with
  | none => rfl
  | some k =>
    simp only [Option.bind_some, Nat.sub_zero]
    cases C[k]? with
    | none => rfl
    | some a =>
      show (bif decide (a.far ≤ 60) then _ else _) = Option.map _ (bif decide (a.far ≤ 60) then _ else _)
      cases decide (a.far ≤ 60) <;> rfl
theorem solO_len (is : Sta → Bool) {k' : Nat} {C : List Cr} (ho : COrd k' C) : solO is C = (firstC is C 0).bind fun k => bif decide (((wordN C (k + 1) k).length : Int) ≤ 60) then some (wordN C (k + 1) k) else none := by
  unfold solO
  cases hk : firstC is C 0 with
  | none => rfl
  | some k =>
    obtain ⟨a, _, h2, _, _⟩ := firstC_out is C 0 k hk
    rw [Nat.sub_zero] at h2
    simp only [Option.bind_some, h2]
    rw [wordN_len ho (k + 1) k a h2 (by omega)]
end Sp
end Go.Proofs.EV
set_option linter.unusedVariables false
set_option linter.unusedSimpArgs false
/-! Reached states by their cells; lists turned about; in plain Lean. -/
set_option linter.unusedSectionVars false
namespace Go.Proofs.EV
open Go Go.RowKit
variable [Dr]
open Sp
theorem ndC_cell {l : List Nd} {k : Nat} (h : k < l.length) (j : Nat) : cellD (ndC.encs l) k j = (ndC.enc l[k]).getD j .nilp := Cod.encs_cell h j
theorem nd_cells {l : List Nd} {k : Nat} (h : k < l.length) : D.int? .i64 (cellD (ndC.encs l) k 0) = some l[k].u.x ∧ D.int? .i64 (cellD (ndC.encs l) k 1) = some l[k].u.y ∧ D.int? .i64 (cellD (ndC.encs l) k 2) = some l[k].u.d.t ∧ D.int? .i64 (cellD (ndC.encs l) k 3) = some l[k].u.d.n ∧ D.int? .i64 (cellD (ndC.encs l) k 4) = some l[k].u.d.e ∧ D.int? .i64 (cellD (ndC.encs l) k 5) = some l[k].u.d.s ∧ D.int? .i64 (cellD (ndC.encs l) k 6) = some l[k].u.d.w ∧ D.int? .i64 (cellD (ndC.encs l) k 7) = some l[k].u.d.b := by
  refine ⟨?_, ?_, ?_, ?_, ?_, ?_, ?_, ?_⟩ <;> (rw [ndC_cell h]; rfl)
theorem nd_cells2 {l : List Nd} {k : Nat} (h : k < l.length) : D.int? .i64 (cellD (ndC.encs l) k 8) = some l[k].far ∧ D.int? .i64 (cellD (ndC.encs l) k 9) = some l[k].words ∧ D.int? .i64 (cellD (ndC.encs l) k 10) = some l[k].bef ∧ D.int? .i64 (cellD (ndC.encs l) k 11) = some l[k].dir := by
  refine ⟨?_, ?_, ?_, ?_⟩ <;> (rw [ndC_cell h]; rfl)
theorem nd_cells3 {l : List Nd} {k : Nat} (h : k < l.length) : D.int? .i64 (cellD (ndC.encs l) k 12) = some l[k].n0 ∧ D.int? .i64 (cellD (ndC.encs l) k 13) = some l[k].n1 ∧ D.int? .i64 (cellD (ndC.encs l) k 14) = some l[k].n2 ∧ D.int? .i64 (cellD (ndC.encs l) k 15) = some l[k].n3 := by
  refine ⟨?_, ?_, ?_, ?_⟩ <;> (rw [ndC_cell h]; rfl)
theorem ndC_snoc (l : List Nd) (a : Nd) : ndC.encs l ++ [ndC.enc a] = ndC.encs (l ++ [a]) := by
  simp [Cod.encs]
section
variable {L : List Nd} {i : Nat}
theorem ndC_n0 (h : i < L.length) (v : Int) : setRow 16 (ndC.encs L) i 12 [D.int .i64 v] = ndC.encs (L.set i (L[i].nx 0 v)) := by
  show (ndC.encs L).set i [cellD (ndC.encs L) i 0, cellD (ndC.encs L) i 1, cellD (ndC.encs L) i 2, cellD (ndC.encs L) i 3, cellD (ndC.encs L) i 4, cellD (ndC.encs L) i 5, cellD (ndC.encs L) i 6, cellD (ndC.encs L) i 7, cellD (ndC.encs L) i 8, cellD (ndC.encs L) i 9, cellD (ndC.encs L) i 10, cellD (ndC.encs L) i 11, D.int .i64 v, cellD (ndC.encs L) i 13, cellD (ndC.encs L) i 14, cellD (ndC.encs L) i 15] = _
  simp only [Cod.encs_cell h]; simp [Cod.encs, List.map_set, ndC, Nd.nx]
theorem ndC_n1 (h : i < L.length) (v : Int) : setRow 16 (ndC.encs L) i 13 [D.int .i64 v] = ndC.encs (L.set i (L[i].nx 1 v)) := by
  show (ndC.encs L).set i [cellD (ndC.encs L) i 0, cellD (ndC.encs L) i 1, cellD (ndC.encs L) i 2, cellD (ndC.encs L) i 3, cellD (ndC.encs L) i 4, cellD (ndC.encs L) i 5, cellD (ndC.encs L) i 6, cellD (ndC.encs L) i 7, cellD (ndC.encs L) i 8, cellD (ndC.encs L) i 9, cellD (ndC.encs L) i 10, cellD (ndC.encs L) i 11, cellD (ndC.encs L) i 12, D.int .i64 v, cellD (ndC.encs L) i 14, cellD (ndC.encs L) i 15] = _
  simp only [Cod.encs_cell h]; simp [Cod.encs, List.map_set, ndC, Nd.nx]
theorem ndC_n2 (h : i < L.length) (v : Int) : setRow 16 (ndC.encs L) i 14 [D.int .i64 v] = ndC.encs (L.set i (L[i].nx 2 v)) := by
  show (ndC.encs L).set i [cellD (ndC.encs L) i 0, cellD (ndC.encs L) i 1, cellD (ndC.encs L) i 2, cellD (ndC.encs L) i 3, cellD (ndC.encs L) i 4, cellD (ndC.encs L) i 5, cellD (ndC.encs L) i 6, cellD (ndC.encs L) i 7, cellD (ndC.encs L) i 8, cellD (ndC.encs L) i 9, cellD (ndC.encs L) i 10, cellD (ndC.encs L) i 11, cellD (ndC.encs L) i 12, cellD (ndC.encs L) i 13, D.int .i64 v, cellD (ndC.encs L) i 15] = _
  simp only [Cod.encs_cell h]; simp [Cod.encs, List.map_set, ndC, Nd.nx]
theorem ndC_n3 (h : i < L.length) (v : Int) : setRow 16 (ndC.encs L) i 15 [D.int .i64 v] = ndC.encs (L.set i (L[i].nx 3 v)) := by
  show (ndC.encs L).set i [cellD (ndC.encs L) i 0, cellD (ndC.encs L) i 1, cellD (ndC.encs L) i 2, cellD (ndC.encs L) i 3, cellD (ndC.encs L) i 4, cellD (ndC.encs L) i 5, cellD (ndC.encs L) i 6, cellD (ndC.encs L) i 7, cellD (ndC.encs L) i 8, cellD (ndC.encs L) i 9, cellD (ndC.encs L) i 10, cellD (ndC.encs L) i 11, cellD (ndC.encs L) i 12, cellD (ndC.encs L) i 13, cellD (ndC.encs L) i 14, D.int .i64 v] = _
  simp only [Cod.encs_cell h]; simp [Cod.encs, List.map_set, ndC, Nd.nx]
theorem ndC_nx (h : i < L.length) {d : Nat} (hd : d < 4) (v : Int) : setRow 16 (ndC.encs L) i (12 + d) [D.int .i64 v] = ndC.encs (L.set i (L[i].nx (d : Int) v)) := by
  match d, hd with
  | 0, _ => exact ndC_n0 h v
  | 1, _ => exact ndC_n1 h v
  | 2, _ => exact ndC_n2 h v
  | 3, _ => exact ndC_n3 h v
  | d + 4, h => omega
theorem ndC_wd (h : i < L.length) (v : Int) : setRow 16 (ndC.encs L) i 9 [D.int .i64 v] = ndC.encs (L.set i { L[i] with words := v }) := by
  show (ndC.encs L).set i [cellD (ndC.encs L) i 0, cellD (ndC.encs L) i 1, cellD (ndC.encs L) i 2, cellD (ndC.encs L) i 3, cellD (ndC.encs L) i 4, cellD (ndC.encs L) i 5, cellD (ndC.encs L) i 6, cellD (ndC.encs L) i 7, cellD (ndC.encs L) i 8, D.int .i64 v, cellD (ndC.encs L) i 10, cellD (ndC.encs L) i 11, cellD (ndC.encs L) i 12, cellD (ndC.encs L) i 13, cellD (ndC.encs L) i 14, cellD (ndC.encs L) i 15] = _
  simp only [Cod.encs_cell h]; simp [Cod.encs, List.map_set, ndC]
end
namespace Sp
/-- A list whose first k and last k are swapped. -/
def swp {α : Type} (l : List α) (k : Nat) : List α := l.reverse.take k ++ (l.drop k).take (l.length - 2 * k) ++ l.reverse.drop (l.length - k)
theorem swp_len {α : Type} (l : List α) {k : Nat} (h : 2 * k ≤ l.length) : (swp l k).length = l.length := by
  simp [swp]; omega
theorem swp_get {α : Type} (l : List α) {k i : Nat} (h : 2 * k ≤ l.length) (hi : i < l.length) : (swp l k)[i]? = if i < k ∨ l.length - k ≤ i then l[l.length - 1 - i]? else l[i]? := by
  unfold swp
  by_cases h1 : i < k
  · rw [if_pos (.inl h1), List.append_assoc, List.getElem?_append_left (by simp; omega), List.getElem?_take_of_lt h1, List.getElem?_reverse hi]
  · by_cases h2 : l.length - k ≤ i
    · rw [if_pos (.inr h2), List.getElem?_append_right (by simp; omega)]
      simp only [List.length_append, List.length_take, List.length_reverse, List.length_drop]
      rw [List.getElem?_drop, show l.length - k + (i - (min k l.length + min (l.length - 2 * k) (l.length - k))) = i by omega, List.getElem?_reverse hi]
    · rw [if_neg (by omega), List.getElem?_append_left (by simp; omega), List.getElem?_append_right (by simp; omega)]
      simp only [List.length_take, List.length_reverse]
      rw [List.getElem?_take_of_lt (by omega), List.getElem?_drop, show k + (i - min k l.length) = i by omega]
theorem swp_zero {α : Type} (l : List α) : swp l 0 = l := by
  apply List.ext_getElem?
  intro i
  by_cases hi : i < l.length
  · rw [swp_get l (by omega) hi, if_neg (by omega)]
  · rw [List.getElem?_eq_none (by rw [swp_len l (by omega)]; omega), List.getElem?_eq_none (by omega)]
theorem swp_end {α : Type} (l : List α) {k : Nat} (h : 2 * k ≤ l.length) (h2 : l.length ≤ 2 * k + 1) : swp l k = l.reverse := by
  apply List.ext_getElem?
  intro i
  by_cases hi : i < l.length
  · rw [swp_get l h hi, List.getElem?_reverse hi]
    split
    · rfl
    · rw [show l.length - 1 - i = i by omega]
  · rw [List.getElem?_eq_none (by rw [swp_len l h]; omega), List.getElem?_eq_none (by simp; omega)]
theorem swp_succ {α : Type} (l : List α) {k : Nat} (h : 2 * k + 2 ≤ l.length) {a b : α} (ha : (swp l k)[k]? = some a) (hb : (swp l k)[l.length - 1 - k]? = some b) : ((swp l k).set k b).set (l.length - 1 - k) a = swp l (k + 1) := by
  rw [swp_get l (by omega) (by omega), if_neg (by omega)] at ha
  rw [swp_get l (by omega) (by omega), if_neg (by omega)] at hb
  have hL := swp_len l (k := k) (by omega)
  apply List.ext_getElem?
  intro i
  by_cases hi : i < l.length
  · rw [swp_get l (by omega) hi]
    by_cases h1 : l.length - 1 - k = i
    · subst h1
      rw [List.getElem?_set_self (by rw [List.length_set]; omega), if_pos (by omega), ← ha]
      congr 1; omega
    · rw [List.getElem?_set_ne h1]
      by_cases h2 : k = i
      · subst h2
        rw [List.getElem?_set_self (by omega), if_pos (by omega), ← hb]
      · rw [List.getElem?_set_ne h2, swp_get l (by omega) hi]
        by_cases h3 : i < k ∨ l.length - k ≤ i
        · rw [if_pos h3, if_pos (by omega)]
        · rw [if_neg h3, if_neg (by omega)]
  · rw [List.getElem?_eq_none (by rw [List.length_set, List.length_set]; omega), List.getElem?_eq_none (by rw [swp_len l (by omega)]; omega)]
end Sp
end Go.Proofs.EV
set_option linter.unusedVariables false
set_option linter.unusedSimpArgs false
/-! What is kept of a search: places by states, words by links; in plain Lean. -/
set_option linter.unusedSectionVars false
namespace Go.Proofs.EV
open Go Go.RowKit
variable [Dr]
namespace Sp
/-- The roll by which a state is reached, 0 for the first one. -/
def Cr.rl (a : Cr) : UInt8 := bif decide (a.bef < 0) then 0 else dirL a.dir
/-- Places by states. -/
def plM : List Sta → Nat → List (List D × List D)
  | [], _ => []
  | u :: l, i => (stC.enc u, [.int .i64 (i : Int)]) :: plM l (i + 1)
theorem dec_comm (a b : Int) : (a == b) = decide (b = a) := by
  rw [Bool.eq_iff_iff, beq_iff_eq, decide_eq_true_eq]
  exact eq_comm
theorem keyEq_st (t u : Sta) : keyEq (stC.enc t) (stC.enc u) = some (eqSt u t) := by
  show keyEq [.int .i64 t.x, .int .i64 t.y, .int .i64 t.d.t, .int .i64 t.d.n, .int .i64 t.d.e, .int .i64 t.d.s, .int .i64 t.d.w, .int .i64 t.d.b] [.int .i64 u.x, .int .i64 u.y, .int .i64 u.d.t, .int .i64 u.d.n, .int .i64 u.d.e, .int .i64 u.d.s, .int .i64 u.d.w, .int .i64 u.d.b] = _
  simp only [keyEq, eqD, if_true, Option.bind_some, dec_comm, Bool.and_true, eqSt]
theorem mpGet_pl (t : Sta) : ∀ (l : List Sta) (i : Nat), mpGet (stC.enc t) (plM l i) = some ((posOf t l).map fun j => [D.int .i64 ((i + j : Nat) : Int)])
  | [], _ => rfl
  | u :: l, i => by
    rw [plM, mpGet, keyEq_st, Option.bind_some, posOf]
    cases eqSt u t with
    | true => rfl
    | false =>
      rw [cond_false, cond_false, mpGet_pl t l (i + 1), Option.map_map]
      congr 1
      cases posOf t l with
      | none => rfl
      | some j =>
        show some [D.int .i64 ((i + 1 + j : Nat) : Int)] = some [D.int .i64 ((i + (j + 1) : Nat) : Int)]
        rw [show i + 1 + j = i + (j + 1) by omega]
theorem mpSet_pl (t : Sta) : ∀ (l : List Sta) (i : Nat), posOf t l = none → mpSet (stC.enc t) [D.int .i64 ((i + l.length : Nat) : Int)] (plM l i) = some (plM (l ++ [t]) i)
  | [], _, _ => rfl
  | u :: l, i, h => by
    rw [posOf] at h
    cases he : eqSt u t with
    | true => rw [he] at h; cases h
    | false =>
      rw [he, cond_false, Option.map_eq_none_iff] at h
      rw [plM, mpSet, keyEq_st, he, Option.bind_some, cond_false, List.length_cons, show i + (l.length + 1) = i + 1 + l.length by omega, mpSet_pl t l (i + 1) h]
      rfl
/-- A state rolled, for those who ask. -/
def rollO (s : Sta) (k : Int) : Option Sta := some (rollK s k)
def mvO (s : Sta) (c : Int) : Option Sta := some (mv s c)
theorem mv_rollK (s : Sta) (c : Int) : mv s c = rollK s (dix c) := by
  unfold mv rollK
  rw [roll_dix]
theorem mvO_dir (s : Sta) {d : Nat} (hd : d < 4) : mvO s (byteAt (ByteArray.mk #[110, 101, 115, 119]) d) = some (rollK s (d : Int)) := by
  unfold mvO
  rw [mv_rollK]
  match d, hd with
  | 0, _ => rfl
  | 1, _ => rfl
  | 2, _ => rfl
  | 3, _ => rfl
  | d + 4, h => omega
theorem byte_dir {d : Nat} (hd : d < 4) : byteAt (ByteArray.mk #[110, 101, 115, 119]) d = ((dirL (d : Int)).toNat : Int) := by
  match d, hd with
  | 0, _ => rfl
  | 1, _ => rfl
  | 2, _ => rfl
  | 3, _ => rfl
  | d + 4, h => omega
/-- What is done when a rolled state's place is known. -/
def visT (k : Nat) (dir : Int) (N : List Nd) (j : Nat) (hk : k < N.length) (hj : j < N.length) : List Nd :=
  bif decide (N[j].far = N[k].far + 1) then (N.set j { N[j] with words := IntKind.i64.wrap (N[j].words + N[k].words) }).set k (((N.set j { N[j] with words := IntKind.i64.wrap (N[j].words + N[k].words) })[k]'(by rw [List.length_set]; exact hk)).nx dir (j : Int)) else N.set k (N[k].nx dir (j : Int))
theorem map_set_u {N : List Nd} {k : Nat} (hk : k < N.length) {b : Nd} (hb : b.u = N[k].u) : (N.set k b).map Nd.u = N.map Nd.u := by
  rw [List.map_set, hb]
  apply List.ext_getElem (by simp)
  intro i h1 h2
  rw [List.getElem_set]
  split
  · subst_vars
    rw [List.getElem_map]
  · rfl
theorem visT_u (k : Nat) (dir : Int) (N : List Nd) (j : Nat) (hk : k < N.length) (hj : j < N.length) : (visT k dir N j hk hj).map Nd.u = N.map Nd.u := by
  unfold visT
  cases decide (N[j].far = N[k].far + 1)
  · rw [cond_false]
    exact map_set_u hk (Nd.nx_u ..)
  · rw [cond_true, map_set_u (by rw [List.length_set]; exact hk) (Nd.nx_u ..)]
    exact map_set_u hj rfl
/-- One roll, told by the list whose link is cleared. -/
theorem visit_out {p : Int → Int → Bool} {k : Nat} {dir : Int} {N N0 : List Nd} (hk : k < N.length) (h0 : N0 = N.set k (N[k].nx dir (-1))) (hk0 : k < N0.length) (hp : p (rollK N0[k].u dir).x (rollK N0[k].u dir).y = false) : visit p k dir N = N0 := by
  have e : N0[k].u = N[k].u := by
    subst h0
    rw [List.getElem_set_self, Nd.nx_u]
  rw [e] at hp
  unfold visit
  rw [List.getElem?_eq_getElem hk]
  show (bif p (rollK N[k].u dir).x (rollK N[k].u dir).y then _ else _) = _
  rw [hp, cond_false, h0]
theorem visit_met {p : Int → Int → Bool} {k : Nat} {dir : Int} {N N0 : List Nd} (hk : k < N.length) (h0 : N0 = N.set k (N[k].nx dir (-1))) (hk0 : k < N0.length) (hp : p (rollK N0[k].u dir).x (rollK N0[k].u dir).y = true) {j : Nat} (hj : posOf (rollK N0[k].u dir) (N0.map Nd.u) = some j) (hjl : j < N0.length) : visit p k dir N = visT k dir N0 j hk0 hjl := by
  have e : N0[k] = N[k].nx dir (-1) := by
    subst h0
    rw [List.getElem_set_self]
  have eu : N0[k].u = N[k].u := by rw [e, Nd.nx_u]
  have ef : N0[k].far = N[k].far := by rw [e, Nd.nx_far]
  have ew : N0[k].words = N[k].words := by rw [e, nx_words]
  rw [eu] at hp hj
  unfold visit visT
  rw [List.getElem?_eq_getElem hk]
  show (bif p (rollK N[k].u dir).x (rollK N[k].u dir).y then _ else _) = _
  rw [hp, cond_true]
  simp only [← h0, hj, Option.isSome_some, cond_true, Option.getD_some]
  rw [List.getElem?_eq_getElem hjl]
  simp only [ef, ew]
  cases decide (N0[j].far = N[k].far + 1)
  · simp only [cond_false]
    rw [List.getElem?_eq_getElem hk0]
  · simp only [cond_true]
    rw [List.getElem?_eq_getElem (by rw [List.length_set]; exact hk0)]
theorem visit_new {p : Int → Int → Bool} {k : Nat} {dir : Int} {N N0 N1 : List Nd} (hk : k < N.length) (h0 : N0 = N.set k (N[k].nx dir (-1))) (hk0 : k < N0.length) (hp : p (rollK N0[k].u dir).x (rollK N0[k].u dir).y = true) (hj : posOf (rollK N0[k].u dir) (N0.map Nd.u) = none) (h1 : N1 = N0 ++ [⟨rollK N0[k].u dir, N0[k].far + 1, 0, (k : Int), dir, 0, 0, 0, 0⟩]) (hk1 : k < N1.length) (hjl : N0.length < N1.length) : visit p k dir N = visT k dir N1 N0.length hk1 hjl := by
  have e : N0[k] = N[k].nx dir (-1) := by
    subst h0
    rw [List.getElem_set_self]
  have e1 : N1[k] = N0[k] := by
    subst h1
    rw [List.getElem_append_left hk0]
  have eu : N0[k].u = N[k].u := by rw [e, Nd.nx_u]
  have ef : N0[k].far = N[k].far := by rw [e, Nd.nx_far]
  have ew : N0[k].words = N[k].words := by rw [e, nx_words]
  rw [eu, ef] at h1
  rw [eu] at hp hj
  unfold visit visT
  rw [List.getElem?_eq_getElem hk]
  show (bif p (rollK N[k].u dir).x (rollK N[k].u dir).y then _ else _) = _
  rw [hp, cond_true]
  simp only [← h0, hj, Option.isSome_none, cond_false, Option.getD_none, ← h1]
  rw [List.getElem?_eq_getElem hjl]
  simp only [e1, ef, ew]
  cases decide (N1[N0.length].far = N[k].far + 1)
  · simp only [cond_false]
    rw [List.getElem?_eq_getElem hk1]
    simp only [e1]
  · simp only [cond_true]
    rw [List.getElem?_eq_getElem (by rw [List.length_set]; exact hk1)]
/-- The rolls back to the first state. -/
def wrev (F : List Int) (R : List UInt8) : Nat → Int → List UInt8
  | 0, _ => []
  | f + 1, k => bif decide (0 < k) then R.getD k.toNat 0 :: wrev F R f (F.getD k.toNat 0) else []
/-- All links lead back. -/
def lnkB (F : List Int) : Bool := (List.range F.length).all fun i => decide (i = 0) || (decide (0 ≤ F.getD i 0) && decide (F.getD i 0 < (i : Int)))
theorem lnkB_out {F : List Int} (h : lnkB F = true) {i : Nat} (hi : i < F.length) (h0 : 0 < i) : 0 ≤ F.getD i 0 ∧ F.getD i 0 < (i : Int) := by
  unfold lnkB at h
  have := List.all_eq_true.1 h i (List.mem_range.2 hi)
  simp only [Bool.or_eq_true, decide_eq_true_eq, Bool.and_eq_true] at this
  omega
theorem wrev_len {F : List Int} (h : lnkB F = true) (R : List UInt8) : ∀ (f : Nat) (k : Int), 0 ≤ k → k < F.length → ((wrev F R f k).length : Int) ≤ k
  | 0, k, h0, _ => by
    show ((([] : List UInt8).length : Nat) : Int) ≤ k
    simpa using h0
  | f + 1, k, h0, hk => by
    rw [wrev]
    by_cases hp : 0 < k
    · have := lnkB_out h (i := k.toNat) (by omega) (by omega)
      have ih := wrev_len h R f (F.getD k.toNat 0) this.1 (by omega)
      simp only [hp, decide_true, cond_true, List.length_cons]
      omega
    · simp only [hp, decide_false, cond_false, List.length_nil]
      omega
theorem wrev_fuel {F : List Int} (h : lnkB F = true) (R : List UInt8) : ∀ (f g : Nat) (k : Int), 0 ≤ k → k < F.length → k < f → k < g → wrev F R f k = wrev F R g k
  | 0, _, k, h0, _, hf, _ => by omega
  | _ + 1, 0, k, h0, _, _, hg => by omega
  | f + 1, g + 1, k, h0, hk, hf, hg => by
    rw [wrev, wrev]
    by_cases hp : 0 < k
    · have := lnkB_out h (i := k.toNat) (by omega) (by omega)
      rw [wrev_fuel h R f g (F.getD k.toNat 0) this.1 (by omega) (by omega) (by omega)]
    · simp only [hp, decide_false, cond_false]
def wordF (F : List Int) (R : List UInt8) (k : Int) : List UInt8 := (wrev F R F.length k).reverse
def w60 (F : List Int) (R : List UInt8) (k : Int) : Option (List UInt8) := bif decide ((wordF F R k).length ≤ 60) then some (wordF F R k) else none
def mkO : Option (List UInt8) → ByteArray
  | some l => mkB l
  | none => ⟨#[]⟩
def isSO : Option (List UInt8) → Bool
  | some _ => true
  | none => false
/-- What links and rolls of a search tell. -/
theorem lnk_ord {k : Nat} {C : List Cr} (ho : COrd k C) : lnkB (C.map Cr.bef) = true := by
  unfold lnkB
  refine List.all_eq_true.2 fun i hi => ?_
  have hi := List.mem_range.1 hi
  rw [List.length_map] at hi
  by_cases h0 : 0 < i
  · obtain ⟨j, b, h1, h2, _⟩ := ho.link i C[i] (List.getElem?_eq_getElem hi) h0
    rw [List.getD_eq_getElem?_getD, List.getElem?_map, List.getElem?_eq_getElem hi]
    simp only [Option.map_some, Option.getD_some, Bool.or_eq_true, decide_eq_true_eq, Bool.and_eq_true]
    omega
  · obtain rfl : i = 0 := by omega
    rfl
theorem wrev_word {k : Nat} {C : List Cr} (ho : COrd k C) : ∀ (f i : Nat) (a : Cr), C[i]? = some a → i < f → wrev (C.map Cr.bef) (C.map Cr.rl) f (i : Int) = (wordN C f i).reverse
  | 0, _, _, _, h => by omega
  | f + 1, i, a, hi, hf => by
    rw [wrev, wordN, hi]
    by_cases h0 : 0 < i
    · obtain ⟨j, b, h1, h2, h3, h4, _⟩ := ho.link i a hi h0
      have hp : (0 : Int) < (i : Int) := by omega
      have hn : ¬ a.bef < 0 := by omega
      have e : a.bef.toNat = j := by omega
      have eR : (C.map Cr.rl).getD i 0 = dirL a.dir := by
        rw [List.getD_eq_getElem?_getD, List.getElem?_map, hi]
        show a.rl = _
        unfold Cr.rl
        rw [decide_eq_false hn, cond_false]
      have eF : (C.map Cr.bef).getD i 0 = (j : Int) := by
        rw [List.getD_eq_getElem?_getD, List.getElem?_map, hi]
        exact h1
      simp only [hp, hn, e, decide_true, decide_false, cond_true, cond_false, Int.toNat_natCast, eR, eF]
      rw [wrev_word ho f j b h3 (by omega), List.reverse_append]
      rfl
    · obtain rfl : i = 0 := by omega
      obtain ⟨c, h1, h2, h3⟩ := ho.first
      obtain rfl : c = a := by rw [hi] at h1; exact (Option.some.inj h1).symm
      have hn : c.bef < 0 := by omega
      simp only [hn, decide_true, cond_true]
      rfl
theorem wordF_word {k : Nat} {C : List Cr} (ho : COrd k C) {i : Nat} {a : Cr} (hi : C[i]? = some a) : wordF (C.map Cr.bef) (C.map Cr.rl) (i : Int) = wordN C (i + 1) i := by
  have hl := get_lt hi
  unfold wordF
  rw [List.length_map, wrev_word ho C.length i a hi hl, List.reverse_reverse, wordN_fuel ho C.length (i + 1) i a hi hl (by omega)]
/-- The first state that is such: its word, if it is not too long. -/
theorem solO_w60 (is : Sta → Bool) {k : Nat} {C : List Cr} (ho : COrd k C) : solO is C = (firstC is C 0).bind fun i => w60 (C.map Cr.bef) (C.map Cr.rl) (i : Int) := by
  rw [solO_len is ho]
  cases hk : firstC is C 0 with
  | none => rfl
  | some i =>
    obtain ⟨a, _, h2, _, _⟩ := firstC_out is C 0 i hk
    rw [Nat.sub_zero] at h2
    simp only [Option.bind_some]
    unfold w60
    rw [wordF_word ho h2]
    congr 1
    rw [Bool.eq_iff_iff, decide_eq_true_eq, decide_eq_true_eq]
    omega
end Sp
end Go.Proofs.EV
set_option linter.unusedVariables false
set_option linter.unusedSimpArgs false
/-! Solutions; in plain Lean. -/
set_option linter.unusedSectionVars false
namespace Go.Proofs.EV
open Go Go.RowKit
variable [Dr]
namespace Sp
/-- Links lead back to the first one, rolls are directions. -/
def okN (N : List Nd) : Bool := lnkB ((N.map Nd.core).map Cr.bef) && (decide (((N.map Nd.core).map Cr.bef).getD 0 (-1) < 0) && (N.all fun a => inR a.dir 0 3))
/-- The word to the first state at a place with a top that is not too far. -/
def frsN (x y top : Int) (C : List Cr) : Option (List UInt8) := (firstM (doneS x y top) 60 C 0).map fun (k : Nat) => wordF (C.map Cr.bef) (C.map Cr.rl) (k : Int)
def usC (C : List Cr) : List Sta := C.map Cr.u
def besC (C : List Cr) : List Int := C.map Cr.bef
def rlsC (C : List Cr) : List UInt8 := C.map Cr.rl
def fasC (C : List Cr) : List Int := C.map Cr.far
def wdN (N : List Nd) (k : Int) : ByteArray := mkB (wordF ((N.map Nd.core).map Cr.bef) ((N.map Nd.core).map Cr.rl) k)
def frN (x y top : Int) (N : List Nd) : Option (List UInt8) := frsN x y top (N.map Nd.core)
def rev8 (l : List UInt8) : List UInt8 := l.reverse
def plU (l : List Sta) : List (List D × List D) := plM l 0
def firstU (x y top : Int) (l : List Sta) (i : Nat) : Option Nat := firstAt x y top l i
def frsU (x y top : Int) (l : List Sta) (F : List Int) (R : List UInt8) : Option (List UInt8) := (firstAt x y top l 0).bind fun (k : Nat) => w60 F R (k : Int)
/-- The first state that solves. -/
def puK (q : ByteArray) (s : Sta) (px py pt : Int) : Option Nat := bif pzOk q s px py pt then firstC (doneS px py pt) (wyC (isFl (rws q)) s) 0 else none
def farK (C : List Cr) : Option Nat → Int
  | some k => ((C[k]?).map Cr.far).getD 0
  | none => 0
def puL (q : ByteArray) (s : Sta) (px py pt : Int) : List Nd := bif isN (puK q s px py pt) then wyN (isFl (rws q)) s else []
def puF (q : ByteArray) (s : Sta) (px py pt : Int) : Int := farK (wyC (isFl (rws q)) s) (puK q s px py pt)
def puB (q : ByteArray) (s : Sta) (px py pt : Int) : Bool := isN (puK q s px py pt) && decide (puF q s px py pt ≤ 60)
/-- The solution. -/
def solF (q : ByteArray) (s : Sta) (px py pt : Int) : Option (List UInt8) := bif pzOk q s px py pt then solO (doneS px py pt) (wyC (isFl (rws q)) s) else none
def lenO : Option (List UInt8) → Int
  | some l => (l.length : Int)
  | none => 0
theorem solF_puB (q : ByteArray) (s : Sta) (px py pt : Int) : isSO (solF q s px py pt) = puB q s px py pt := by
  unfold solF puB puF puK solO
  cases pzOk q s px py pt with
  | false => rfl
  | true =>
    simp only [cond_true]
    cases hk : firstC (doneS px py pt) (wyC (isFl (rws q)) s) 0 with
    | none => rfl
    | some k =>
      obtain ⟨a, _, h2, _, _⟩ := firstC_out _ _ 0 k hk
      rw [Nat.sub_zero] at h2
      simp only [Option.bind_some, farK, h2, Option.map_some, Option.getD_some]
      cases decide (a.far ≤ 60) <;> rfl
theorem solF_len (q : ByteArray) (s : Sta) (px py pt : Int) (h : puB q s px py pt = true) : lenO (solF q s px py pt) = puF q s px py pt := by
  obtain ⟨k', ho⟩ := wyC_ord (isFl (rws q)) s
  unfold puB puF puK at h
  unfold solF puF puK
  cases hz : pzOk q s px py pt with
  | false => rw [hz] at h; cases h
  | true =>
    rw [hz] at h
    simp only [cond_true] at h ⊢
    unfold solO
    cases hk : firstC (doneS px py pt) (wyC (isFl (rws q)) s) 0 with
    | none => rw [hk] at h; cases h
    | some k =>
      rw [hk] at h
      obtain ⟨a, _, h2, _, _⟩ := firstC_out _ _ 0 k hk
      rw [Nat.sub_zero] at h2
      simp only [Option.bind_some, farK, h2, Option.map_some, Option.getD_some, Bool.and_eq_true] at h ⊢
      rw [h.2, cond_true]
      exact wordN_len ho (k + 1) k a h2 (by omega)
theorem solF_frs (q : ByteArray) (s : Sta) (px py pt : Int) (h : pzOk q s px py pt = true) : frsN px py pt (wyC (isFl (rws q)) s) = solF q s px py pt := by
  obtain ⟨k', ho⟩ := wyC_ord (isFl (rws q)) s
  unfold solF frsN
  rw [h, cond_true, solO_M _ ho]
  have : ∀ k, firstM (doneS px py pt) 60 (wyC (isFl (rws q)) s) 0 = some k → ∃ a, (wyC (isFl (rws q)) s)[k]? = some a := by
    intro k hk
    rw [firstM_eq _ _ _ _ ho.mono] at hk
    cases hf : firstC (doneS px py pt) (wyC (isFl (rws q)) s) 0 with
    | none => rw [hf] at hk; cases hk
    | some j =>
      obtain ⟨a, _, h2, _, _⟩ := firstC_out _ _ 0 j hf
      rw [hf, Option.bind_some, h2] at hk
      rw [Nat.sub_zero] at h2
      simp only at hk
      cases hd : decide (a.far ≤ 60) with
      | false => rw [hd] at hk; cases hk
      | true =>
        rw [hd] at hk
        cases hk
        exact ⟨a, h2⟩
  cases hk : firstM (doneS px py pt) 60 (wyC (isFl (rws q)) s) 0 with
  | none => rfl
  | some k =>
    obtain ⟨a, ha⟩ := this k hk
    simp only [Option.map_some]
    rw [wordF_word ho ha]
theorem okN_wy (p : Int → Int → Bool) (s : Sta) : okN (wyN p s) = true := by
  obtain ⟨k, ho⟩ := wyC_ord p s
  unfold okN
  rw [wy_core, lnk_ord ho, Bool.true_and, Bool.and_eq_true]
  obtain ⟨a, h1, h2, h3⟩ := ho.first
  refine ⟨?_, List.all_eq_true.2 fun b hb => ?_⟩
  · rw [List.getD_eq_getElem?_getD, List.getElem?_map, h1]
    simp only [Option.map_some, Option.getD_some, h3]
    rfl
  · obtain ⟨i, hi⟩ := List.mem_iff_getElem?.1 hb
    have hc : (wyC p s)[i]? = some b.core := by rw [← wy_core, List.getElem?_map, hi]; rfl
    by_cases h0 : 0 < i
    · obtain ⟨j, c, _, _, _, _, g1, g2⟩ := ho.link i b.core hc h0
      unfold inR
      rw [Bool.and_eq_true, decide_eq_true_eq, decide_eq_true_eq]
      exact ⟨g1, g2⟩
    · obtain rfl : i = 0 := by omega
      obtain ⟨m, hm⟩ := bfC_pre p BIG 0 [cr0 s]
      have : (wyC p s)[0]? = some (cr0 s) := by
        unfold wyC
        rw [hm]; rfl
      rw [this] at hc
      have hd : b.dir = 0 := by
        have := Option.some.inj hc
        show b.core.dir = 0
        rw [← this]; rfl
      rw [hd]; rfl
theorem firstAt_C (x y top : Int) : ∀ (C : List Cr) (i : Nat), firstAt x y top (C.map Cr.u) i = firstC (doneS x y top) C i
  | [], _ => rfl
  | a :: C, i => by
    rw [List.map_cons, firstAt, firstC, firstAt_C x y top C (i + 1)]
theorem frsU_sol {k : Nat} {C : List Cr} (ho : COrd k C) (x y top : Int) : frsU x y top (usC C) (besC C) (rlsC C) = solO (doneS x y top) C := by
  unfold frsU usC besC rlsC
  rw [firstAt_C, solO_w60 _ ho]
theorem wyC_len {q : ByteArray} {s : Sta} (ho : okSt q s = true) : (wyC (isFl (rws q)) s).length < BIG := by
  have hb := (okSt_out ho).1
  obtain ⟨k1, k2, k3, k4⟩ := isBo_fine hb
  exact cinv_big k3.2 k2.2 (wyC_inv ho)
theorem wyN_len {q : ByteArray} {s : Sta} (ho : okSt q s = true) : (wyN (isFl (rws q)) s).length < BIG := by
  have := wyC_len ho
  rw [← wy_core, List.length_map] at this
  exact this
theorem puz_ok {q : ByteArray} {s : Sta} {px py pt : Int} (h : pzOk q s px py pt = true) : okSt q s = true ∧ isFl (rws q) px py = true ∧ inR pt 0 9 = true := by
  unfold pzOk at h
  simp only [Bool.and_eq_true] at h
  exact ⟨h.1, h.2.1, h.2.2⟩
end Sp
end Go.Proofs.EV
set_option linter.unusedVariables false
set_option linter.unusedSimpArgs false
/-! The hardest goal, in plain Lean. -/
set_option linter.unusedSectionVars false
namespace Go.Proofs.EV
open Go Go.RowKit
variable [Dr]
namespace Sp
/-- A goal: its row, its column, its top. -/
structure Gl where
  y : Int
  x : Int
  t : Int
def glOf (u : Sta) : Gl := ⟨u.y, u.x, u.d.t⟩
def eqG (a b : Gl) : Bool := decide (a.y = b.y) && (decide (a.x = b.x) && decide (a.t = b.t))
def ltG (y x t y' x' t' : Int) : Bool := bif decide (y = y') then (bif decide (x = x') then decide (t < t') else decide (x < x')) else decide (y < y')
def cmp3 (y x t y' x' t' : Int) : Int := bif decide (y = y') then (bif decide (x = x') then (bif decide (t < t') then -1 else bif decide (t = t') then 0 else 1) else bif decide (x < x') then -1 else 1) else bif decide (y < y') then -1 else 1
theorem cmp3_lt (y x t y' x' t' : Int) : decide (cmp3 y x t y' x' t' < 0) = ltG y x t y' x' t' := by
  unfold cmp3 ltG
  cases decide (y = y') with
  | false => cases decide (y < y') <;> rfl
  | true =>
    cases decide (x = x') with
    | false => cases decide (x < x') <;> rfl
    | true => cases decide (t < t') <;> cases decide (t = t') <;> rfl
def eqIL (a b : List Int) : Bool := decide (a = b)
def glL (g : Gl) : List Int := [g.y, g.x, g.t]
def hasG (g : Gl) (S : List Gl) : Bool := S.any fun x => eqG x g
/-- The best goal so far, and how far it is. -/
structure Hd where
  seen : List Gl
  best : Option Gl
  most : Int
def gO : Option Gl → Gl
  | some g => g
  | none => ⟨0, 0, 0⟩
def isG : Option Gl → Bool
  | some _ => true
  | none => false
def hdLt (g : Gl) (o : Option Gl) : Bool := ltG g.y g.x g.t (gO o).y (gO o).x (gO o).t
theorem eqIL_gl (a b : Gl) : eqIL (glL a) (glL b) = eqG a b := by
  unfold eqIL glL eqG
  rw [Bool.eq_iff_iff]
  simp only [Bool.and_eq_true, decide_eq_true_eq, List.cons.injEq, and_true]
def hdStep (h : Hd) (a : Cr) : Hd :=
  bif hasG (glOf a.u) h.seen then h else
    bif decide (a.far > h.most) || (decide (a.far = h.most) && hdLt (glOf a.u) h.best) then ⟨h.seen ++ [glOf a.u], some (glOf a.u), a.far⟩ else ⟨h.seen ++ [glOf a.u], h.best, h.most⟩
def hdAll (C : List Cr) : Hd := C.foldl hdStep ⟨[], none, -1⟩
/-- Slices of goals. -/
def glC : Cod Gl where
  enc g := [.sl 1 (intC.encs [g.y, g.x, g.t])]
  dec | [.sl 1 [[.int .i64 y], [.int .i64 x], [.int .i64 t]]] => some ⟨y, x, t⟩
      | _ => none
  de _ := rfl
  ed e x h := by
    split at h
    · cases h; rfl
    · cases h
def mpG (S : List Gl) : List (List D × List D) := S.map fun g => ([.int .i64 g.y, .int .i64 g.x, .int .i64 g.t], [.bool true])
theorem mpGet_G (g : Gl) : ∀ S : List Gl, mpGet [.int .i64 g.y, .int .i64 g.x, .int .i64 g.t] (mpG S) = some (bif hasG g S then some [.bool true] else none)
  | [] => rfl
  | a :: S => by
    have ih := mpGet_G g S
    show mpGet _ (([D.int .i64 a.y, D.int .i64 a.x, D.int .i64 a.t], [D.bool true]) :: mpG S) = _
    rw [mpGet, ih]
    simp only [keyEq, eqD, if_true, Option.bind_some, dec_comm, Bool.and_true]
    unfold hasG
    rw [List.any_cons]
    unfold eqG
    cases decide (a.y = g.y) && (decide (a.x = g.x) && decide (a.t = g.t)) <;> rfl
theorem mpSet_G (g : Gl) : ∀ S : List Gl, hasG g S = false → mpSet [.int .i64 g.y, .int .i64 g.x, .int .i64 g.t] [.bool true] (mpG S) = some (mpG (S ++ [g]))
  | [], _ => rfl
  | a :: S, h => by
    unfold hasG at h
    rw [List.any_cons, Bool.or_eq_false_iff] at h
    have ih := mpSet_G g S h.2
    have h1 := h.1
    unfold eqG at h1
    show mpSet _ _ (([D.int .i64 a.y, D.int .i64 a.x, D.int .i64 a.t], [D.bool true]) :: mpG S) = _
    rw [mpSet, ih]
    simp only [keyEq, eqD, if_true, Option.bind_some, dec_comm, Bool.and_true, h1, cond_false]
    rfl
theorem hd_len : ∀ (C : List Cr) (h : Hd), (C.foldl hdStep h).seen.length ≤ h.seen.length + C.length
  | [], h => by simp
  | a :: C, h => by
    have ih := hd_len C (hdStep h a)
    have : (hdStep h a).seen.length ≤ h.seen.length + 1 := by
      unfold hdStep
      cases hasG (glOf a.u) h.seen
      · cases decide (a.far > h.most) || (decide (a.far = h.most) && hdLt (glOf a.u) h.best) <;> simp
      · simp
    rw [List.foldl_cons, List.length_cons]
    omega
theorem hd_best : ∀ (C : List Cr) (h : Hd), isG h.best = true → isG (C.foldl hdStep h).best = true
  | [], _, hb => hb
  | a :: C, h, hb => by
    rw [List.foldl_cons]
    refine hd_best C _ ?_
    unfold hdStep
    cases hasG (glOf a.u) h.seen
    · cases decide (a.far > h.most) || (decide (a.far = h.most) && hdLt (glOf a.u) h.best)
      · exact hb
      · rfl
    · exact hb
/-- Whether there is a hardest goal that is not too far. -/
def hdB (q : ByteArray) (s : Sta) : Bool := okSt q s && decide ((hdAll (wyC (isFl (rws q)) s)).most ≤ 60)
def hdG (q : ByteArray) (s : Sta) : Gl := gO (hdAll (wyC (isFl (rws q)) s)).best
def hdM (q : ByteArray) (s : Sta) : Int := (hdAll (wyC (isFl (rws q)) s)).most
theorem hdAll_some (p : Int → Int → Bool) (s : Sta) : isG (hdAll (wyC p s)).best = true := by
  obtain ⟨m, hm⟩ := bfC_pre p BIG 0 [cr0 s]
  unfold hdAll wyC
  rw [hm]
  refine hd_best m _ ?_
  rfl
end Sp
end Go.Proofs.EV
set_option linter.unusedVariables false
set_option linter.unusedSimpArgs false
/-! Boards with a wall less, in plain Lean. -/
set_option linter.unusedSectionVars false
namespace Go.Proofs.EV
open Go Go.RowKit
variable [Dr]
namespace Sp
/-- Rows with slashes behind. -/
def jR (r : List (List UInt8)) : List UInt8 := (r.map fun a => a ++ [47]).flatten
theorem jn_jR (a : List UInt8) : ∀ rs : List (List UInt8), jn (a :: rs) ++ [47] = jR (a :: rs) := by
  intro rs
  rw [jn_cons]
  induction rs generalizing a with
  | nil => simp [jR]
  | cons b rs ih =>
    have h := ih b
    have e : jR (a :: b :: rs) = a ++ [47] ++ jR (b :: rs) := by simp [jR]
    rw [e, ← h, List.map_cons, List.flatten_cons]
    simp
theorem jR_spl (l : List UInt8) : jR (spl 47 l) = l ++ [47] := by
  induction l with
  | nil => rfl
  | cons x l ih =>
    rw [spl]
    cases hx : x == 47 with
    | true =>
      have : x = 47 := by simpa using hx
      subst this
      simp only [cond_true]
      unfold jR at ih ⊢
      rw [List.map_cons, List.flatten_cons, ih]; rfl
    | false =>
      simp only [cond_false]
      have h2 : jR (spl 47 l) = ((spl 47 l).headD [] ++ [47]) ++ jR (spl 47 l).tail := by
        conv => lhs; rw [spl_cons 47 l]
        rfl
      rw [ih] at h2
      show (x :: (spl 47 l).headD []) ++ [47] ++ jR (spl 47 l).tail = _
      rw [List.cons_append, List.cons_append, ← h2]; rfl
theorem map_setR (r : List (List UInt8)) {x y : Nat} (c : UInt8) (hy : y < r.length) (hx : x < (r.getD y []).length) : (setR r x y c).map (fun a => a ++ [47]) = setR (r.map fun a => a ++ [47]) x y c := by
  unfold setR
  rw [List.map_set]
  congr 1
  rw [List.getD_eq_getElem?_getD, List.getElem?_eq_getElem hy] at hx
  rw [List.getD_eq_getElem?_getD, List.getElem?_eq_getElem hy, List.getD_eq_getElem?_getD, List.getElem?_map, List.getElem?_eq_getElem hy]
  simp only [Option.getD_some, Option.map_some] at hx ⊢
  rw [List.set_append_left _ _ hx]
theorem jR_set {r : List (List UInt8)} {w : Nat} (hr : ∀ a ∈ r, a.length = w) {x y : Nat} (c : UInt8) (hy : y < r.length) (hx : x < w) : jR (setR r x y c) = (jR r).set (y * (w + 1) + x) c := by
  unfold jR
  have hrow : (r.getD y []).length = w := by
    rw [List.getD_eq_getElem?_getD, List.getElem?_eq_getElem hy]
    exact hr _ (List.getElem_mem hy)
  rw [map_setR r c hy (by omega)]
  exact set_flat c _ (w + 1) (fun a ha => by
    obtain ⟨b, hb, rfl⟩ := List.mem_map.1 ha
    rw [List.length_append, hr b hb]; rfl) y x (by rw [List.length_map]; exact hy) (by omega)
theorem jR_len {w : Nat} : ∀ {r : List (List UInt8)}, (∀ a ∈ r, a.length = w) → (jR r).length = r.length * (w + 1)
  | [], _ => by simp [jR]
  | a :: r, h => by
    have ih := jR_len (fun b hb => h b (List.mem_cons_of_mem _ hb))
    have ha := h a List.mem_cons_self
    unfold jR at ih ⊢
    rw [List.map_cons, List.flatten_cons, List.length_append, ih, List.length_append, ha, List.length_singleton, List.length_cons, Nat.add_mul]
    omega
/-- A sign of a board written anew: in its text and in its rows. -/
theorem text_set {q : ByteArray} {w : Nat} (hr : ∀ a ∈ rws q, a.length = w) {x y : Nat} (c : UInt8) (hy : y < (rws q).length) (hx : x < w) : (bl q).set (y * (w + 1) + x) c = jn (setR (rws q) x y c) ∧ y * (w + 1) + x < (bl q).length := by
  have hl : (rws q).length * (w + 1) = (bl q).length + 1 := by
    rw [← jR_len hr]
    unfold rws
    rw [jR_spl, List.length_append, List.length_singleton]
  have hk : y * (w + 1) + x < (bl q).length := by
    have : (y + 1) * (w + 1) ≤ (rws q).length * (w + 1) := Nat.mul_le_mul_right _ hy
    rw [Nat.add_mul] at this
    omega
  refine ⟨?_, hk⟩
  have hne : ∃ a rs, setR (rws q) x y c = a :: rs := by
    cases hs : setR (rws q) x y c with
    | nil =>
      have := congrArg List.length hs
      unfold setR at this
      rw [List.length_set] at this
      simp at this
      rw [this] at hy
      simp at hy
    | cons a rs => exact ⟨a, rs, rfl⟩
  obtain ⟨a, rs, hs⟩ := hne
  have h1 := jn_jR a rs
  rw [← hs, jR_set hr c hy hx] at h1
  have h2 : jR (rws q) = bl q ++ [47] := jR_spl (bl q)
  rw [h2, List.set_append_left _ _ hk] at h1
  exact (List.append_cancel_right h1).symm
/-- A board with the i-th cell free. -/
def wallQ (q : ByteArray) (i : Nat) : ByteArray := mkB (jn (chunk (wOf (rws q)) (rws q).length ((rws q).flatten.set i 46)))
theorem wallQ_text {q : ByteArray} (hu : unif (rws q) = true) {x y : Nat} (hy : y < (rws q).length) (hx : x < wOf (rws q)) : mkB ((bl q).set (y * (wOf (rws q) + 1) + x) 46) = wallQ q (y * wOf (rws q) + x) ∧ y * (wOf (rws q) + 1) + x < (bl q).length := by
  have hr := unif_all hu
  obtain ⟨h1, h2⟩ := text_set hr 46 hy hx
  refine ⟨?_, h2⟩
  have hrw : Rw (wOf (rws q)) (rws q).length (rws q) := ⟨rfl, hr⟩
  have hrs := hrw.set x y 46
  unfold wallQ
  rw [h1, ← set_flat 46 (rws q) _ hr y x hy hx]
  have := chunk_flat (setR (rws q) x y 46) (wOf (rws q)) hrs.row
  rw [hrs.len] at this
  rw [this]
/-- Whether a wall is needless. -/
def wallB (q : ByteArray) (s : Sta) (px py pt n : Int) (i : Nat) : Bool := decide ((((rws q).flatten.getD i 0).toNat : Int) = 35) && (isSO (solF (wallQ q i) s px py pt) && decide (lenO (solF (wallQ q i) s px py pt) = n))
def wallL (q : ByteArray) (s : Sta) (px py pt n : Int) : Nat → Nat → List Int
  | 0, _ => []
  | d + 1, i => bif wallB q s px py pt n i then (i : Int) :: wallL q s px py pt n d (i + 1) else wallL q s px py pt n d (i + 1)
theorem wallL_add (q : ByteArray) (s : Sta) (px py pt n : Int) (b : Nat) : ∀ (a i : Nat), wallL q s px py pt n (a + b) i = wallL q s px py pt n a i ++ wallL q s px py pt n b (i + a)
  | 0, i => by rw [Nat.zero_add]; rfl
  | a + 1, i => by
    rw [show a + 1 + b = (a + b) + 1 by omega, wallL, wallL, wallL_add q s px py pt n b a (i + 1), show i + 1 + a = i + (a + 1) by omega]
    cases wallB q s px py pt n i <;> rfl
theorem wallL_len (q : ByteArray) (s : Sta) (px py pt n : Int) : ∀ (d i : Nat), (wallL q s px py pt n d i).length ≤ d
  | 0, _ => Nat.le_refl _
  | d + 1, i => by
    have := wallL_len q s px py pt n d (i + 1)
    rw [wallL]
    cases wallB q s px py pt n i
    · rw [cond_false]; omega
    · rw [cond_true, List.length_cons]; omega
/-- The needless walls. -/
def wallO (q : ByteArray) (s : Sta) (px py pt : Int) : List Int := bif isSO (solF q s px py pt) then wallL q s px py pt (lenO (solF q s px py pt)) (rws q).flatten.length 0 else []
theorem solF_ok {q : ByteArray} {s : Sta} {px py pt : Int} (h : isSO (solF q s px py pt) = true) : pzOk q s px py pt = true := by
  unfold solF at h
  cases hz : pzOk q s px py pt with
  | false => rw [hz] at h; cases h
  | true => rfl
theorem wallO_len (q : ByteArray) (s : Sta) (px py pt : Int) : (wallO q s px py pt).length ≤ 49 := by
  unfold wallO
  cases h : isSO (solF q s px py pt) with
  | false => simp
  | true =>
    have hb := (okSt_out (puz_ok (solF_ok h)).1).1
    obtain ⟨k1, k2, k3, k4⟩ := isBo_fine hb
    have := wallL_len q s px py pt (lenO (solF q s px py pt)) (rws q).flatten.length 0
    rw [cond_true]
    have h2 := flat_len k1
    omega
/-- Marks. -/
def marksZ (n : Nat) : List Int := (List.range n).map fun i => ((1 + i : Nat) : Int)
def isMarksZ (l : List Int) : Bool := decide (l = marksZ l.length)
theorem marksZ_len (n : Nat) : (marksZ n).length = n := by simp [marksZ]
theorem marksZ_succ (n : Nat) : marksZ (n + 1) = marksZ n ++ [((1 + n : Nat) : Int)] := by
  unfold marksZ
  rw [List.range_succ, List.map_append]; rfl
theorem marksZ_get {n i : Nat} (h : i < (marksZ n).length) : (marksZ n)[i] = ((1 + i : Nat) : Int) := by simp [marksZ]
theorem isMarksZ_marks (n : Nat) : isMarksZ (marksZ n) = true := by unfold isMarksZ; rw [marksZ_len, decide_eq_true_eq]
end Sp
end Go.Proofs.EV
set_option linter.unusedVariables false
set_option linter.unusedSimpArgs false
/-! How many rolls are left from each state; in plain Lean. -/
set_option linter.unusedSectionVars false
namespace Go.Proofs.EV
open Go Go.RowKit
variable [Dr]
namespace Sp
def kAt (t : Sta) (us : List Sta) : Nat := (posOf t us).getD 0
/-- From where a roll leads to where. -/
def lfRoll (p : Int → Int → Bool) (C : List Cr) (i : Nat) (dir : Int) (B : List (List Int)) : List (List Int) :=
  match C[i]? with
  | none => B
  | some a => bif p (rollK a.u dir).x (rollK a.u dir).y then B.set (kAt (rollK a.u dir) (C.map Cr.u)) (B.getD (kAt (rollK a.u dir) (C.map Cr.u)) [] ++ [(i : Int)]) else B
def lfF (p : Int → Int → Bool) (C : List Cr) (i : Nat) : Nat → Nat → List (List Int) → List (List Int)
  | 0, _, B => B
  | d + 1, dir, B => lfF p C i d (dir + 1) (lfRoll p C i (dir : Int) B)
structure Lf where
  out : List Int
  back : List (List Int)
  q : List Int
def lfStep (p : Int → Int → Bool) (is : Sta → Bool) (C : List Cr) (i : Nat) (a : Cr) (s : Lf) : Lf :=
  ⟨s.out.set i (bif is a.u then 0 else -1), lfF p C i 4 0 s.back, bif is a.u then s.q ++ [(i : Int)] else s.q⟩
def lfAll (p : Int → Int → Bool) (is : Sta → Bool) (C : List Cr) : List Cr → Nat → Lf → Lf
  | [], _, s => s
  | a :: l, i, s => lfAll p is C l (i + 1) (lfStep p is C i a s)
def lf0 (n : Nat) : Lf := ⟨List.replicate n 0, List.replicate n [], []⟩
/-- One more state from which a goal is reached. -/
def bqStep (k0 : Nat) (k : Int) (s : List Int × List Int) : List Int × List Int :=
  bif decide (s.1.getD k.toNat 0 < 0) then (s.1.set k.toNat (s.1.getD (s.2.getD k0 0).toNat 0 + 1), s.2 ++ [k]) else s
def bqIn (k0 : Nat) : List Int → List Int × List Int → List Int × List Int
  | [], s => s
  | k :: ks, s => bqIn k0 ks (bqStep k0 k s)
def bqAll (B : List (List Int)) : Nat → Nat → List Int × List Int → List Int × List Int
  | 0, _, s => s
  | f + 1, k0, s => bif decide (k0 < s.2.length) then bqAll B f (k0 + 1) (bqIn k0 (B.getD (s.2.getD k0 0).toNat []) s) else s
def negs (l : List Int) : Nat := l.countP fun x => decide (x < 0)
structure BQ (n : Nat) (s : List Int × List Int) : Prop where
  len : s.1.length = n
  qin : ∀ j ∈ s.2, 0 ≤ j ∧ j < n ∧ 0 ≤ s.1.getD j.toNat 0
  cnt : s.2.length + negs s.1 = n
  top : ∀ x ∈ s.1, x ≤ (s.2.length : Int)
theorem negs_set {l : List Int} {k : Nat} (hk : k < l.length) (h : l[k] < 0) {v : Int} (hv : 0 ≤ v) : negs (l.set k v) + 1 = negs l := by
  unfold negs
  rw [List.countP_set hk]
  have h1 : decide (l[k] < 0) = true := decide_eq_true h
  have h2 : decide (v < 0) = false := decide_eq_false (by omega)
  have h3 : 0 < l.countP fun x => decide (x < 0) := List.countP_pos_iff.2 ⟨l[k], List.getElem_mem hk, h1⟩
  simp only [h1, h2]
  simp
  omega
theorem BQ.step {n : Nat} {s : List Int × List Int} (h : BQ n s) {k0 : Nat} (h0 : k0 < s.2.length) {k : Int} (hk : 0 ≤ k ∧ k < n) : BQ n (bqStep k0 k s) ∧ k0 < (bqStep k0 k s).2.length := by
  unfold bqStep
  by_cases hn : s.1.getD k.toNat 0 < 0
  · rw [decide_eq_true hn, cond_true]
    have hkl : k.toNat < s.1.length := by rw [h.len]; omega
    have hq := h.qin (s.2.getD k0 0) (by rw [List.getD_eq_getElem?_getD, List.getElem?_eq_getElem h0]; exact List.getElem_mem h0)
    have hgk : s.1.getD k.toNat 0 = s.1[k.toNat] := by rw [List.getD_eq_getElem?_getD, List.getElem?_eq_getElem hkl]; rfl
    have htop : s.1.getD (s.2.getD k0 0).toNat 0 ≤ (s.2.length : Int) := by
      have hl : (s.2.getD k0 0).toNat < s.1.length := by rw [h.len]; omega
      have : s.1.getD (s.2.getD k0 0).toNat 0 = s.1[(s.2.getD k0 0).toNat] := by rw [List.getD_eq_getElem?_getD, List.getElem?_eq_getElem hl]; rfl
      rw [this]
      exact h.top _ (List.getElem_mem hl)
    have hng := negs_set hkl (by rw [← hgk]; exact hn) (v := s.1.getD (s.2.getD k0 0).toNat 0 + 1) (by omega)
    have hgs : ∀ j : Nat, (s.1.set k.toNat (s.1.getD (s.2.getD k0 0).toNat 0 + 1)).getD j 0 = if k.toNat = j then s.1.getD (s.2.getD k0 0).toNat 0 + 1 else s.1.getD j 0 := by
      intro j
      rw [List.getD_eq_getElem?_getD, List.getElem?_set]
      by_cases hj : k.toNat = j
      · subst hj
        rw [if_pos rfl, if_pos hkl, if_pos rfl]; rfl
      · rw [if_neg hj, if_neg hj, ← List.getD_eq_getElem?_getD]
    refine ⟨⟨?_, fun j hj => ?_, ?_, fun x hx => ?_⟩, ?_⟩
    · show (s.1.set _ _).length = n
      rw [List.length_set, h.len]
    · show 0 ≤ j ∧ j < n ∧ 0 ≤ (s.1.set _ _).getD j.toNat 0
      rw [hgs]
      rcases List.mem_append.1 hj with hj | hj
      · obtain ⟨a, b, c⟩ := h.qin j hj
        refine ⟨a, b, ?_⟩
        split <;> omega
      · rw [List.mem_singleton.1 hj]
        refine ⟨hk.1, hk.2, ?_⟩
        rw [if_pos rfl]; omega
    · show (s.2 ++ [k]).length + negs (s.1.set _ _) = n
      rw [List.length_append, List.length_singleton]
      have := h.cnt
      omega
    · show x ≤ (((s.2 ++ [k]).length : Nat) : Int)
      rw [List.length_append, List.length_singleton]
      rcases List.mem_or_eq_of_mem_set hx with hx | hx
      · have := h.top x hx
        omega
      · rw [hx]
        omega
    · show k0 < (s.2 ++ [k]).length
      rw [List.length_append]; omega
  · rw [decide_eq_false hn, cond_false]
    exact ⟨h, h0⟩
theorem BQ.inn {n : Nat} {k0 : Nat} : ∀ (ks : List Int) {s : List Int × List Int}, BQ n s → k0 < s.2.length → (∀ k ∈ ks, 0 ≤ k ∧ k < (n : Int)) → BQ n (bqIn k0 ks s) ∧ k0 < (bqIn k0 ks s).2.length
  | [], s, h, h0, _ => ⟨h, h0⟩
  | k :: ks, s, h, h0, hk => by
    obtain ⟨h1, h2⟩ := h.step h0 (hk k List.mem_cons_self)
    exact BQ.inn ks h1 h2 (fun x hx => hk x (List.mem_cons_of_mem _ hx))
theorem BQ.qlen {n : Nat} {s : List Int × List Int} (h : BQ n s) : s.2.length ≤ n := by
  have := h.cnt
  omega
/-- What is kept of places: in range, not too many. -/
structure Bk (n m : Nat) (B : List (List Int)) : Prop where
  len : B.length = n
  el : ∀ b ∈ B, b.length ≤ m ∧ ∀ k ∈ b, 0 ≤ k ∧ k < (n : Int)
theorem posOf_lt {t : Sta} {l : List Sta} (hl : 0 < l.length) : kAt t l < l.length := by
  unfold kAt
  cases h : posOf t l with
  | none => exact hl
  | some k => exact (posOf_some h).1
theorem Bk.roll {p : Int → Int → Bool} {C : List Cr} {i m : Nat} {B : List (List Int)} (h : Bk C.length m B) (hi : i < C.length) (dir : Int) : Bk C.length (m + 1) (lfRoll p C i dir B) := by
  have hm : Bk C.length (m + 1) B := ⟨h.len, fun b hb => ⟨by have := (h.el b hb).1; omega, (h.el b hb).2⟩⟩
  unfold lfRoll
  rw [List.getElem?_eq_getElem hi]
  show Bk C.length (m + 1) (bif _ then _ else _)
  cases p (rollK C[i].u dir).x (rollK C[i].u dir).y with
  | false => exact hm
  | true =>
    have hk : kAt (rollK C[i].u dir) (C.map Cr.u) < B.length := by
      have := posOf_lt (t := rollK C[i].u dir) (l := C.map Cr.u) (by rw [List.length_map]; omega)
      rw [List.length_map] at this
      rw [h.len]; exact this
    refine ⟨by rw [cond_true, List.length_set, h.len], fun b hb => ?_⟩
    rw [cond_true] at hb
    rcases List.mem_or_eq_of_mem_set hb with hb | hb
    · exact hm.el b hb
    · have hg : B.getD (kAt (rollK C[i].u dir) (C.map Cr.u)) [] ∈ B := by
        rw [List.getD_eq_getElem?_getD, List.getElem?_eq_getElem hk]
        exact List.getElem_mem hk
      obtain ⟨h1, h2⟩ := h.el _ hg
      rw [hb]
      refine ⟨by rw [List.length_append, List.length_singleton]; omega, fun k hk' => ?_⟩
      rcases List.mem_append.1 hk' with hk' | hk'
      · exact h2 k hk'
      · rw [List.mem_singleton.1 hk']; omega
/-- What the first round makes. -/
structure L1 (n i : Nat) (s : Lf) : Prop where
  len : s.out.length = n
  bk : Bk n (4 * i) s.back
  qin : ∀ j ∈ s.q, 0 ≤ j ∧ j < (i : Int) ∧ s.out.getD j.toNat 0 = 0
  cnt : s.q.length + negs (s.out.take i) = i
  top : ∀ x ∈ s.out, x ≤ 0
theorem lfF4 {p : Int → Int → Bool} {C : List Cr} {i m : Nat} {B : List (List Int)} (h : Bk C.length m B) (hi : i < C.length) : Bk C.length (m + 4) (lfF p C i 4 0 B) :=
  (((h.roll hi 0).roll hi 1).roll hi 2).roll hi 3
theorem L1.step {p : Int → Int → Bool} {is : Sta → Bool} {C : List Cr} {i : Nat} {s : Lf} (h : L1 C.length i s) (hi : i < C.length) (a : Cr) : L1 C.length (i + 1) (lfStep p is C i a s) := by
  have hil : i < s.out.length := by rw [h.len]; exact hi
  have hgs : ∀ (v : Int) (j : Nat), j ≠ i → (s.out.set i v).getD j 0 = s.out.getD j 0 := fun v j hj => by
    rw [List.getD_eq_getElem?_getD, List.getElem?_set_ne (by omega), ← List.getD_eq_getElem?_getD]
  have htk : ∀ v : Int, (s.out.set i v).take (i + 1) = s.out.take i ++ [v] := fun v => take_set_succ s.out i v hil
  have hng : ∀ v : Int, negs (s.out.take i ++ [v]) = negs (s.out.take i) + if v < 0 then 1 else 0 := fun v => by
    unfold negs
    rw [List.countP_append, List.countP_singleton]
    simp
  refine ⟨by show (s.out.set _ _).length = _; rw [List.length_set, h.len], ?_, fun j hj => ?_, ?_, fun x hx => ?_⟩
  · have := lfF4 (p := p) h.bk hi
    exact this
  · show 0 ≤ j ∧ j < ((i + 1 : Nat) : Int) ∧ (s.out.set i _).getD j.toNat 0 = 0
    have hj' : j ∈ bif is a.u then s.q ++ [(i : Int)] else s.q := hj
    have old : j ∈ s.q → 0 ≤ j ∧ j < ((i + 1 : Nat) : Int) ∧ (s.out.set i (bif is a.u then 0 else -1)).getD j.toNat 0 = 0 := fun hq => by
      obtain ⟨h1, h2, h3⟩ := h.qin j hq
      exact ⟨h1, by omega, by rw [hgs _ _ (by omega)]; exact h3⟩
    cases hd : is a.u with
    | false =>
      rw [hd] at hj' old
      exact old hj'
    | true =>
      rw [hd] at hj' old
      rcases List.mem_append.1 hj' with hq | hq
      · exact old hq
      · rw [List.mem_singleton.1 hq]
        refine ⟨by omega, by omega, ?_⟩
        rw [cond_true, Int.toNat_natCast, List.getD_eq_getElem?_getD, List.getElem?_set_self hil]; rfl
  · show (bif is a.u then s.q ++ [(i : Int)] else s.q).length + negs ((s.out.set i (bif is a.u then 0 else -1)).take (i + 1)) = i + 1
    have := h.cnt
    rw [htk, hng]
    cases is a.u with
    | false =>
      simp only [cond_false]
      rw [if_pos (by omega)]
      omega
    | true =>
      simp only [cond_true, List.length_append, List.length_singleton]
      rw [if_neg (by omega)]
      omega
  · rcases List.mem_or_eq_of_mem_set hx with hx | hx
    · exact h.top x hx
    · rw [hx]
      cases is a.u
      · show (-1 : Int) ≤ 0; omega
      · show (0 : Int) ≤ 0; omega
theorem L1.all {p : Int → Int → Bool} {is : Sta → Bool} {C : List Cr} : ∀ (l : List Cr) (i : Nat) (s : Lf), L1 C.length i s → i + l.length = C.length → L1 C.length C.length (lfAll p is C l i s)
  | [], i, s, h, hi => by
    rw [List.length_nil, Nat.add_zero] at hi
    rw [← hi] at h ⊢
    exact h
  | a :: l, i, s, h, hi => by
    rw [List.length_cons] at hi
    exact L1.all l (i + 1) _ (h.step (by omega) a) (by omega)
theorem L1.zero (n : Nat) : L1 n 0 (lf0 n) := by
  refine ⟨by simp [lf0], ⟨by simp [lf0], fun b hb => ?_⟩, (fun j hj => by cases hj), by simp [lf0, negs], fun x hx => ?_⟩
  · rw [List.eq_of_mem_replicate hb]
    exact ⟨Nat.zero_le _, fun k hk => by cases hk⟩
  · rw [List.eq_of_mem_replicate hx]
    omega
theorem L1.bq {n : Nat} {s : Lf} (h : L1 n n s) : BQ n (s.out, s.q) := by
  refine ⟨h.len, fun j hj => ?_, ?_, fun x hx => ?_⟩
  · obtain ⟨h1, h2, h3⟩ := h.qin j hj
    exact ⟨h1, by omega, by show 0 ≤ s.out.getD _ 0; omega⟩
  · have := h.cnt
    rw [List.take_of_length_le (by rw [h.len]; exact Nat.le_refl _)] at this
    exact this
  · have := h.top x hx
    show x ≤ ((s.q.length : Nat) : Int)
    omega
/-- For each state how many rolls lead to a goal. -/
def leftsL (p : Int → Int → Bool) (is : Sta → Bool) (C : List Cr) : List Int :=
  (bqAll (lfAll p is C C 0 (lf0 C.length)).back BIG 0 ((lfAll p is C C 0 (lf0 C.length)).out, (lfAll p is C C 0 (lf0 C.length)).q)).1
end Sp
end Go.Proofs.EV
set_option linter.unusedVariables false
set_option linter.unusedSimpArgs false
/-! Solutions counted; in plain Lean. -/
set_option linter.unusedSectionVars false
namespace Go.Proofs.EV
open Go Go.RowKit
variable [Dr]
namespace Sp
def atU (t : Sta) (us : List Sta) : Int :=
  match posOf t us with
  | some k => (k : Int)
  | none => -1
def w1 (n : Nat) : List Int := (List.replicate n 0).set 0 1
def cntC (p : Int → Int → Bool) (C : List Cr) : List Int := cntA p C BIG 0 (w1 C.length)
def twoOk (q : ByteArray) (s t : Sta) : Bool := okSt q s && (okSt q t && decide (0 ≤ atU t (usC (wyC (isFl (rws q)) s))))
def cntV (q : ByteArray) (s t : Sta) : Int := bif twoOk q s t then (cntC (isFl (rws q)) (wyC (isFl (rws q)) s)).getD (atU t (usC (wyC (isFl (rws q)) s))).toNat 0 else 0
def sumN (is : Sta → Bool) (f : Int) : List Nd → Int → Int
  | [], c => c
  | a :: l, c => sumN is f l (bif decide (a.far = f) && is a.u then IntKind.i64.wrap (c + a.words) else c)
def csV (q : ByteArray) (s : Sta) (px py pt : Int) : Int := bif puB q s px py pt then sumN (doneS px py pt) (puF q s px py pt) (wyN (isFl (rws q)) s) 0 else 0

/-- Each state of a search is its first, or on the floor. -/
theorem wy_floor (p : Int → Int → Bool) (s : Sta) : ∀ a ∈ wyC p s, a.u = s ∨ (p a.u.x a.u.y = true ∧ ∃ b ∈ wyC p s, True) := by
  have hv : ∀ (C : List Cr) (k : Nat) (dir : Int), (∀ a ∈ C, a.u = s ∨ p a.u.x a.u.y = true) → ∀ a ∈ visitC p k dir C, a.u = s ∨ p a.u.x a.u.y = true := by
    intro C k dir h a ha
    unfold visitC at ha
    cases hk : C[k]? with
    | none => rw [hk] at ha; exact h a ha
    | some c =>
      rw [hk] at ha
      have ha : a ∈ bif p (rollK c.u dir).x (rollK c.u dir).y && !(posOf (rollK c.u dir) (C.map Cr.u)).isSome then C ++ [_] else C := ha
      cases hq : p (rollK c.u dir).x (rollK c.u dir).y && !(posOf (rollK c.u dir) (C.map Cr.u)).isSome with
      | false => rw [hq] at ha; exact h a ha
      | true =>
        rw [hq] at ha
        rw [Bool.and_eq_true] at hq
        rcases List.mem_append.1 ha with ha | ha
        · exact h a ha
        · rw [List.mem_singleton.1 ha]
          exact .inr hq.1
  have hb : ∀ (f k : Nat) (C : List Cr), (∀ a ∈ C, a.u = s ∨ p a.u.x a.u.y = true) → ∀ a ∈ bfC p f k C, a.u = s ∨ p a.u.x a.u.y = true := by
    intro f
    induction f with
    | zero => intro k C h; exact h
    | succ f ih =>
      intro k C h
      rw [bfC]
      cases decide (k < C.length) with
      | false => exact h
      | true => exact ih (k + 1) _ (hv _ _ _ (hv _ _ _ (hv _ _ _ (hv _ _ _ h))))
  intro a ha
  rcases hb BIG 0 [cr0 s] (fun a ha => by rw [List.mem_singleton.1 ha]; exact .inl rfl) a ha with h | h
  · exact .inl h
  · exact .inr ⟨h, a, ha, trivial⟩
theorem wy_ok {q : ByteArray} {s : Sta} (ho : okSt q s = true) : ∀ a ∈ wyC (isFl (rws q)) s, okSt q a.u = true := by
  intro a ha
  rcases wy_floor _ _ a ha with h | ⟨h, _⟩
  · rw [h]; exact ho
  · unfold okSt
    rw [(okSt_out ho).1, ((wyC_inv ho).gd a ha).g, h]; rfl
theorem posOf_nodup : ∀ {l : List Sta} {i : Nat} (hi : i < l.length), l.Nodup → posOf l[i] l = some i
  | u :: l, 0, _, _ => by
    rw [List.getElem_cons_zero, posOf, eqSt_iff.2 rfl]; rfl
  | u :: l, i + 1, hi, hn => by
    rw [List.nodup_cons] at hn
    have hi : i < l.length := by simpa using hi
    have hne : eqSt u l[i] = false := by
      cases e : eqSt u l[i] with
      | false => rfl
      | true =>
        have := eqSt_iff.1 e
        exact absurd (this ▸ List.getElem_mem hi) hn.1
    rw [List.getElem_cons_succ, posOf, hne, cond_false, posOf_nodup hi hn.2]; rfl
theorem w1_words (s : Sta) (n : Nat) (hn : 0 < n) : WRel [nd0 s] (w1 n) := by
  intro j
  unfold w1
  cases j with
  | zero =>
    rw [List.getD_eq_getElem?_getD, List.getElem?_set_self (by simpa using hn)]; rfl
  | succ j =>
    rw [List.getD_eq_getElem?_getD, List.getElem?_set_ne (by omega), List.getElem?_replicate]
    simp
    split <;> rfl
theorem wyC_pos (p : Int → Int → Bool) (s : Sta) : 0 < (wyC p s).length := by
  obtain ⟨m, hm⟩ := bfC_pre p BIG 0 [cr0 s]
  unfold wyC
  rw [hm]; simp
theorem cnt_words (p : Int → Int → Bool) (s : Sta) : WRel (wyN p s) (cntC p (wyC p s)) :=
  bf_words BIG 0 [nd0 s] (w1 (wyC p s).length) (wy_core p s).symm (by simp [w1]) (w1_words s _ (wyC_pos p s))
theorem cntV_at {q : ByteArray} {s : Sta} (ho : okSt q s = true) {i : Nat} (hi : i < (wyN (isFl (rws q)) s).length) : cntV q s (wyN (isFl (rws q)) s)[i].u = (wyN (isFl (rws q)) s)[i].words ∧ twoOk q s (wyN (isFl (rws q)) s)[i].u = true := by
  have hc := wy_core (isFl (rws q)) s
  have hl : (wyN (isFl (rws q)) s).length = (wyC (isFl (rws q)) s).length := by rw [← hc, List.length_map]
  have hiC : i < (wyC (isFl (rws q)) s).length := by omega
  have hu : (wyC (isFl (rws q)) s)[i].u = (wyN (isFl (rws q)) s)[i].u := by
    have : (wyC (isFl (rws q)) s)[i]? = some (wyN (isFl (rws q)) s)[i].core := by rw [← hc, List.getElem?_map, List.getElem?_eq_getElem hi]; rfl
    rw [List.getElem?_eq_getElem hiC] at this
    rw [Option.some.inj this]; rfl
  have hpos : posOf (wyN (isFl (rws q)) s)[i].u (usC (wyC (isFl (rws q)) s)) = some i := by
    have hiU : i < (usC (wyC (isFl (rws q)) s)).length := by rw [usC, List.length_map]; exact hiC
    have := posOf_nodup hiU (wyC_inv ho).nodup
    rwa [show (usC (wyC (isFl (rws q)) s))[i] = (wyN (isFl (rws q)) s)[i].u from by simp only [usC, List.getElem_map]; exact hu] at this
  have ha : atU (wyN (isFl (rws q)) s)[i].u (usC (wyC (isFl (rws q)) s)) = (i : Int) := by unfold atU; rw [hpos]
  have h2 : twoOk q s (wyN (isFl (rws q)) s)[i].u = true := by
    unfold twoOk
    rw [ho, ← hu, wy_ok ho _ (List.getElem_mem hiC), hu, ha, decide_eq_true (by omega)]; rfl
  refine ⟨?_, h2⟩
  unfold cntV
  rw [h2, cond_true, ha, Int.toNat_natCast, cnt_words (isFl (rws q)) s i, List.getElem?_eq_getElem hi]; rfl
/-- One roll, as it is counted with places out of a map. -/
theorem addA_at {p : Int → Int → Bool} {k' : Nat} {C : List Cr} (ho : COrd k' C) {k : Nat} {a : Cr} (hk : C[k]? = some a) (dir : Int) (A : List Int) :
    addA p C k dir A = bif p (rollK a.u dir).x (rollK a.u dir).y && decide ((C.map Cr.far).getD (kAt (rollK a.u dir) (C.map Cr.u)) 0 = a.far + 1) then A.set (kAt (rollK a.u dir) (C.map Cr.u)) (IntKind.i64.wrap (A.getD (kAt (rollK a.u dir) (C.map Cr.u)) 0 + A.getD k 0)) else A := by
  unfold addA kAt
  rw [hk]
  dsimp only
  cases p (rollK a.u dir).x (rollK a.u dir).y with
  | false => rfl
  | true =>
    simp only [cond_true, Bool.true_and]
    cases hp : posOf (rollK a.u dir) (C.map Cr.u) with
    | none =>
      dsimp only
      obtain ⟨h1, h2⟩ := far_le ho (k + 1) k a (by omega) hk
      have hC0 : 0 < C.length := by have := get_lt hk; omega
      obtain ⟨h3, h4⟩ := far_le ho 1 0 C[0] (by omega) (List.getElem?_eq_getElem hC0)
      have e : (C.map Cr.far).getD ((none : Option Nat).getD 0) 0 = C[0].far := by
        rw [Option.getD_none, List.getD_eq_getElem?_getD, List.getElem?_map, List.getElem?_eq_getElem hC0]; rfl
      rw [e, decide_eq_false (by omega), cond_false]
    | some j =>
      obtain ⟨hj, _⟩ := posOf_some hp
      rw [List.length_map] at hj
      dsimp only
      rw [Option.getD_some, List.getElem?_eq_getElem hj]
      have e : (C.map Cr.far).getD j 0 = C[j].far := by
        rw [List.getD_eq_getElem?_getD, List.getElem?_map, List.getElem?_eq_getElem hj]; rfl
      rw [e]
def addF (p : Int → Int → Bool) (C : List Cr) (k : Nat) : Nat → Nat → List Int → List Int
  | 0, _, A => A
  | d + 1, dir, A => addF p C k d (dir + 1) (addA p C k (dir : Int) A)
theorem addF4 (p : Int → Int → Bool) (C : List Cr) (k : Nat) (A : List Int) : addF p C k 4 0 A = addA4 p C k A := rfl
def cntF (p : Int → Int → Bool) (C : List Cr) : Nat → Nat → List Int → List Int
  | 0, _, A => A
  | d + 1, k, A => cntF p C d (k + 1) (addA4 p C k A)
theorem cntF_A (p : Int → Int → Bool) (C : List Cr) : ∀ (f d k : Nat) (A : List Int), k + d = C.length → d < f → cntA p C f k A = cntF p C d k A
  | 0, _, _, _, _, h => by omega
  | f + 1, 0, k, A, hk, _ => by
    rw [cntA, decide_eq_false (by omega : ¬ k < C.length)]; rfl
  | f + 1, d + 1, k, A, hk, h => by
    rw [cntA, decide_eq_true (by omega : k < C.length), cond_true, cntF_A p C f d (k + 1) _ (by omega) (by omega)]; rfl
end Sp
end Go.Proofs.EV
set_option linter.unusedVariables false
set_option linter.unusedSimpArgs false
/-! A copy of a slice of texts. -/
set_option linter.unusedSectionVars false
namespace Go.Proofs.EV
open Go Go.RowKit Go.Shelf
variable [Dr]
section
variable {P : Program} {ρ : Ren} {C : Cfg}
theorem cloneStr_ok (hp : ¬ Dr.p) (L : SlLaysE0.n41 P ρ) (i0 : TypeInfo) (hi : P.info? (ρ.t 23) = some i0) (hz0 : i0.zero = some (.string ⟨#[]⟩)) (hz1 : i0.size = 1) (hz2 : i0.bytes = 16) (z23 : ∀ w, (Go.sizeOf (ρ.t 23)).run P w = .ok 1 w)
    {f : Nat} {fn : Func} (hfn : ρ.f 41 = f) (hf : P.funcs[f]? = some fn) (hfb : fn.body.isNone = false) (hfname : (fn.name == "runtime.NumGoroutine") = false) (hsig : C.sig f = [.own 1]) (l : List ByteArray) (h0 : 0 < l.length) (hl : l.length ≤ LIM) :
    Snd P C f [.one (.sl 1 (Sp.strC.encs l))] [.one (.sl 1 (Sp.strC.encs l))] := by
  intro w vals hG hv hr
  obtain ⟨lv⟩ := vals
  match lv, hv with
  | [v], _ =>
  have hr0 := hr 0 (by simp)
  change CRel w _ (.sl 1 (Sp.strC.encs l)) v at hr0
  refine .inl ⟨fn, hf, hfb, hfname, ?_⟩
  rw [hsig, ← hfn]
  rcases str_cells hr0 with ⟨rfl, _⟩ | ⟨b, off, c, rfl, hok, hc, hcells⟩
  · simp at h0
  unfold LIM at hl
  have hml : maxLen = 9223372036854775807 := rfl
  refine (AnyE.slices_Clone L i0 (.string ⟨#[]⟩) 1 16 hi hz0 hz1 hz2 rfl (by omega) z23 b off l.length c (l.map Value.string) w (by simp) (by omega) (by omega) (fun j u hj => ?_) (fun u hu => ?_)).mono ?_
  · rw [List.getElem?_map] at hj
    cases hx : l[j]? with
    | none => rw [hx] at hj; cases hj
    | some x =>
      rw [hx] at hj
      cases hj
      exact hcells j x hx
  · obtain ⟨x, _, rfl⟩ := List.mem_map.1 hu
    rfl
  rintro e w' ⟨v', rfl, ho, hne, hb⟩
  obtain ⟨hx, hv'⟩ := ho
  rcases hv' with ⟨_, hn⟩ | ⟨g, cap, cur, rfl, hg, hgb, hncap, hcm, hcs, htake⟩
  · omega
  have hglt : g < w'.heap.size := (Array.getElem?_eq_some_iff.1 hgb).1
  have ev : Value.slice (some ⟨g, 0, none⟩) l.length cap = .slice ((some g).map fun b => ⟨b, 0, none⟩) (Sp.strC.encs l).length cap := by rw [Cod.encs_len]; rfl
  refine ⟨_, rfl, ⟨[.slice (some ⟨g, 0, none⟩) l.length cap], [some g], rfl, ?_, fun i j b h1 h2 => ?_⟩, Below.of_kit hp hb⟩
  · rw [ev]
    refine .own 1 (Sp.strC.encs l) cap (some g) (by omega) ⟨hg, hglt, cur, _, _, hgb, by omega, by rw [Cod.encs_len]; exact hncap, fun o _ => by simp [World.frozen?, hgb], fun i j hi' hj => ?_⟩ .nil
    rw [Cod.encs_len] at hi'
    obtain rfl : j = 0 := by omega
    refine ⟨.string l[i], ?_, ?_⟩
    · have := congrArg (fun z => z[i]?) htake
      simp only [List.getElem?_map, List.getElem?_eq_getElem hi', Option.map_some] at this
      rw [List.getElem?_take_of_lt (by omega)] at this
      simpa using this
    · rw [Cod.encs_cell hi']
      exact .str _
  · match i, h1 with
    | 0, h1 =>
      match j, h2 with
      | 0, _ => rfl
end
end Go.Proofs.EV
set_option linter.unusedVariables false
set_option linter.unusedSimpArgs false
/-! Texts of puzzles. -/
set_option linter.unusedSectionVars false
namespace Go.Proofs.EV
open Go Go.RowKit Go.Shelf
variable [Dr]
namespace Sp
/-- Texts with a letter between. -/
def jnc (c : UInt8) : List (List UInt8) → List UInt8
  | [] => []
  | r :: rs => r ++ (rs.map (c :: ·)).flatten
theorem jnc_join (c : UInt8) (rs : List (List UInt8)) : Lib.join rs [c] = jnc c rs := by
  cases rs with
  | nil => rfl
  | cons r rs => rw [Lib.join_cons]; rfl
def isCol (t : ByteArray) : Bool := decide (t = ⟨#[58]⟩)
/-- A puzzle's text. -/
def puT (q : ByteArray) (s : Sta) (px py pt : Int) : ByteArray := mkB (jnc 58 [bl q, [sgn s.x], [sgn s.y], [sgn s.d.t, sgn s.d.n, sgn s.d.e, sgn s.d.s, sgn s.d.w, sgn s.d.b], [sgn px], [sgn py], [sgn pt]])
def puTO (q : ByteArray) (s : Sta) (px py pt : Int) : ByteArray := bif pzOk q s px py pt then puT q s px py pt else ⟨#[]⟩
theorem pz_out {q : ByteArray} {s : Sta} {px py pt : Int} (h : pzOk q s px py pt = true) : okSt q s = true ∧ inR px 0 6 = true ∧ inR py 0 6 = true ∧ inR pt 0 9 = true := by
  unfold pzOk at h
  simp only [Bool.and_eq_true] at h
  obtain ⟨h1, h2, h3⟩ := h
  obtain ⟨hb, _, _, _, _⟩ := okSt_out h1
  obtain ⟨k1, k2, k3, k4⟩ := isBo_fine hb
  obtain ⟨a, b⟩ := isFl_in k2.2 k3.2 h2
  exact ⟨h1, a, b, h3⟩
end Sp
end Go.Proofs.EV
