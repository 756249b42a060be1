import Derived.DeepKeys
import Derived.MapKept
import Derived.Calls
import Derived.Tactics
import Derived.Orders
import Derived.LoopN
import Derived.Test.YtjldgcppleibgaaDoorEvA
set_option linter.unusedVariables false
set_option linter.unusedSimpArgs false
set_option linter.unusedSectionVars false
namespace Go.Proofs.EV
open Go Go.RowKit
variable [Dr]

section
variable {P : Program} {base s m : Nat} {w : World} {L : Lks} {H : List Ob} {C : Cfg} {sm : Sem Value}

theorem TyOk.some {T : TypeId} {t : TI} (h : TyOk P T t) (hk : known t.k) : ∃ d, P.underlying T = some d ∧ (∀ e, t.k = .slice e → d = .slice e) ∧ (t.k = .string → d = .string) := by
  have hu := h.k
  cases e : t.k <;> rw [e] at hu hk <;> simp only at hu <;> try exact ⟨_, hu, fun _ h => by cases h <;> rfl, fun h => by cases h <;> rfl⟩
  case struct => obtain ⟨f, h1, _⟩ := hu; exact ⟨_, h1, (fun _ h => by cases h), (fun h => by cases h)⟩
  case func => obtain ⟨a, b, c, h1⟩ := hu; exact ⟨_, h1, (fun _ h => by cases h), (fun h => by cases h)⟩
  case iface => obtain ⟨a, h1⟩ := hu; exact ⟨_, h1, (fun _ h => by cases h), (fun h => by cases h)⟩
  case other => exact hk.elim

theorem rowStr_some : ∀ (es : List (List D)) (l : List UInt8), rowStr? es = some l → l.length = es.length ∧ ∃ ns : List Int, ns.length = es.length ∧ l = ns.map (fun n => UInt8.ofNat n.toNat) ∧ ∀ i, i < es.length → cellD es i 0 = .int .u8 (ns.getD i 0)
  | [], l, h => by
    simp only [rowStr?, Option.some.injEq] at h; subst h
    exact ⟨rfl, [], rfl, rfl, fun i hi => by simp at hi⟩
  | e :: es, l, h => by
    simp only [rowStr?, Option.bind_eq_some_iff, Option.some.injEq] at h
    obtain ⟨n, h1, r, h2, rfl⟩ := h
    obtain ⟨k1, ns, k2, k3, k4⟩ := rowStr_some es r h2
    have hc : e.getD 0 .nilp = .int .u8 n := by
      cases h5 : e.getD 0 .nilp <;> rw [h5] at h1 <;> simp only [D.int?] at h1 <;> try cases h1
      split at h1
      · rename_i hk; cases h1; rw [hk]
      · cases h1
    refine ⟨by simp [k1], n :: ns, by simp [k2], by simp [k3], fun i hi => ?_⟩
    cases i with
    | zero => simpa [cellD] using hc
    | succ i =>
      have := k4 i (by simpa using hi)
      simpa [cellD] using this

theorem push_fold : ∀ (ns : List Int) (b : ByteArray), (ns.foldl (fun r n => r.push (UInt8.ofNat n.toNat)) b).data = b.data ++ (ns.map fun n => UInt8.ofNat n.toNat).toArray
  | [], b => by simp
  | n :: ns, b => by
    rw [List.foldl_cons, push_fold ns]
    simp [ByteArray.push]

theorem push_modify {α : Type} (a : Array α) (x : α) (f : α → α) : (a.push x).modify a.size f = a.push (f x) := by
  apply Array.ext
  · simp
  · intro i h1 h2
    simp only [Array.getElem_modify, Array.getElem_push]
    by_cases h : i = a.size
    · subst h; simp
    · have hlt : i < a.size := by simp at h2; omega
      simp [hlt, Ne.symm h]

/-- A new row, part of what lies behind it frozen. -/
theorem newRowF_ok (hH : HRel w base L H) (hs : s < H.length) (hm : 0 < m) (hL : L s = none) (hb : base ≤ w.heap.size) {w' : World} {arr : Array Value} {T : TypeId} {f : Nat × Nat} (hf : arr.size ≤ f.1) (hw : w'.heap = w.heap.push (.cells arr T f)) (hbel : Below base w w')
    (ar : Bool) {sz cap : Nat} {es : List (List D)} (hsz : 0 < sz) (hc : arr.size = cap * sz) (hn : es.length ≤ cap)
    (hcs : ∀ i j, i < es.length → j < sz → ∃ v, arr[i * sz + j]? = some v ∧ CRel w (okS (okW w L H) base true) (cellD es i j) v) :
    HRel w' base (upd L s ⟨some w.heap.size, sz, cap, es.length⟩) (H.set s (.row ar sz es)) ∧ Ext base s m w L H w' (upd L s ⟨some w.heap.size, sz, cap, es.length⟩) (H.set s (.row ar sz es)) := by
  have hl := newLift hH hL hw (.row ar sz es) (lk := ⟨some w.heap.size, sz, cap, es.length⟩) rfl
  have hg : w'.heap[w.heap.size]? = some (.cells arr T f) := by rw [hw]; simp
  refine HRel.new hH hs hm hL hb hw hbel rfl rfl ⟨rfl, rfl, hsz, arr, T, f, hg, (by rw [hc]; exact Nat.le_refl _), hn, fun o ho => ?_, fun i j hi hj => ?_⟩
  · simp only [World.frozen?, hg]
    simp; omega
  · obtain ⟨v, e1, e2⟩ := hcs i j hi hj
    exact ⟨v, e1, e2.lift (okS_lift hl.1 base true)⟩

theorem conv_ok (hH : HRel w base L H) (hC : CfgOk P C) (hs : s < H.length) (hm : 0 < m) (hL : L s = none) (hb : base ≤ w.heap.size) (S T : TypeId) {x : V} {vx : Value} (hx : VRel w (okW w L H) base L x vx) :
    OpOk P base s m w L H (convHM C S T x s) (convert S T vx) := by
  unfold convHM
  split
  · exact .fail
  rename_i hS0
  have hkS := known_of_pos hC hS0
  obtain ⟨dS, hS, hS1, hS2⟩ := ((hC S).1 hkS).some hkS
  split
  · rename_i k hk
    have hu := ((hC T).1 (by rw [hk]; trivial)).k
    rw [hk] at hu
    split
    · rw [hx.int_inv]
      refine .ret hH ?_ (vint_rel _ _)
      simp only [convert, Sem.run_bind, run_underlying hS w, run_underlying hu w, Result.andThen_ok]
      rfl
    · exact .fail
  · rename_i hk
    have hu := ((hC T).1 (by rw [hk]; trivial)).k
    rw [hk] at hu
    split
    · rw [hx.str_inv]
      refine .ret hH ?_ (vstr_rel _)
      simp only [convert, Sem.run_bind, run_underlying hS w, run_underlying hu w, Result.andThen_ok]
      rfl
    · split
      · rename_i e hkS'
        have hdS := hS1 e hkS'
        subst hdS
        split
        · rename_i hke
          have hue := ((hC e).1 (by rw [hke]; trivial)).k
          rw [hke] at hue
          refine rows_ok hH hx fun fr sz es a c hvx hrel => ?_
          subst hvx
          have hconv := run_convert_bytes_string (P := P) w S T e a es.length c hS hue hu
          split
          · rename_i hsz
            subst hsz
            refine .str fun str hstr => ?_
            obtain ⟨l, h1, rfl⟩ := Option.map_eq_some_iff.1 hstr
            obtain ⟨k1, ns, k2, k3, k4⟩ := rowStr_some es l h1
            refine .ret hH ?_ (vstr_rel _)
            rw [hconv]
            by_cases hne : es = []
            · subst hne
              have hn0 : ns = [] := List.length_eq_zero_iff.1 k2
              subst hn0
              subst k3
              cases a with
              | none => rfl
              | some a =>
                have := run_bytesToString (P := P) w a 0 c [] (by simpa using run_loadCells_list (P := P) w a [] (by simp))
                exact this
            · obtain ⟨b, off, cv, rfl, g1, g2⟩ := hrel hne
              have hload : (loadCells ⟨b, off, none⟩ es.length).run P w = .ok (ns.map (Value.int .u8)).toArray w := by
                rw [run_loadCells w _ es.length (fun i => .int .u8 (ns.getD i 0)) (fun i hi => by
                  rw [add_plain]
                  have h5 := g1 i 0 hi (by omega)
                  have h6 := g2 i 0 hi (by omega)
                  rw [k4 i hi] at h6
                  cases h7 : cv i 0 with
                  | int q z =>
                    rw [h7] at h6 h5
                    cases h6
                    simpa using h5
                  | _ => rw [h7] at h6; cases h6)]
                congr 2
                apply List.ext_getElem
                · simp [k2]
                · intro i h1 h2
                  simp at h1
                  simp [k2, h1]
              have := run_bytesToString (P := P) w ⟨b, off, none⟩ es.length c ns hload
              rw [this]
              congr 2
              apply ByteArray.ext
              rw [push_fold, k3]
              simp
          · split
            · refine .ret hH ?_ (vstr_rel _)
              rw [hconv]
              cases a with
              | none => rfl
              | some a => exact run_bytesToString (P := P) w a 0 c [] (by simpa using run_loadCells_list (P := P) w a [] (by simp))
            · exact .fail
        · exact .fail
      · exact .fail
  · rename_i e hk
    have hu := ((hC T).1 (by rw [hk]; trivial)).k
    rw [hk] at hu
    split
    · rename_i hkS'
      have hdS := hS2 hkS'
      subst hdS
      split
      · rename_i fr str
        split
        · rename_i hke
          have hue := ((hC e).1 (by rw [hke]; trivial)).k
          rw [hke] at hue
          rw [hx.str_inv]
          refine .gd fun hle => ?_
          have hle : str.size ≤ LIM := of_decide_eq_true hle
          let cap := grownCap w str.size 0 e
          have hcap : str.size ≤ cap := le_grownCap w hle e
          let arr : Array Value := (str.data.map fun b => Value.int .u8 b.toNat) ++ Array.replicate (cap - str.size) (.int .u8 0)
          have hasz : arr.size = cap := by simp [arr]; show str.data.size + (cap - str.size) = cap; have : str.data.size = str.size := rfl; omega
          have hA : (w.drew.alloc (.cells arr e (0, 0))).heap = w.heap.push (.cells arr e (0, 0)) := rfl
          have hrun : (convert S T (.string str)).run P w = .ok (.slice (some ⟨w.heap.size, 0, none⟩) str.size cap) ((w.drew.alloc (.cells arr e (0, 0))).freeze ⟨w.heap.size, arr.size, none⟩ 1) := by
            have hsh : (w.drew.alloc (.cells arr e (0, 0))).shape? w.heap.size = some (e, arr.size) := by simp [World.shape?, hA]
            have h1 : (convert S T (.string str)).run P w = (Conv.stringToBytes e str).run P w := by simp [convert, run_underlying hS w, run_underlying hu w, run_underlying hue w]
            rw [h1]
            unfold Conv.stringToBytes
            rw [Sem.run_bind, run_choose_drew]
            simp only [Question.forced, Bool.false_eq_true, if_false, Result.andThen_ok]
            show ((do let a ← newRow e arr; markStringish a; pure (.slice (some a) str.size cap)) : Sem Value).run P w.drew = _
            simp only [newRow, Sem.run_bind, run_newObj_alloc, Result.andThen_ok, Sem.run_pure, markStringish, run_shape]
            rw [show w.drew.heap.size = w.heap.size from rfl, hsh]
            rfl
          have hheap : ((w.drew.alloc (.cells arr e (0, 0))).freeze ⟨w.heap.size, arr.size, none⟩ 1).heap = w.heap.push (.cells arr e (arr.size, arr.size + 1)) := by
            simp only [World.freeze]
            rw [if_neg (by omega)]
            rw [hA, push_modify]
            simp
          have key := newRowF_ok (s := s) (m := m) hH hs hm hL hb (f := (arr.size, arr.size + 1)) (Nat.le_refl _) hheap (below_push hb rfl rfl rfl hheap) false (sz := 1) (cap := cap) (es := strRow str) (by omega) (by omega) (by simp [strRow]; exact hcap) (fun i j hi hj => by
            have hj0 : j = 0 := by omega
            subst hj0
            have hi' : i < str.data.toList.length := by simpa [strRow] using hi
            have e1 : cellD (strRow str) i 0 = .int .u8 (str.data.toList[i]).toNat := by
              unfold cellD
              rw [getD_of_lt hi]
              simp [strRow]
            rw [e1]
            refine ⟨.int .u8 (str.data.toList[i]).toNat, ?_, .int _ _⟩
            simp only [Nat.mul_one, Nat.add_zero, arr]
            rw [Array.getElem?_append_left (by simpa using hi')]
            have hi2 : i < str.data.size := by simpa using hi'
            simp [hi2]
            exact ⟨_, Array.getElem?_eq_getElem hi2, rfl⟩)
          exact .made hrun key.1 key.2 (.rw_of upd_s (by simp [strRow])) (fun _ _ => rfl)
        · exact .fail
      · exact .fail
    · exact .fail
  · exact .fail
end
end Go.Proofs.EV
set_option linter.unusedVariables false
set_option linter.unusedSimpArgs false
/-! Maps, and slices that are cleared. -/
set_option linter.unusedSectionVars false
namespace Go.Proofs.EV
open Go Go.RowKit
variable [Dr]

section
variable {P : Program} {base s m : Nat} {w : World} {L : Lks} {H : List Ob} {C : Cfg} {sm : Sem Value}

theorem keyEq_split : ∀ (n : Nat) (xs ys : List D) (b : Bool), keyEq xs ys = some b → ∃ b1 b2, keyEq (xs.take n) (ys.take n) = some b1 ∧ keyEq (xs.drop n) (ys.drop n) = some b2 ∧ b = (b1 && b2)
  | 0, xs, ys, b, h => ⟨true, b, by simp [keyEq], by simpa using h, by simp⟩
  | n + 1, [], [], b, h => ⟨true, true, by simp [keyEq], by simp [keyEq], by simp [keyEq] at h; simp [h]⟩
  | n + 1, [], y :: ys, b, h => by simp [keyEq] at h
  | n + 1, x :: xs, [], b, h => by simp [keyEq] at h
  | n + 1, x :: xs, y :: ys, b, h => by
    simp only [keyEq, Option.bind_eq_some_iff, Option.some.injEq] at h
    obtain ⟨b0, h1, c, h2, rfl⟩ := h
    obtain ⟨b1, b2, k1, k2, rfl⟩ := keyEq_split n xs ys c h2
    exact ⟨b0 && b1, b2, by simp [keyEq, h1, k1], by simpa using k2, by cases b0 <;> simp⟩

theorem keyEq_one {x y : D} {b : Bool} (h : keyEq [x] [y] = some b) : eqD x y = some b := by
  simp only [keyEq, Option.bind_eq_some_iff, Option.some.injEq] at h
  obtain ⟨b0, h1, c, h2, rfl⟩ := h
  cases h2
  simpa using h1

theorem eqD_rel {ok : Nat → Prop} {x y : D} {vx vy : Value} {b : Bool} (h : eqD x y = some b) (hx : CRel w ok x vx) (hy : CRel w ok y vy) :
    (∃ k a c, vx = .int k a ∧ vy = .int k c ∧ b = (a == c)) ∨ (∃ a c, vx = .bool a ∧ vy = .bool c ∧ b = (a == c)) ∨ (∃ a c, vx = .string a ∧ vy = .string c ∧ b = (a == c)) := by
  unfold eqD at h
  split at h
  · split at h
    · rename_i hk
      subst hk
      cases hx; cases hy; cases h
      exact .inl ⟨_, _, _, rfl, rfl, rfl⟩
    · cases h
  · cases hx; cases hy; cases h
    exact .inr (.inl ⟨_, _, rfl, rfl, rfl⟩)
  · cases hx; cases hy
    simp only [Option.some.injEq] at h
    refine .inr (.inr ⟨_, _, rfl, rfl, ?_⟩)
    rw [← h, beq_toListBytes]; rfl
  · cases h

/-- Cells as deep values. -/
def DsRel (w : World) (ok : Nat → Prop) (ds : List D) (arr : Array Value) : Prop := arr.size = ds.length ∧ ∀ i, i < ds.length → CRel w ok (ds.getD i .nilp) (arr.getD i undef)

theorem DsRel.sub {ok : Nat → Prop} {ds : List D} {arr : Array Value} (h : DsRel w ok ds arr) {o n : Nat} (hn : o + n ≤ ds.length) : DsRel w ok ((ds.drop o).take n) (arr.extract o (o + n)) := by
  have h1 := h.1
  refine ⟨by simp; omega, fun i hi => ?_⟩
  have hi' : i < n := by simp at hi; omega
  have := h.2 (o + i) (by omega)
  rw [getD_of_lt (by omega), agetD_of_lt (by omega)] at this
  rw [getD_of_lt hi, agetD_of_lt (by simp; omega)]
  simpa using this

theorem valOf_leaf {t : TI} (h : isAgg t.k = false) (arr : Array Value) : valOf t arr = arr.getD 0 undef := by simp [valOf, h]
theorem valOf_agg {t : TI} (h : isAgg t.k = true) (arr : Array Value) : valOf t arr = .agg arr := by simp [valOf, h]
theorem valOf_part {T : TypeId} {t : TI} (hT : TyOk P T t) {arr : Array Value} {o : Nat} (ho : o + t.size ≤ arr.size) : valOf t (arr.extract o (o + t.size)) = if isAgg t.k then .agg (arr.extract o (o + t.size)) else arr.getD o undef := by
  unfold valOf
  cases e : isAgg t.k with
  | true => rfl
  | false =>
    have h1 := hT.one e
    have h2 : 0 < (arr.extract o (o + t.size)).size := by simp; omega
    have h3 : o < arr.size := by omega
    simp only [Bool.false_eq_true, if_false]
    rw [agetD_of_lt h2, agetD_of_lt h3]
    simp

theorem keyTy_known {d : Nat} {T : TypeId} (h : keyTy C d T = true) : (match (C.ty T).k with | .other => False | _ => True) := by
  cases d with
  | zero => simp [keyTy] at h
  | succ d => unfold keyTy at h; cases e : (C.ty T).k <;> simp_all

theorem eqFields_keys {D0 : Nat} {xa ya : Array Value} {ok : Nat → Prop} {xs ys : List D} (hC : CfgOk P C) {d : Nat}
    (ih : ∀ (T : TypeId) (xs ys : List D) (xa ya : Array Value) (b : Bool), keyTy C d T = true → kfit C d T xs = true → xs.length = (C.ty T).size → ys.length = (C.ty T).size → DsRel w ok xs xa → DsRel w ok ys ya → keyEq xs ys = some b → (Op.equalIn D0 T (valOf (C.ty T) xa) (valOf (C.ty T) ya)).run P w = .ok b w)
    (hx : DsRel w ok xs xa) (hy : DsRel w ok ys ya) (hxy : xs.length = ys.length) :
    ∀ (fs : List Field) (o : Nat) (b : Bool), (∀ f ∈ fs, f.name ≠ "_") → contig C o (fs.map fun f => (f.offset, f.type)) xs.length = true → (∀ f ∈ fs, keyTy C d f.type = true ∧ kfit C d f.type ((xs.drop f.offset).take (C.ty f.type).size) = true) → keyEq (xs.drop o) (ys.drop o) = some b → o ≤ xs.length → (Op.eqFields D0 xa ya fs).run P w = .ok b w
  | [], o, b, _, hc, _, h, _ => by
    simp only [List.map_nil, contig, decide_eq_true_eq] at hc
    subst hc
    have e2 : ys.drop xs.length = [] := by rw [hxy]; simp
    rw [e2] at h
    simp [keyEq] at h
    subst h
    rfl
  | f :: fs, o, b, hn, hc, hk, h, ho => by
    simp only [List.map_cons, contig, Bool.and_eq_true, decide_eq_true_eq] at hc
    obtain ⟨e1, hc⟩ := hc
    obtain ⟨hkt, hkf⟩ := hk f (by simp)
    have hkn := keyTy_known hkt
    have hT := (hC f.type).1 hkn
    have hle : o + (C.ty f.type).size ≤ xs.length := by
      have : ∀ (l : List (Nat × TypeId)) (o : Nat), contig C o l xs.length = true → o ≤ xs.length := by
        intro l
        induction l with
        | nil => intro o h; simp [contig] at h; omega
        | cons g l ih2 =>
          intro o h
          simp only [contig, Bool.and_eq_true] at h
          have := ih2 _ h.2
          omega
      exact this _ _ hc
    obtain ⟨b1, b2, k1, k2, rfl⟩ := keyEq_split (C.ty f.type).size _ _ _ h
    rw [List.drop_drop, List.drop_drop] at k2
    rw [e1] at hkf
    have r1 := ih f.type _ _ _ _ b1 hkt hkf (by simp; omega) (by simp; omega) (hx.sub hle) (hy.sub (by omega)) k1
    rw [valOf_part hT (by rw [hx.1]; exact hle), valOf_part hT (by rw [hy.1]; omega)] at r1
    have r2 := eqFields_keys hC ih hx hy hxy fs (o + (C.ty f.type).size) b2 (fun g hg => hn g (by simp [hg])) hc (fun g hg => hk g (by simp [hg])) k2 hle
    have p1 := part_ok (P := P) (w := w) hT hkn (arr := xa) (o := f.offset) (by rw [hx.1, e1]; exact hle)
    have p2 := part_ok (P := P) (w := w) hT hkn (arr := ya) (o := f.offset) (by rw [hy.1, e1]; omega)
    rw [e1] at p1 p2
    rw [Op.eqFields]
    simp only [if_pos (hn f (by simp)), Sem.run_bind, e1, p1, p2, r1, Result.andThen_ok]
    cases b1
    · simp
    · simpa using r2

theorem eqItems_keys {D0 : Nat} {xa ya : Array Value} {ok : Nat → Prop} {xs ys : List D} (hC : CfgOk P C) {d : Nat} {e : TypeId}
    (ih : ∀ (T : TypeId) (xs ys : List D) (xa ya : Array Value) (b : Bool), keyTy C d T = true → kfit C d T xs = true → xs.length = (C.ty T).size → ys.length = (C.ty T).size → DsRel w ok xs xa → DsRel w ok ys ya → keyEq xs ys = some b → (Op.equalIn D0 T (valOf (C.ty T) xa) (valOf (C.ty T) ya)).run P w = .ok b w)
    (hx : DsRel w ok xs xa) (hy : DsRel w ok ys ya) (hxy : xs.length = ys.length) (hkt : keyTy C d e = true) :
    ∀ (n o : Nat) (b : Bool), xs.length = (o + n) * (C.ty e).size → (∀ i, i < o + n → kfit C d e ((xs.drop (i * (C.ty e).size)).take (C.ty e).size) = true) → keyEq (xs.drop (o * (C.ty e).size)) (ys.drop (o * (C.ty e).size)) = some b →
      (Op.eqItems D0 e (C.ty e).size xa ya (List.range' o n)).run P w = .ok b w
  | 0, o, b, hl, _, h => by
    rw [Nat.add_zero] at hl
    rw [← hl] at h
    have e2 : ys.drop xs.length = [] := by rw [hxy]; simp
    rw [e2] at h
    simp [keyEq] at h
    subst h
    rfl
  | n + 1, o, b, hl, hf, h => by
    have hkn := keyTy_known hkt
    have hT := (hC e).1 hkn
    have hsum : (o + (n + 1)) * (C.ty e).size = o * (C.ty e).size + (C.ty e).size + n * (C.ty e).size := by
      rw [Nat.add_mul, Nat.add_mul]; omega
    have hle : o * (C.ty e).size + (C.ty e).size ≤ xs.length := by omega
    obtain ⟨b1, b2, k1, k2, rfl⟩ := keyEq_split (C.ty e).size _ _ _ h
    rw [List.drop_drop, List.drop_drop] at k2
    have r1 := ih e _ _ _ _ b1 hkt (hf o (by omega)) (by simp; omega) (by simp; omega) (hx.sub hle) (hy.sub (by omega)) k1
    rw [valOf_part hT (by rw [hx.1]; exact hle), valOf_part hT (by rw [hy.1]; omega)] at r1
    have e3 : o * (C.ty e).size + (C.ty e).size = (o + 1) * (C.ty e).size := by rw [Nat.add_mul]; omega
    have r2 := eqItems_keys hC ih hx hy hxy hkt n (o + 1) b2 (by rw [hl]; congr 1; omega) (fun i hi => hf i (by omega)) (by rw [← e3]; exact k2)
    have p1 := part_ok (P := P) (w := w) hT hkn (arr := xa) (o := o * (C.ty e).size) (by rw [hx.1]; exact hle)
    have p2 := part_ok (P := P) (w := w) hT hkn (arr := ya) (o := o * (C.ty e).size) (by rw [hy.1]; omega)
    rw [List.range'_succ, Op.eqItems]
    simp only [Sem.run_bind, p1, p2, r1, Result.andThen_ok]
    cases b1
    · simp
    · simpa using r2

theorem keyEq_sound (hC : CfgOk P C) {ok : Nat → Prop} : ∀ (d : Nat) (T : TypeId) (xs ys : List D) (xa ya : Array Value) (b : Bool) (D : Nat), d ≤ D → keyTy C d T = true → kfit C d T xs = true → xs.length = (C.ty T).size → ys.length = (C.ty T).size →
    DsRel w ok xs xa → DsRel w ok ys ya → keyEq xs ys = some b → (Op.equalIn D T (valOf (C.ty T) xa) (valOf (C.ty T) ya)).run P w = .ok b w
  | 0, T, xs, ys, xa, ya, b, D, _, h, _, _, _, _, _, _ => by simp [keyTy] at h
  | d + 1, T, xs, ys, xa, ya, b, D, hD, h, hf, hxl, hyl, hx, hy, hb => by
    obtain ⟨D, rfl⟩ : ∃ D', D = D' + 1 := ⟨D - 1, by omega⟩
    have hkn := keyTy_known h
    have hT := (hC T).1 hkn
    have one : ∀ x, xs = [x] → ∃ y, ys = [y] ∧ CRel w ok x (xa.getD 0 undef) ∧ CRel w ok y (ya.getD 0 undef) := by
      intro x e
      subst e
      match ys with
      | [y] => exact ⟨y, rfl, by simpa using hx.2 0 (by simp), by simpa using hy.2 0 (by simp)⟩
      | [] => simp at hxl hyl; omega
      | y :: y' :: ys => simp at hxl hyl; omega
    have hu := hT.k
    have ih := fun T xs ys xa ya b h1 h2 h3 h4 h5 h6 h7 => keyEq_sound hC (ok := ok) d T xs ys xa ya b D (by omega) h1 h2 h3 h4 h5 h6 h7
    unfold keyTy at h
    unfold kfit at hf
    split at h
    · rename_i k hk
      rw [hk] at hu hf
      have e : isAgg (C.ty T).k = false := by rw [hk]; rfl
      dsimp only at hf
      split at hf
      · rename_i k' n
        obtain ⟨y, rfl, r1, r2⟩ := one _ rfl
        rw [valOf_leaf e, valOf_leaf e]
        rcases eqD_rel (keyEq_one hb) r1 r2 with ⟨k', a, c, e1, e2, rfl⟩ | ⟨a, c, e1, e2, rfl⟩ | ⟨a, c, e1, e2, rfl⟩
        · rw [e1, e2, run_equalIn_int w D T k' k a c hu]
        · rw [e1] at r1; cases r1
        · rw [e1] at r1; cases r1
      · cases hf
    · rename_i hk
      rw [hk] at hu hf
      have e : isAgg (C.ty T).k = false := by rw [hk]; rfl
      dsimp only at hf
      split at hf
      · obtain ⟨y, rfl, r1, r2⟩ := one _ rfl
        rw [valOf_leaf e, valOf_leaf e]
        rcases eqD_rel (keyEq_one hb) r1 r2 with ⟨k', a, c, e1, e2, rfl⟩ | ⟨a, c, e1, e2, rfl⟩ | ⟨a, c, e1, e2, rfl⟩
        · rw [e1] at r1; cases r1
        · rw [e1, e2, run_equalIn_bool' w D T a c hu]
        · rw [e1] at r1; cases r1
      · cases hf
    · rename_i hk
      rw [hk] at hu hf
      have e : isAgg (C.ty T).k = false := by rw [hk]; rfl
      dsimp only at hf
      split at hf
      · obtain ⟨y, rfl, r1, r2⟩ := one _ rfl
        rw [valOf_leaf e, valOf_leaf e]
        rcases eqD_rel (keyEq_one hb) r1 r2 with ⟨k', a, c, e1, e2, rfl⟩ | ⟨a, c, e1, e2, rfl⟩ | ⟨a, c, e1, e2, rfl⟩
        · rw [e1] at r1; cases r1
        · rw [e1] at r1; cases r1
        · rw [e1, e2, run_equalIn_string w D T a c hu, beq_toListBytes]
      · cases hf
    · rename_i fs hk
      rw [hk] at hu hf
      simp only [Bool.and_eq_true, decide_eq_true_eq] at h
      obtain ⟨⟨⟨h1, h2⟩, h3⟩, h4⟩ := h
      have e : isAgg (C.ty T).k = true := by rw [hk]; rfl
      obtain ⟨fields, u1, u2, u3⟩ := hu
      have hf' : P.fieldsOf T = fields := by simp [Program.fieldsOf, u1]
      rw [valOf_agg e, valOf_agg e, run_equalIn_struct w D T xa ya (by rw [hf']; exact u1) (hT.e h1).1, hf']
      refine eqFields_keys hC ih hx hy (by omega) fields.toList 0 b (fun f hfm => by obtain ⟨_, _, _, hn⟩ := u3 f hfm; exact hn) (by rw [u2, hxl]; exact h3) (fun f hfm => ?_) (by simpa using hb) (Nat.zero_le _)
      have hm : (f.offset, f.type) ∈ fs := by rw [← u2]; exact List.mem_map_of_mem hfm
      exact ⟨by simpa using List.all_eq_true.1 h4 _ hm, by simpa using List.all_eq_true.1 hf _ hm⟩
    · rename_i n e0 hk
      rw [hk] at hu hf
      simp only [Bool.and_eq_true, decide_eq_true_eq] at h
      obtain ⟨⟨h1, h2⟩, h3⟩ := h
      have e : isAgg (C.ty T).k = true := by rw [hk]; rfl
      have hTe := (hC e0).1 (keyTy_known h3)
      obtain ⟨i, z, i1, i2, _⟩ := hTe.i
      have hco : P.cellsOf e0 = (C.ty e0).size := by simp [Program.cellsOf, i1, i2]
      rw [valOf_agg e, valOf_agg e, run_equalIn_array w D xa ya hu i1, hco, List.range_eq_range']
      refine eqItems_keys hC ih hx hy (by omega) h3 n 0 b (by rw [hxl, h2, Nat.zero_add]) (fun i hi => ?_) (by simpa using hb)
      have := List.all_eq_true.1 hf i (by simp; omega)
      simpa using this
    · cases h
end
end Go.Proofs.EV
set_option linter.unusedVariables false
set_option linter.unusedSimpArgs false
set_option linter.unusedSectionVars false
namespace Go.Proofs.EV
open Go Go.RowKit
variable [Dr]

section
variable {P : Program} {base s m : Nat} {w : World} {L : Lks} {H : List Ob} {C : Cfg} {sm : Sem Value}

/-! ### Keys are of types that can be compared -/
theorem check_run (hC : CfgOk P C) (em : Bool) : ∀ (d : Nat) (T : TypeId) (xa : Array Value) (D : Nat), d ≤ D → keyTy C d T = true → xa.size = (C.ty T).size → (Instr.checkKey em D T (valOf (C.ty T) xa)).run P w = .ok () w
  | 0, T, xa, D, _, h, _ => by simp [keyTy] at h
  | d + 1, T, xa, D, hD, h, hx => by
    obtain ⟨D, rfl⟩ : ∃ D', D = D' + 1 := ⟨D - 1, by omega⟩
    have hkn := keyTy_known h
    have hT := (hC T).1 hkn
    have hu := hT.k
    unfold keyTy at h
    split at h
    · rename_i k hk
      rw [hk] at hu
      rw [Instr.checkKey, Sem.run_bind, run_underlying hu]
      rfl
    · rename_i hk
      rw [hk] at hu
      rw [Instr.checkKey, Sem.run_bind, run_underlying hu]
      rfl
    · rename_i hk
      rw [hk] at hu
      rw [Instr.checkKey, Sem.run_bind, run_underlying hu]
      rfl
    · rename_i fs hk
      rw [hk] at hu
      simp only [Bool.and_eq_true, decide_eq_true_eq] at h
      obtain ⟨⟨⟨h1, h2⟩, h3⟩, h4⟩ := h
      have e : isAgg (C.ty T).k = true := by rw [hk]; rfl
      obtain ⟨fields, u1, u2, u3⟩ := hu
      rw [valOf_agg e, Instr.checkKey]
      simp only [Sem.run_bind, run_underlying u1, Result.andThen_ok]
      rw [← Array.forIn_toList]
      have key : ∀ (l : List Field) (o : Nat), (∀ f ∈ l, f.name ≠ "_") → contig C o (l.map fun f => (f.offset, f.type)) xa.size = true → (∀ f ∈ l, keyTy C d f.type = true) →
          Sem.run P (forIn l PUnit.unit fun f _ =>
            if f.name ≠ "_" then (do
              let x ← part f.type xa f.offset
              Instr.checkKey em D f.type x
              pure (ForInStep.yield PUnit.unit))
            else pure (ForInStep.yield PUnit.unit)) w = .ok PUnit.unit w := by
        intro l
        induction l with
        | nil => intros; rfl
        | cons f l ih =>
          intro o hn hc hk'
          simp only [List.map_cons, contig, Bool.and_eq_true, decide_eq_true_eq] at hc
          obtain ⟨e1, hc⟩ := hc
          have hkt := hk' f (by simp)
          have hkn' := keyTy_known hkt
          have hT' := (hC f.type).1 hkn'
          have hle : o + (C.ty f.type).size ≤ xa.size := by
            have : ∀ (l : List (Nat × TypeId)) (o : Nat), contig C o l xa.size = true → o ≤ xa.size := by
              intro l
              induction l with
              | nil => intro o h; simp [contig] at h; omega
              | cons g l ih2 =>
                intro o h
                simp only [contig, Bool.and_eq_true] at h
                have := ih2 _ h.2
                omega
            exact this _ _ hc
          have p1 := part_ok (P := P) (w := w) hT' hkn' (arr := xa) (o := f.offset) (by rw [e1]; exact hle)
          rw [e1] at p1
          have p2 := check_run hC em d f.type (xa.extract o (o + (C.ty f.type).size)) D (by omega) hkt (by simp; omega)
          rw [valOf_part hT' hle] at p2
          have hn0 := hn f (by simp)
          rw [List.forIn_cons]
          simp only [if_pos hn0, Sem.run_bind, e1, p1, p2, Result.andThen_ok, Sem.run_pure]
          exact ih _ (fun g hg => hn g (by simp [hg])) hc (fun g hg => hk' g (by simp [hg]))
      have := key _ 0 (fun f hfm => by obtain ⟨_, _, _, hn⟩ := u3 f hfm; exact hn) (by rw [u2, hx]; exact h3) (fun f hfm => by
        have hm : (f.offset, f.type) ∈ fs := by rw [← u2]; exact List.mem_map_of_mem hfm
        simpa using List.all_eq_true.1 h4 _ hm)
      rw [this]; rfl
    · rename_i n e0 hk
      rw [hk] at hu
      simp only [Bool.and_eq_true, decide_eq_true_eq] at h
      obtain ⟨⟨h1, h2⟩, h3⟩ := h
      have e : isAgg (C.ty T).k = true := by rw [hk]; rfl
      have hkn' := keyTy_known h3
      have hTe := (hC e0).1 hkn'
      rw [valOf_agg e, Instr.checkKey]
      simp only [Sem.run_bind, run_underlying hu, Result.andThen_ok]
      simp only [Std.Legacy.Range.forIn_eq_forIn_range', Std.Legacy.Range.size, Nat.sub_zero, Nat.add_one_sub_one, Nat.div_one]
      have hlt : ∀ i ∈ List.range' 0 n, i < n := fun i hi => by simp at hi; exact hi
      generalize List.range' 0 n = is at hlt
      induction is with
      | nil => rfl
      | cons j is ih =>
        have hj := hlt j (by simp)
        have hle : j * (C.ty e0).size + (C.ty e0).size ≤ xa.size := by
          have : (j + 1) * (C.ty e0).size ≤ n * (C.ty e0).size := Nat.mul_le_mul_right _ hj
          rw [Nat.add_mul] at this
          rw [hx, h2]; omega
        have p1 := part_ok (P := P) (w := w) hTe hkn' (arr := xa) (o := j * (C.ty e0).size) hle
        have p2 := check_run hC em d e0 (xa.extract (j * (C.ty e0).size) (j * (C.ty e0).size + (C.ty e0).size)) D (by omega) h3 (by simp; omega)
        rw [valOf_part hTe hle] at p2
        rw [List.forIn_cons]
        simp only [Sem.run_bind, hTe.size, p1, p2, Result.andThen_ok, Sem.run_pure]
        exact ih (fun y hy => hlt y (by simp [hy]))
    · cases h

/-! ### Where a key stands -/
def mpFind (k : List D) : List (List D × List D) → Option (Option Nat)
  | [] => some none
  | e :: es => (keyEq k e.1).bind fun b => cond b (some (some 0)) ((mpFind k es).map (·.map (· + 1)))
theorem mpFind_lt {k : List D} : ∀ {es : List (List D × List D)} {i : Nat}, mpFind k es = some (some i) → i < es.length ∧ keyEq k (es.getD i ([], [])).1 = some true
  | [], i, h => by simp [mpFind] at h
  | e :: es, i, h => by
    simp only [mpFind, Option.bind_eq_some_iff] at h
    obtain ⟨b, h1, h2⟩ := h
    cases b with
    | true =>
      simp only [cond_true, Option.some.injEq] at h2
      subst h2
      exact ⟨by simp, by simpa using h1⟩
    | false =>
      simp only [cond_false] at h2
      obtain ⟨o, h3, h4⟩ := Option.map_eq_some_iff.1 h2
      cases o with
      | none => simp at h4
      | some j =>
        simp only [Option.map_some, Option.some.injEq] at h4
        subst h4
        obtain ⟨q1, q2⟩ := mpFind_lt h3
        exact ⟨by simp; omega, by simpa using q2⟩
theorem mpGet_find {k : List D} : ∀ {es : List (List D × List D)}, mpGet k es = (mpFind k es).map fun o => o.map fun i => (es.getD i ([], [])).2
  | [] => rfl
  | e :: es => by
    simp only [mpGet, mpFind, mpGet_find]
    cases keyEq k e.1 with
    | none => rfl
    | some b =>
      cases b with
      | true => simp
      | false =>
        simp only [Option.bind_some, cond_false, Option.map_map]
        congr 1
        funext o
        cases o <;> simp
theorem mpSet_find {k v : List D} : ∀ {es : List (List D × List D)}, mpSet k v es = (mpFind k es).map fun o => match o with | none => es ++ [(k, v)] | some i => es.set i (k, v)
  | [] => rfl
  | e :: es => by
    simp only [mpSet, mpFind, mpSet_find]
    cases keyEq k e.1 with
    | none => rfl
    | some b =>
      cases b with
      | true => simp
      | false =>
        simp only [Option.bind_some, cond_false, Option.map_map]
        congr 1
        funext o
        cases o <;> simp

/-- A map's entries. -/
structure EnRel (w : World) (ok : Nat → Prop) (ds : List (List D × List D)) (es : List MapEntry) : Prop where
  len : es.length = ds.length
  k : ∀ i, i < ds.length → aggB (es.getD i default).key = decide ((ds.getD i ([], [])).1.length ≠ 1) ∧ DsRel w ok (ds.getD i ([], [])).1 (es.getD i default).key.cells
  v : ∀ i, i < ds.length → aggB (es.getD i default).val = decide ((ds.getD i ([], [])).2.length ≠ 1) ∧ DsRel w ok (ds.getD i ([], [])).2 (es.getD i default).val.cells

theorem EnRel.tail {ok : Nat → Prop} {d : List D × List D} {ds : List (List D × List D)} {e : MapEntry} {es : List MapEntry} (h : EnRel w ok (d :: ds) (e :: es)) : EnRel w ok ds es :=
  ⟨by simpa using h.len, fun i hi => by simpa using h.k (i + 1) (by simpa using hi), fun i hi => by simpa using h.v (i + 1) (by simpa using hi)⟩

theorem cells_valOf {t : TI} {v : Value} (h : aggB v = isAgg t.k) : valOf t v.cells = v := by
  cases e : isAgg t.k with
  | true =>
    rw [e] at h
    rw [valOf_agg e]
    cases v <;> first | rfl | cases h
  | false =>
    rw [e] at h
    rw [valOf_leaf e]
    cases v <;> first | rfl | cases h

theorem keyEq_len : ∀ {xs ys : List D} {b : Bool}, keyEq xs ys = some b → xs.length = ys.length
  | [], [], _, _ => rfl
  | [], _ :: _, _, h => by simp [keyEq] at h
  | _ :: _, [], _, h => by simp [keyEq] at h
  | x :: xs, y :: ys, b, h => by
    simp only [keyEq, Option.bind_eq_some_iff] at h
    obtain ⟨_, _, c, h2, _⟩ := h
    simp [keyEq_len h2]

theorem keyTy_one (hC : CfgOk P C) {d : Nat} {T : TypeId} (h : keyTy C d T = true) : decide ((C.ty T).size ≠ 1) = isAgg (C.ty T).k := by
  have hT := (hC T).1 (keyTy_known h)
  cases d with
  | zero => simp [keyTy] at h
  | succ d =>
    unfold keyTy at h
    split at h
    · rename_i hk; have := hT.one (by rw [hk]; rfl); rw [hk]; simp [this, isAgg]
    · rename_i hk; have := hT.one (by rw [hk]; rfl); rw [hk]; simp [this, isAgg]
    · rename_i hk; have := hT.one (by rw [hk]; rfl); rw [hk]; simp [this, isAgg]
    · rename_i hk; simp only [Bool.and_eq_true, decide_eq_true_eq] at h; rw [hk]; simp [isAgg, h.1.1.2]
    · rename_i hk; simp only [Bool.and_eq_true, decide_eq_true_eq] at h; rw [hk]; simp [isAgg, h.1.1]
    · cases h

theorem asking_run (hC : CfgOk P C) {ok : Nat → Prop} {kt : TypeId} (hk : keyTy C 20 kt = true) {kd : List D} (hf : kfit C 20 kt kd = true) (hl : kd.length = (C.ty kt).size) {kc : Value} (hkc : aggB kc = isAgg (C.ty kt).k) (hkr : DsRel w ok kd kc.cells) :
    ∀ (ds : List (List D × List D)) (es : List MapEntry) (i : Nat) (r : Option Nat), EnRel w ok ds es → mpFind kd ds = some r →
      (Instr.findAsking kt kc es i).run P w = .ok (r.map fun j => (i + j, (es.getD j default).val)) w
  | [], es, i, r, hr, h => by
    have : es = [] := List.length_eq_zero_iff.1 (by simpa using hr.len)
    subst this
    simp only [mpFind, Option.some.injEq] at h
    subst h
    rfl
  | d :: ds, [], i, r, hr, h => by have := hr.len; simp at this
  | d :: ds, e :: es, i, r, hr, h => by
    simp only [mpFind, Option.bind_eq_some_iff] at h
    obtain ⟨b, h1, h2⟩ := h
    obtain ⟨g1, g2⟩ := hr.k 0 (by simp)
    simp only [List.getD_cons_zero] at g1 g2
    have hle := keyEq_len h1
    have hag : aggB e.key = isAgg (C.ty kt).k := by rw [g1, ← hle, hl]; exact keyTy_one hC hk
    have heq := keyEq_sound hC (ok := ok) 20 kt kd d.1 kc.cells e.key.cells b 10000 (by omega) hk hf hl (by omega) hkr g2 h1
    rw [cells_valOf hkc, cells_valOf hag] at heq
    rw [Instr.findAsking]
    simp only [Sem.run_bind, Op.equal, Op.maxDepth, heq, Result.andThen_ok]
    cases b with
    | true =>
      simp only [cond_true, Option.some.injEq] at h2
      subst h2
      simp
    | false =>
      simp only [cond_false, Option.map_eq_some_iff] at h2
      obtain ⟨o, h3, rfl⟩ := h2
      have := asking_run hC hk hf hl hkc hkr ds es (i + 1) o hr.tail h3
      simp only [Bool.false_eq_true, if_false, this]
      cases o with
      | none => rfl
      | some j => simp; omega

theorem now_spec {ok : Nat → Prop} {kd : List D} {kc : Value} (hkc : aggB kc = decide (kd.length ≠ 1)) (hkr : DsRel w ok kd kc.cells) (td : TypeDesc) :
    ∀ (ds : List (List D × List D)) (es : List MapEntry) (i : Nat) (r : Option Nat) (q : Option (Nat × Value)), EnRel w ok ds es → mpFind kd ds = some r → Instr.findNow td kc es i = some q → q = r.map fun j => (i + j, (es.getD j default).val)
  | [], es, i, r, q, hr, h, hq => by
    have : es = [] := List.length_eq_zero_iff.1 (by simpa using hr.len)
    subst this
    simp only [mpFind, Option.some.injEq] at h
    subst h
    simpa [Instr.findNow] using hq.symm
  | d :: ds, [], i, r, q, hr, h, hq => by have := hr.len; simp at this
  | d :: ds, e :: es, i, r, q, hr, h, hq => by
    simp only [mpFind, Option.bind_eq_some_iff] at h
    obtain ⟨b, h1, h2⟩ := h
    obtain ⟨g1, g2⟩ := hr.k 0 (by simp)
    simp only [List.getD_cons_zero] at g1 g2
    have hle := keyEq_len h1
    have hnow : Instr.sameNow td kc e.key = none ∨ Instr.sameNow td kc e.key = some b := by
      by_cases h1' : kd.length = 1
      · match kd, h1' with
        | [x], _ =>
        match hd : d.1, (by rw [← hle]; rfl : d.1.length = 1) with
        | [y], _ =>
        rw [hd] at h1 g1 g2
        have a1 : aggB kc = false := by rw [hkc]; simp
        have a2 : aggB e.key = false := by rw [g1]; simp
        have c1 : kc.cells.getD 0 undef = kc := by cases kc <;> first | rfl | cases a1
        have c2 : e.key.cells.getD 0 undef = e.key := by cases ek : e.key <;> first | rfl | (rw [ek] at a2; cases a2)
        have r1 := hkr.2 0 (by simp)
        have r2 := g2.2 0 (by simp)
        rw [c1] at r1
        rw [c2] at r2
        simp only [List.getD_cons_zero] at r1 r2
        rcases eqD_rel (keyEq_one h1) r1 r2 with ⟨k', a, c, e1, e2, rfl⟩ | ⟨a, c, e1, e2, rfl⟩ | ⟨a, c, e1, e2, rfl⟩
        · rw [e1, e2]; cases td <;> simp [Instr.sameNow]
        · rw [e1, e2]; cases td <;> simp [Instr.sameNow]
        · rw [e1, e2]; cases td <;> simp [Instr.sameNow]
      · left
        have a1 : aggB kc = true := by rw [hkc]; simpa using h1'
        cases kc <;> first | (simp [aggB] at a1; done) | (cases td <;> simp [Instr.sameNow])
    rw [Instr.findNow] at hq
    rcases hnow with hn | hn
    · rw [hn] at hq; cases hq
    · rw [hn] at hq
      cases b with
      | true =>
        simp only [Option.some.injEq] at hq
        simp only [cond_true, Option.some.injEq] at h2
        subst h2
        simp [← hq]
      | false =>
        simp only [cond_false, Option.map_eq_some_iff] at h2
        obtain ⟨o, h3, rfl⟩ := h2
        have := now_spec hkc hkr td ds es (i + 1) o q hr.tail h3 hq
        rw [this]
        cases o with
        | none => rfl
        | some j => simp; omega

theorem find_run (hC : CfgOk P C) {ok : Nat → Prop} {kt : TypeId} (hk : keyTy C 20 kt = true) {kd : List D} (hf : kfit C 20 kt kd = true) (hl : kd.length = (C.ty kt).size) {kc : Value} (hkc : aggB kc = isAgg (C.ty kt).k) (hkr : DsRel w ok kd kc.cells)
    {ds : List (List D × List D)} {es : List MapEntry} {r : Option Nat} (hr : EnRel w ok ds es) (h : mpFind kd ds = some r) :
    (Instr.findKey kt kc es).run P w = .ok (r.map fun j => (j, (es.getD j default).val)) w := by
  have hT := (hC kt).1 (keyTy_known hk)
  obtain ⟨i, z, i1, _⟩ := hT.i
  obtain ⟨td, htd⟩ : ∃ td, P.underlying kt = some td := by
    have hu := hT.k
    cases e : (C.ty kt).k <;> rw [e] at hu <;> first | exact ⟨_, hu⟩ | (obtain ⟨f, hf, _⟩ := hu; exact ⟨_, hf⟩) | (obtain ⟨_, _, _, hf⟩ := hu; exact ⟨_, hf⟩) | (obtain ⟨_, hf⟩ := hu; exact ⟨_, hf⟩) | (have := keyTy_known hk; rw [e] at this; exact this.elim)
  rw [Instr.findKey]
  simp only [Sem.run_bind, run_underlying htd, Result.andThen_ok]
  have h1 := asking_run hC hk hf hl hkc hkr ds es 0 r hr h
  simp only [Nat.zero_add] at h1
  split
  · rename_i q hq
    have := now_spec (by rw [hkc, hl]; exact (keyTy_one hC hk).symm) hkr td ds es 0 r q hr h hq
    simp only [Nat.zero_add] at this
    rw [this]; rfl
  · exact h1
end
end Go.Proofs.EV
set_option linter.unusedVariables false
set_option linter.unusedSimpArgs false
set_option linter.unusedSectionVars false
namespace Go.Proofs.EV
open Go Go.RowKit
variable [Dr]

section
variable {P : Program} {base s m : Nat} {w : World} {L : Lks} {H : List Ob} {C : Cfg} {sm : Sem Value}

theorem setB_below {b : Nat} (hb : base ≤ b) (o : Obj) : Below base w { w with heap := w.heap.setIfInBounds b o } :=
  ⟨rfl, rfl, rfl, by simp, fun k hk => by simp [Array.getElem?_setIfInBounds]; omega, fun _ => Nat.le_refl _⟩

theorem EnRel.lift {w' : World} {ok ok' : Nat → Prop} (h : ∀ b, ok b → ok' b ∧ w'.heap[b]? = w.heap[b]?) {ds : List (List D × List D)} {es : List MapEntry} (hr : EnRel w ok ds es) : EnRel w' ok' ds es :=
  ⟨hr.len, fun i hi => ⟨(hr.k i hi).1, (hr.k i hi).2.1, fun j hj => ((hr.k i hi).2.2 j hj).lift h⟩, fun i hi => ⟨(hr.v i hi).1, (hr.v i hi).2.1, fun j hj => ((hr.v i hi).2.2 j hj).lift h⟩⟩

theorem aget_toList (es : Array MapEntry) (i : Nat) : es.toList.getD i default = es.getD i default := by
  simp [List.getD_eq_getElem?_getD, Array.getD_eq_getD_getElem?]

/-- A map of one's own. -/
theorem HRel.mp (hH : HRel w base L H) {id : Nat} {ds : List (List D × List D)} {lk : Lk} {b : Nat} (e : obj H id = .mp ds) (hl : L id = some lk) (hb : lk.b = some b) :
    ∃ (clock : Nat) (es : Array MapEntry), w.heap[b]? = some (.map es clock) ∧ EnRel w (okS (okW w L H) base true) ds es.toList := by
  obtain ⟨lk', h1, h2⟩ := hH.ob id (by rw [e]; rfl)
  rw [hl] at h1; cases h1
  rw [e] at h2
  obtain ⟨r, clock, es, g0, g1, g2, g3, g4, g4a, g4b, g5, g6⟩ := h2
  rw [hb] at g0; cases g0
  exact ⟨clock, es, g1, by simpa using g2, fun i hi => by rw [aget_toList]; exact ⟨g4a i hi, g3 i hi, fun j hj => g4 i j hi hj⟩, fun i hi => by rw [aget_toList]; exact ⟨g4b i hi, g5 i hi, fun j hj => g6 i j hi hj⟩⟩
theorem mp_ob {ok : Nat → Prop} {ds : List (List D × List D)} {lk : Lk} {b : Nat} (hb : lk.b = some b) {clock : Nat} {es : Array MapEntry} (h1 : w.heap[b]? = some (.map es clock)) (h2 : EnRel w (okS ok base true) ds es.toList) : ObRel w ok base L lk (.mp ds) :=
  ⟨b, clock, es, hb, h1, by simpa using h2.len, fun i hi => by have := (h2.k i hi).2.1; rwa [aget_toList] at this, fun i j hi hj => by have := (h2.k i hi).2.2 j hj; rwa [aget_toList] at this,
    fun i hi => by have := (h2.k i hi).1; rwa [aget_toList] at this, fun i hi => by have := (h2.v i hi).1; rwa [aget_toList] at this,
    fun i hi => by have := (h2.v i hi).2.1; rwa [aget_toList] at this, fun i j hi hj => by have := (h2.v i hi).2.2 j hj; rwa [aget_toList] at this⟩

theorem makeMap_ok (hH : HRel w base L H) (hC : CfgOk P C) (hs : s < H.length) (hm : 0 < m) (hL : L s = none) (hb : base ≤ w.heap.size) (T : TypeId) :
    OpOk P base s m w L H (makeMapHM C T s) (Instr.makeMap T none) := by
  unfold makeMapHM
  split
  · have hg : (w.alloc (.map #[] 0)).heap[w.heap.size]? = some (.map #[] 0) := by
      show (w.heap.push _)[w.heap.size]? = _
      simp
    have key := HRel.new (s := s) (m := m) hH hs hm hL hb (w' := w.alloc (.map #[] 0)) (o := .map #[] 0) rfl (below_push hb rfl rfl rfl rfl) (lk := ⟨some w.heap.size, 0, 0, 0⟩) (ob := .mp []) rfl rfl
      (mp_ob rfl hg ⟨rfl, fun i hi => by simp at hi, fun i hi => by simp at hi⟩)
    exact .made (vc := .map (some w.heap.size)) rfl key.1 key.2 (.rm s _ _ upd_s rfl) (fun _ _ => rfl)
  · exact .fail

theorem sameBits_cells {ok : Nat → Prop} {x y : D} {vx vy : Value} (h : eqD x y = some true) (hx : CRel w ok x vx) (hy : CRel w ok y vy) (n : Nat) : Instr.sameBits n vy vx = true := by
  rcases eqD_rel h hx hy with ⟨k, a, c, rfl, rfl, e⟩ | ⟨a, c, rfl, rfl, e⟩ | ⟨a, c, rfl, rfl, e⟩
  · have : a = c := by simpa using e.symm
    subst this; simp [Instr.sameBits]
  · have : a = c := by simpa using e.symm
    subst this; simp [Instr.sameBits]
  · rw [beq_toListBytes] at e
    rw [Instr.sameBits, beq_toListBytes]
    have : a.toList = c.toList := by simpa using e.symm
    simp [this]

theorem keyEq_get : ∀ {xs ys : List D} (i : Nat), keyEq xs ys = some true → i < xs.length → eqD (xs.getD i .nilp) (ys.getD i .nilp) = some true
  | [], _, i, _, hi => by simp at hi
  | x :: xs, [], i, h, hi => by simp [keyEq] at h
  | x :: xs, y :: ys, i, h, hi => by
    simp only [keyEq, Option.bind_eq_some_iff, Option.some.injEq] at h
    obtain ⟨b, h1, c, h2, h3⟩ := h
    rw [Bool.and_eq_true] at h3
    obtain ⟨rfl, rfl⟩ := h3
    cases i with
    | zero => simpa using h1
    | succ i => simpa using keyEq_get i h2 (by simpa using hi)

theorem same_key {ok : Nat → Prop} {xs ys : List D} {vx vy : Value} (h : keyEq xs ys = some true) (ax : aggB vx = decide (xs.length ≠ 1)) (ay : aggB vy = decide (ys.length ≠ 1)) (hx : DsRel w ok xs vx.cells) (hy : DsRel w ok ys vy.cells) : Instr.sameBits 10000 vy vx = true := by
  have hl := keyEq_len h
  by_cases h1 : xs.length = 1
  · have a1 : aggB vx = false := by rw [ax]; simpa using h1
    have a2 : aggB vy = false := by rw [ay]; simp; omega
    have c1 : vx.cells.getD 0 undef = vx := by cases vx <;> first | rfl | cases a1
    have c2 : vy.cells.getD 0 undef = vy := by cases vy <;> first | rfl | cases a2
    have r1 := hx.2 0 (by omega)
    have r2 := hy.2 0 (by omega)
    rw [c1] at r1
    rw [c2] at r2
    exact sameBits_cells (keyEq_get 0 h (by omega)) r1 r2 _
  · have a1 : aggB vx = true := by rw [ax]; simpa using h1
    have a2 : aggB vy = true := by rw [ay]; simp; omega
    cases vx <;> simp [aggB] at a1
    cases vy <;> simp [aggB] at a2
    rename_i a b
    have e1 : a.size = xs.length := hx.1
    have e2 : b.size = ys.length := hy.1
    rw [Instr.sameBits]
    simp only [Bool.and_eq_true, beq_iff_eq]
    refine ⟨by omega, List.all_eq_true.2 fun p hp => ?_⟩
    obtain ⟨i, hi, e⟩ := List.getElem_of_mem hp
    simp at hi
    have r1 := hx.2 i (by omega)
    have r2 := hy.2 i (by omega)
    have k1 : (Value.agg a).cells.getD i undef = a[i]'(by omega) := by rw [agetD_of_lt (by show i < a.size; omega)]; rfl
    have k2 : (Value.agg b).cells.getD i undef = b[i]'(by omega) := by rw [agetD_of_lt (by show i < b.size; omega)]; rfl
    rw [k1] at r1
    rw [k2] at r2
    have := sameBits_cells (keyEq_get i h (by omega)) r1 r2 9999
    rw [← e]
    simpa using this

theorem aggV_rel {ok : Nat → Prop} {x : V} {v : Value} (h : VRel w ok base L x v) (hx : 0 < (cellsOf x).length) : aggB v = aggV x := by
  cases h <;> first | rfl | (simp [cellsOf] at hx; done) | skip
  rename_i d hd
  cases hd <;> rfl

theorem EnRel.set {ok : Nat → Prop} {ds : List (List D × List D)} {es : List MapEntry} (h : EnRel w ok ds es) (i : Nat) {kd vd : List D} {e : MapEntry} (hk : aggB e.key = decide (kd.length ≠ 1) ∧ DsRel w ok kd e.key.cells) (hv : aggB e.val = decide (vd.length ≠ 1) ∧ DsRel w ok vd e.val.cells) :
    EnRel w ok (ds.set i (kd, vd)) (es.set i e) := by
  have hl := h.len
  refine ⟨by simp [hl], fun j hj => ?_, fun j hj => ?_⟩
  · simp at hj
    by_cases e1 : i = j
    · subst e1
      rw [getD_of_lt (by simp; omega), getD_of_lt (by simp; omega)]
      simpa using hk
    · have := h.k j hj
      rw [getD_of_lt hj, getD_of_lt (by omega)] at this
      rw [getD_of_lt (by simp; omega), getD_of_lt (by simp; omega)]
      simpa [List.getElem_set_ne e1] using this
  · simp at hj
    by_cases e1 : i = j
    · subst e1
      rw [getD_of_lt (by simp; omega), getD_of_lt (by simp; omega)]
      simpa using hv
    · have := h.v j hj
      rw [getD_of_lt hj, getD_of_lt (by omega)] at this
      rw [getD_of_lt (by simp; omega), getD_of_lt (by simp; omega)]
      simpa [List.getElem_set_ne e1] using this
theorem EnRel.push {ok : Nat → Prop} {ds : List (List D × List D)} {es : List MapEntry} (h : EnRel w ok ds es) {kd vd : List D} {e : MapEntry} (hk : aggB e.key = decide (kd.length ≠ 1) ∧ DsRel w ok kd e.key.cells) (hv : aggB e.val = decide (vd.length ≠ 1) ∧ DsRel w ok vd e.val.cells) :
    EnRel w ok (ds ++ [(kd, vd)]) (es ++ [e]) := by
  have hl := h.len
  refine ⟨by simp [hl], fun j hj => ?_, fun j hj => ?_⟩
  · simp at hj
    by_cases e1 : j < ds.length
    · have := h.k j e1
      rw [getD_of_lt e1, getD_of_lt (by omega)] at this
      rw [getD_of_lt (by simp; omega), getD_of_lt (by simp; omega)]
      simpa [List.getElem_append_left e1, List.getElem_append_left (show j < es.length by omega)] using this
    · have : j = ds.length := by omega
      subst this
      have e2 : (es ++ [e]).getD ds.length default = e := by rw [← hl]; simp [List.getD_eq_getElem?_getD]
      rw [getD_of_lt (l := ds ++ [(kd, vd)]) (by simp), e2]
      simpa using hk
  · simp at hj
    by_cases e1 : j < ds.length
    · have := h.v j e1
      rw [getD_of_lt e1, getD_of_lt (by omega)] at this
      rw [getD_of_lt (by simp; omega), getD_of_lt (by simp; omega)]
      simpa [List.getElem_append_left e1, List.getElem_append_left (show j < es.length by omega)] using this
    · have : j = ds.length := by omega
      subst this
      have e2 : (es ++ [e]).getD ds.length default = e := by rw [← hl]; simp [List.getD_eq_getElem?_getD]
      rw [getD_of_lt (l := ds ++ [(kd, vd)]) (by simp), e2]
      simpa using hv

theorem modify_toList (es : Array MapEntry) (i : Nat) (f : MapEntry → MapEntry) : (es.modify i f).toList = es.toList.set i (f (es.getD i default)) := by
  apply List.ext_getElem?
  intro j
  simp only [Array.getElem?_toList, Array.getElem?_modify, List.getElem?_set, Array.getD_eq_getD_getElem?]
  by_cases e : i = j
  · subst e
    by_cases hlt : i < es.size
    · simp [hlt]
    · simp [hlt]
  · simp [e]

theorem OpOk.cnd {b : Bool} {p q : HM V} (h1 : b = true → OpOk P base s m w L H p sm) (h2 : b = false → OpOk P base s m w L H q sm) : OpOk P base s m w L H (cond b p q) sm := by
  cases b with
  | true => exact h1 rfl
  | false => exact h2 rfl

theorem cells_rel {x : V} {v : Value} (h : VRel w (okW w L H) base L x v) (hx : 0 < (cellsOf x).length) : (cellsOf x).length = v.cells.toList.length ∧ ∀ i, i < (cellsOf x).length → VRel w (okW w L H) base L ((cellsOf x).getD i .undef) (v.cells.toList.getD i undef) := by
  obtain ⟨h1, h2⟩ := h.cells hx
  refine ⟨by simpa using h1.symm, fun i hi => ?_⟩
  have := h2 i hi
  simpa [List.getD_eq_getElem?_getD, Array.getD_eq_getD_getElem?] using this

theorem mapUpdate_run (hC : CfgOk P C) {ok : Nat → Prop} {T kt et : TypeId} (hu : P.underlying T = some (.map kt et)) (hk : keyTy C 20 kt = true) {kd vd : List D} (hf : kfit C 20 kt kd = true) (hl : kd.length = (C.ty kt).size) {kc vc : Value} (hkc : aggB kc = isAgg (C.ty kt).k) (hkr : DsRel w ok kd kc.cells)
    {ds ds' : List (List D × List D)} {b clock : Nat} {es : Array MapEntry} (hg : w.heap[b]? = some (.map es clock)) (hr : EnRel w ok ds es.toList) (hs : mpSet kd vd ds = some ds') (hvc : aggB vc = decide (vd.length ≠ 1) ∧ DsRel w ok vd vc.cells) :
    ∃ es' clock', (Instr.mapUpdate T (.map (some b)) kc vc).run P w = .ok () { w with heap := w.heap.setIfInBounds b (.map es' clock') } ∧ EnRel w ok ds' es'.toList := by
  have hT := (hC kt).1 (keyTy_known hk)
  have hkc' : aggB kc = decide (kd.length ≠ 1) := by rw [hkc, hl, keyTy_one hC hk]
  have hch : (Instr.checkKey false 10000 kt kc).run P w = .ok () w := by
    have := check_run (P := P) (w := w) hC false 20 kt kc.cells 10000 (by omega) hk (by rw [hkr.1, hl])
    rwa [cells_valOf hkc] at this
  rw [mpSet_find, Option.map_eq_some_iff] at hs
  obtain ⟨o, ho, rfl⟩ := hs
  have hfk := find_run (w := w) hC hk hf hl hkc hkr hr ho
  cases o with
  | none =>
    refine ⟨es.push { key := kc, val := vc, born := clock }, clock + 1, ?_, ?_⟩
    · simp only [Instr.mapUpdate, Sem.run_bind, run_underlying hu, MapKept.run_getObj_map hg, hch, hfk, Result.andThen_ok, Option.map_none, MapKept.run_setObj_map _ hg]
    · simpa using hr.push (e := { key := kc, val := vc, born := clock }) ⟨hkc', hkr⟩ hvc
  | some i =>
    obtain ⟨hi, hke⟩ := mpFind_lt ho
    have hsz : i < es.size := by have := hr.len; simp at this; omega
    have hold := hr.k i hi
    rw [aget_toList] at hold
    have hsame : Instr.sameBits 10000 (es.getD i default).key kc = true := same_key hke hkc' hold.1 hkr hold.2
    have hst : (Instr.keyThatStays (((es[i]?).map (·.key)).getD kc) kc).run P w = .ok kc w := by
      have e1 : ((es[i]?).map (·.key)).getD kc = (es.getD i default).key := by simp [hsz, Array.getD]
      rw [e1, Instr.keyThatStays, hsame]
      rfl
    refine ⟨es.modify i fun e => { e with key := kc, val := vc }, clock, ?_, ?_⟩
    · simp only [Instr.mapUpdate, Sem.run_bind, run_underlying hu, MapKept.run_getObj_map hg, hch, hfk, Result.andThen_ok, Option.map_some, hst, MapKept.run_setObj_map _ hg]
    · rw [modify_toList]
      exact hr.set i (e := { key := kc, val := vc, born := (es.getD i default).born }) ⟨hkc', hkr⟩ hvc

theorem DsRel.of_list {ok : Nat → Prop} {ds : List D} {v : Value} (hl : ds.length = v.cells.toList.length) (h : ∀ i, i < ds.length → CRel w ok (ds.getD i .nilp) (v.cells.toList.getD i undef)) : DsRel w ok ds v.cells :=
  ⟨by simpa using hl.symm, fun i hi => by simpa [List.getD_eq_getElem?_getD, Array.getD_eq_getD_getElem?] using h i hi⟩

theorem mapUpdate_ok (hH : HRel w base L H) (hC : CfgOk P C) (T : TypeId) {x k v : V} {vx vk vv : Value} (hx : VRel w (okW w L H) base L x vx) (hk : VRel w (okW w L H) base L k vk) (hv : VRel w (okW w L H) base L v vv) :
    OpOk P base s m w L H (mapUpdateHM C T x k v) (do Instr.mapUpdate T vx vk vv; pure (.tuple #[])) := by
  unfold mapUpdateHM
  split
  · rename_i kt et id hkT
    have hu := ((hC T).1 (by rw [hkT]; trivial)).k
    rw [hkT] at hu
    refine .cnd (fun hc => ?_) (fun _ => .fail)
    simp only [Bool.and_eq_true, beq_iff_eq, decide_eq_true_eq] at hc
    obtain ⟨hkt, hvt, hak, hav, hkl, hvl⟩ := hc
    simp only [valTy, Bool.and_eq_true, Bool.or_eq_true, Bool.not_eq_true', decide_eq_true_eq] at hvt
    have hTk := (hC kt).1 (keyTy_known hkt)
    have hpk := hTk.pos
    have hTv := (hC et).1 (known_of_pos hC hvt.1)
    have hk0 : 0 < (cellsOf k).length := by omega
    have hv0 : 0 < (cellsOf v).length := by omega
    obtain ⟨kl, kr⟩ := cells_rel hk hk0
    obtain ⟨vl, vr⟩ := cells_rel hv hv0
    have ak : aggB vk = isAgg (C.ty kt).k := by rw [aggV_rel hk hk0, hak]
    have av : aggB vv = decide ((C.ty et).size ≠ 1) := by
      rw [aggV_rel hv hv0, hav]
      cases e : isAgg (C.ty et).k with
      | true =>
        rw [e] at hvt
        simp at hvt
        simpa using hvt.2
      | false => simp [hTv.one e]
    refine freezes_ok (cellsOf k) hH _ kl kr fun kd H1 hf1 hkd hkr => ?_
    refine .of (H1 := H1) (Ext.refl ..) (fun _ _ => rfl) ?_
    refine freezes_ok (cellsOf v) hf1.h _ vl (fun i hi => hf1.x.v (vr i hi)) fun vd H2 hf2 hvd hvr => ?_
    refine .cnd (fun hfit => ?_) (fun _ => .fail)
    have hf := hf1.trans hf2
    refine .get ?_
    cases e : obj H2 id with
    | mp ds =>
      refine .mps fun ds' hds' => ?_
      have hx2 := hf.x.v hx
      cases hx2 with
      | rm _ lk b hl hb =>
        obtain ⟨clock, es, hg, hr⟩ := hf.h.mp e hl hb
        have hlv : live (obj H2 id) = true := by rw [e]; rfl
        have hkd' : DsRel w (okS (okW w L H2) base true) kd vk.cells := .of_list (by omega) fun i hi => (hkr i hi).mono hf2.ok
        have hvd' : DsRel w (okS (okW w L H2) base true) vd vv.cells := .of_list (by omega) hvr
        obtain ⟨es', clock', hrun, hr'⟩ := mapUpdate_run hC hu hkt hfit (by omega) ak hkd' hg hr hds' ⟨by rw [av, hvd, hvl], hvd'⟩
        have hbase := (hf.h.rng id lk b hlv hl hb).1
        have hlift := updLift hf.h hl hb hlv (w' := { w with heap := w.heap.setIfInBounds b (.map es' clock') }) (by simp) (fun b' hb' => by simp [Array.getElem?_setIfInBounds, Ne.symm hb']) (.mp ds')
        have hlt := (hf.h.rng id lk b hlv hl hb).2
        have key := HRel.upd (s := s) (m := m) hf.h hl hb hlv (w' := { w with heap := w.heap.setIfInBounds b (.map es' clock') }) (by simp) (fun b' hb' => by simp [Array.getElem?_setIfInBounds, Ne.symm hb']) (setB_below hbase _) (ob := .mp ds') rfl
          (mp_ob hb (clock := clock') (es := es') (by simp [hlt]) (hr'.lift (okS_lift hlift base true)))
        refine .made (vc := .tuple #[]) ?_ key.1 key.2 tup0_rel (fun _ _ => rfl)
        rw [Sem.run_bind, hrun]
        rfl
    | box _ => exact .fail
    | row _ _ _ => exact .fail
    | iter _ _ => exact .fail
    | dead => exact .fail
  · exact .fail

theorem lookup_run (hC : CfgOk P C) {ok : Nat → Prop} {T kt et : TypeId} (hu : P.underlying T = some (.map kt et)) (hk : keyTy C 20 kt = true) (hve : (C.ty et).size ≠ 0) {kd : List D} (hf : kfit C 20 kt kd = true) (hl : kd.length = (C.ty kt).size) {kc : Value} (hkc : aggB kc = isAgg (C.ty kt).k) (hkr : DsRel w ok kd kc.cells)
    {ds : List (List D × List D)} {mv : Value} {es : Array MapEntry} (hg : (mv = .map none ∧ es = #[]) ∨ ∃ b clock, mv = .map (some b) ∧ w.heap[b]? = some (.map es clock)) (hr : EnRel w ok ds es.toList) {r : Option (List D)} (hs : mpGet kd ds = some r) (c : Bool) :
    ∃ v, (Instr.lookup T mv kc c).run P w = .ok (if c then .tuple #[v, .bool r.isSome] else v) w ∧ DsRel w ok (r.getD ((C.ty et).lk.map zeroD)) v.cells ∧ (aggB v = decide ((r.getD ((C.ty et).lk.map zeroD)).length ≠ 1) ∨ (r = none ∧ aggB v = isAgg (C.ty et).k)) := by
  have hT := (hC kt).1 (keyTy_known hk)
  have hTe := (hC et).1 (known_of_pos hC hve)
  rw [mpGet_find, Option.map_eq_some_iff] at hs
  obtain ⟨o, ho, rfl⟩ := hs
  have hfk := find_run (w := w) hC hk hf hl hkc hkr hr ho
  have hch : (Instr.checkKey es.isEmpty 10000 kt kc).run P w = .ok () w := by
    have := check_run (P := P) (w := w) hC es.isEmpty 20 kt kc.cells 10000 (by omega) hk (by rw [hkr.1, hl])
    rwa [cells_valOf hkc] at this
  have hgo : ∀ v ok, ((do
      Instr.checkKey es.isEmpty 10000 kt kc
      let (v, ok) ← match ← Instr.findKey kt kc es.toList with
        | some (_, v) => pure (v, true)
        | none => pure (← zeroValue et, false)
      pure (if c then .tuple #[v, .bool ok] else v)) : Sem Value).run P w = .ok (if c then .tuple #[v, .bool ok] else v) w →
      (Instr.lookup T mv kc c).run P w = .ok (if c then .tuple #[v, .bool ok] else v) w := by
    intro v ok h
    rw [← h]
    rcases hg with ⟨rfl, rfl⟩ | ⟨b, clock, rfl, hg⟩
    · unfold Instr.lookup
      rw [Sem.run_bind, run_underlying hu]
      rfl
    · unfold Instr.lookup
      rw [Sem.run_bind, run_underlying hu]
      simp only [Result.andThen_ok]
      rw [Sem.run_bind, MapKept.run_getObj_map hg]
      rfl
  obtain ⟨i, z, i1, i2, i3, i4, i5, i6, _⟩ := hTe.i
  have hz : (zeroValue et).run P w = .ok z w := by simp [zeroValue, typeInfo, i1, i4]
  cases o with
  | none =>
    refine ⟨z, ?_, ?_, .inr ⟨rfl, hTe.za i z i1 i4⟩⟩
    · refine hgo z false ?_
      simp only [Result.andThen_ok, Sem.run_bind, hch, hfk, Option.map_none, hz]
      cases c <;> rfl
    · refine ⟨by rw [← Array.length_toList, i5]; simp, fun j hj => ?_⟩
      simp at hj
      have e1 : z.cells.getD j undef = (z.cells.toList).getD j undef := by simp [List.getD_eq_getElem?_getD, Array.getD_eq_getD_getElem?]
      rw [e1, i5]
      simp only [Option.map_none, Option.getD_none]
      rw [getD_of_lt (by simpa using hj), getD_of_lt (by simpa using hj)]
      simpa using zero_rel _
  | some j =>
    obtain ⟨hj, _⟩ := mpFind_lt ho
    have hv := hr.v j hj
    refine ⟨(es.toList.getD j default).val, ?_, hv.2, .inl hv.1⟩
    refine hgo (es.toList.getD j default).val true ?_
    simp only [Result.andThen_ok, Sem.run_bind, hch, hfk, Option.map_some]
    cases c <;> rfl
end
end Go.Proofs.EV
set_option linter.unusedVariables false
set_option linter.unusedSimpArgs false
set_option linter.unusedSectionVars false
namespace Go.Proofs.EV
open Go Go.RowKit
variable [Dr]

section
variable {P : Program} {base s m : Nat} {w : World} {L : Lks} {H : List Ob} {C : Cfg} {sm : Sem Value}

theorem found_ok (hH : HRel w base L H) (hC : CfgOk P C) {T kt et : TypeId} (hu : P.underlying T = some (.map kt et)) {k : V} {vk mv : Value} (hk : VRel w (okW w L H) base L k vk) (c fr : Bool) {ds : List (List D × List D)} {es : Array MapEntry}
    (hg : (mv = .map none ∧ es = #[]) ∨ ∃ b clock, mv = .map (some b) ∧ w.heap[b]? = some (.map es clock)) (hr : EnRel w (okS (okW w L H) base fr) ds es.toList) :
    OpOk P base s m w L H (foundHM C kt et k c fr ds) (Instr.lookup T mv vk c) := by
  unfold foundHM
  refine .cnd (fun hc => ?_) (fun _ => .fail)
  simp only [Bool.and_eq_true, beq_iff_eq, decide_eq_true_eq] at hc
  obtain ⟨hkt, hvt, hak, hkl⟩ := hc
  simp only [valTy, Bool.and_eq_true, Bool.or_eq_true, Bool.not_eq_true', decide_eq_true_eq] at hvt
  have hTk := (hC kt).1 (keyTy_known hkt)
  have hpk := hTk.pos
  have hTv := (hC et).1 (known_of_pos hC hvt.1)
  have hk0 : 0 < (cellsOf k).length := by omega
  obtain ⟨kl, kr⟩ := cells_rel hk hk0
  have ak : aggB vk = isAgg (C.ty kt).k := by rw [aggV_rel hk hk0, hak]
  refine freezes_ok (cellsOf k) hH _ kl kr fun kd H1 hf1 hkd hkr => ?_
  refine .cnd (fun hfit => ?_) (fun _ => .fail)
  refine .od fun r hget => ?_
  have hm1 : ∀ b, okS (okW w L H) base fr b → okS (okW w L H1) base fr b := fun b hb => ⟨(hf1.x.ok b hb.1).1, hb.2⟩
  -- the two kinds of what is read
  have key : ∀ (ok : Nat → Prop) (hok : ∀ b, okS (okW w L H1) base true b → ok b) (hok2 : ∀ b, okS (okW w L H1) base fr b → ok b), ∃ v, (Instr.lookup T mv vk c).run P w = .ok (if c then .tuple #[v, .bool r.isSome] else v) w ∧ DsRel w ok (r.getD ((C.ty et).lk.map zeroD)) v.cells ∧ (aggB v = decide ((r.getD ((C.ty et).lk.map zeroD)).length ≠ 1) ∨ (r = none ∧ aggB v = isAgg (C.ty et).k)) := by
    intro ok hok hok2
    have hkd' : DsRel w ok kd vk.cells := .of_list (by omega) fun i hi => (hkr i hi).mono hok
    exact lookup_run hC hu hkt hvt.1 hfit (by omega) ak hkd' hg (hr.lift fun b hb => ⟨hok2 b (hm1 b hb), rfl⟩) hget c
  obtain ⟨v, hrun, hrel, hagg⟩ := key (okS (okW w L H1) base false) (fun b hb => ⟨hb.1, fun h => by cases h⟩) (fun b hb => ⟨hb.1, fun h => by cases h⟩)
  have hrel2 : fr = true → DsRel w (okS (okW w L H1) base true) (r.getD ((C.ty et).lk.map zeroD)) v.cells := by
    intro hfr
    subst hfr
    obtain ⟨v', h1, h2, _⟩ := key (okS (okW w L H1) base true) (fun b hb => hb) (fun b hb => hb)
    rw [hrun] at h1
    have : v = v' := by
      simp only [Result.ok.injEq] at h1
      cases c with
      | true => simpa using h1
      | false => simpa using h1
    rw [this]; exact h2
  have hlk : (C.ty et).lk.length = (C.ty et).size := hTv.len.symm
  refine .gd fun hlen => ?_
  have hlen := of_decide_eq_true hlen
  by_cases htriv : True
  · have av : aggB v = isAgg (C.ty et).k := by
      rcases hagg with h | ⟨_, h⟩
      · rw [h, hlen]
        cases e : isAgg (C.ty et).k with
        | true =>
          rw [e] at hvt
          simp at hvt
          simpa using hvt.2
        | false => simp [hTv.one e]
      · exact h
    have hrow : ∀ jj, jj < (C.ty et).lk.length → CRel w (okS (okW w L H1) base fr) (cellD [r.getD ((C.ty et).lk.map zeroD)] 0 (0 + jj)) (v.cells.getD (0 + jj) undef) := by
      intro jj hj
      rw [Nat.zero_add]
      have e1 : cellD [r.getD ((C.ty et).lk.map zeroD)] 0 jj = (r.getD ((C.ty et).lk.map zeroD)).getD jj .nilp := rfl
      rw [e1]
      cases hfr : fr with
      | true => exact (hrel2 hfr).2 jj (by omega)
      | false => exact hrel.2 jj (by omega)
    refine leafs_ok (fun j => v.cells.getD j undef) (C.ty et).lk 0 hrow fun xs hxl _ hxs => ?_
    have hcs : CsRel w (okW w L H1) base L xs v.cells := ⟨by rw [hrel.1]; omega, fun j hj => by have := hxs j hj; rwa [Nat.zero_add] at this⟩
    have hmk := mkVal_ok hTv hcs (by omega)
    rw [cells_valOf av] at hmk
    refine .ret hf1.h (hrun.trans ?_) (vc := if c then .tuple #[v, .bool r.isSome] else v) ?_
    · rfl
    · cases c with
      | true =>
        refine .tup _ _ rfl fun i hi => ?_
        match i, hi with
        | 0, _ => exact hmk
        | 1, _ => exact vbool_rel _
      | false => exact hmk
  · exact absurd trivial htriv

theorem lookup_ok (hH : HRel w base L H) (hC : CfgOk P C) (T : TypeId) {x k : V} {vx vk : Value} (hx : VRel w (okW w L H) base L x vx) (hk : VRel w (okW w L H) base L k vk) (c : Bool) :
    OpOk P base s m w L H (lookupHM C T x k c) (Instr.lookup T vx vk c) := by
  unfold lookupHM
  split
  · rename_i kt et hkT
    have hu := ((hC T).1 (by rw [hkT]; trivial)).k
    rw [hkT] at hu
    split
    · rename_i id
      refine .get ?_
      cases e : obj H id with
      | mp ds =>
        cases hx with
        | rm _ lk b hl hb =>
          obtain ⟨clock, es, hg, hr⟩ := hH.mp e hl hb
          exact found_ok hH hC hu hk c true (.inr ⟨b, clock, rfl, hg⟩) hr
      | box _ => exact .fail
      | row _ _ _ => exact .fail
      | iter _ _ => exact .fail
      | dead => exact .fail
    · rename_i fr ds
      cases hx with
      | one _ _ _ hd =>
      cases hd with
      | mp _ b clock es hok h0 hl hk0 hkk hks hvs hv0 hv =>
        exact found_ok hH hC hu hk c fr (.inr ⟨b, clock, rfl, h0⟩) ⟨by simpa using hl, fun i hi => by rw [aget_toList]; exact ⟨hks i hi, hk0 i hi, fun j hj => hkk i j hi hj⟩, fun i hi => by rw [aget_toList]; exact ⟨hvs i hi, hv0 i hi, fun j hj => hv i j hi hj⟩⟩
    · cases hx with
      | one _ _ _ hd =>
      cases hd
      exact found_ok hH hC hu hk c _ (.inl ⟨rfl, rfl⟩) ⟨rfl, fun i hi => by simp at hi, fun i hi => by simp at hi⟩
    · exact .fail
  · exact .fail

theorem clear_ok (hH : HRel w base L H) (hC : CfgOk P C) (ts : Array TypeId) (ty : TypeId) {x : V} {vx : Value} (hx : VRel w (okW w L H) base L x vx) (ht : 0 < ts.size) :
    OpOk P base s m w L H (clearHM C (ts.toList.getD 0 0) x) (Builtin.clear_ ts ty #[vx]) := by
  have e0 : ts[0]? = some (ts.toList.getD 0 0) := by
    rw [getD_of_lt (by simpa using ht)]; simp [ht]
  generalize ts.toList.getD 0 0 = T at e0 ⊢
  unfold clearHM
  split
  · rename_i e1 hk
    have hu := ((hC T).1 (by rw [hk]; trivial)).k
    rw [hk] at hu
    split
    · exact .fail
    rename_i hs0
    have hTe := (hC e1).1 (known_of_pos hC hs0)
    split
    · cases hx with
      | nils => exact .ret hH (by simp [Builtin.clear_, e0, run_underlying hu w]) tup0_rel
    · rename_i id off len
      refine .get ?_
      cases e : obj H id with
      | row arr sz es =>
        dsimp only
        split
        · rename_i hsz
          cases hx with
          | rs _ _ _ lk a c hl hn hc ha ha0 hcc =>
          obtain ⟨g1, g2, g3, g4⟩ := hH.row e hl
          rcases Nat.eq_zero_or_pos len with rfl | hpos
          · have hsp : splice es off (List.replicate 0 ((C.ty e1).lk.map zeroD)) = es := by simp [splice]
            rw [hsp]
            have hrun : (Builtin.clear_ ts ty #[.slice a 0 c]).run P w = .ok (.tuple #[]) w := by
              cases a <;> simp [Builtin.clear_, e0, run_underlying hu w]
            have hset : H.set id (.row arr sz es) = H := by
              rw [← e]
              apply List.ext_getElem?
              intro j
              rw [List.getElem?_set]
              split
              · rename_i h
                subst h
                have := live_lt (H := H) (id := id) (by rw [e]; rfl)
                simp [this, obj, List.getD_eq_getElem?_getD]
              · rfl
            refine ⟨fun R k r hr => ?_⟩
            have hr' : k (.tup []) (H.set id (.row arr sz es)) = some r := hr
            rw [hset] at hr'
            exact ⟨_, _, _, _, _, hr', hrun, Ext.refl .., hH, tup0_rel⟩
          · obtain ⟨b, eb, rfl⟩ := ha hpos
            obtain ⟨z, z1, z2⟩ := hTe.zero (w := w)
            have hzs : z.cells.size = sz := by rw [← Array.length_toList, z2, List.length_map, ← hTe.len, hsz]
            have hzl : (Builtin.zeroCells z.cells len).toList.length = len * sz := by simp [Builtin.zeroCells, hzs]
            have hzg : ∀ i j, i < len → j < sz → (Builtin.zeroCells z.cells len).toList.getD (i * sz + j) undef = zeroVal ((C.ty e1).lk.getD j .bool) := by
              intro i j hi hj
              have hlt := mul_lt (n := len) hi hj
              have hlk : (C.ty e1).lk.length = sz := by rw [← hTe.len, hsz]
              rw [getD_of_lt (by rw [hzl]; exact hlt)]
              simp only [Builtin.zeroCells, Array.toList_map, Array.toList_range, List.getElem_map, List.getElem_range, hzs]
              have hm : (i * sz + j) % sz = j := by rw [Nat.add_comm, Nat.add_mul_mod_self_right]; exact Nat.mod_eq_of_lt hj
              rw [hm]
              have e2 : z.cells[j]! = z.cells.toList.getD j default := by simp [List.getD_eq_getElem?_getD, getElem!_def]; cases z.cells[j]? <;> rfl
              rw [e2, z2, getD_of_lt (by simpa [hlk] using hj), getD_of_lt (by simpa [hlk] using hj)]
              simp
            have hlk : (C.ty e1).lk.length = sz := by rw [← hTe.len, hsz]
            have hle : off + len ≤ es.length := by omega
            have key := rowStore_ok (P := P) (s := s) (m := m) hH (es' := splice es off (List.replicate len ((C.ty e1).lk.map zeroD))) e hl eb (o := off * sz) (vs := (Builtin.zeroCells z.cells len).toList) (by rw [splice_len _ _ _ (by simpa using hle)])
              (by rw [hzl, ← Nat.add_mul]; exact Nat.mul_le_mul_right _ hle)
              (fun v hv => by
                obtain ⟨i, hi, e3⟩ := List.getElem_of_mem hv
                rw [hzl] at hi
                have hp : 0 < sz := g3
                have h3 := hzg (i / sz) (i % sz) (by rw [Nat.div_lt_iff_lt_mul hp]; exact hi) (Nat.mod_lt _ hp)
                rw [Nat.mul_comm, Nat.div_add_mod] at h3
                rw [getD_of_lt (by rw [hzl]; exact hi), e3] at h3
                rw [h3]
                exact (zero_rel (w := w) (ok := fun _ => True) _).one)
              (fun i j hi hj => by
                have hsp := splice_get es off (List.replicate len ((C.ty e1).lk.map zeroD)) ([] : List D) (by simpa using hle) i
                simp only [List.length_replicate] at hsp
                rw [hzl]
                by_cases hin : off ≤ i ∧ i < off + len
                · left
                  have hlt := mul_lt (n := len) (i := i - off) (by omega) hj
                  refine ⟨(i - off) * sz + j, hlt, ?_, ?_⟩
                  · have : i = off + (i - off) := by omega
                    rw [this, Nat.add_mul]; simp; omega
                  · rw [hzg (i - off) j (by omega) hj]
                    unfold cellD
                    rw [hsp, if_pos hin, getD_of_lt (l := List.replicate len ((C.ty e1).lk.map zeroD)) (i := i - off) (by simp; omega)]
                    simp only [List.getElem_replicate]
                    rw [getD_of_lt (by simpa [hlk] using hj), getD_of_lt (by simpa [hlk] using hj)]
                    simpa using zero_rel _
                · right
                  refine ⟨?_, ?_⟩
                  · rw [← Nat.add_mul]
                    rcases Nat.lt_or_ge i off with h | h
                    · left; exact mul_lt (n := off) h hj
                    · right
                      have : (off + len) * sz ≤ i * sz := Nat.mul_le_mul_right _ (by omega)
                      omega
                  · unfold cellD
                    rw [hsp, if_neg hin])
            refine .made (vc := .tuple #[]) ?_ key.2.1 key.2.2 tup0_rel (fun _ _ => rfl)
            have h1 := key.1
            rw [show off * sz = off * lk.sz by rw [g1]] at h1
            obtain ⟨n, rfl⟩ : ∃ n, len = n + 1 := ⟨len - 1, by omega⟩
            simp only [Builtin.clear_, e0]
            show Sem.run P (underlying T >>= _) w = _
            rw [Sem.run_bind, run_underlying hu w]
            simp only [Result.andThen_ok]
            show Sem.run P (zeroValue e1 >>= _) w = _
            rw [Sem.run_bind, z1]
            simp only [Result.andThen_ok]
            rw [Sem.run_bind, h1, g1]
            rfl
        · exact .fail
      | _ => exact .fail
    · exact .fail
  · exact .fail
end
end Go.Proofs.EV
set_option linter.unusedVariables false
set_option linter.unusedSimpArgs false
set_option linter.unusedSectionVars false
namespace Go.Proofs.EV
open Go Go.RowKit
variable [Dr]

section
variable {P : Program} {base s m : Nat} {w : World} {L : Lks} {H : List Ob} {C : Cfg} {sm : Sem Value}

/-- The operations that call no function. -/
def plainOp : Op → Bool
  | .call c => match c.callee with
    | .builtin _ => true
    | _ => false
  | _ => true

theorem min_ok (hH : HRel w base L H) (ts : Array TypeId) (ty : TypeId) {fr fr' : Bool} {k k' : IntKind} {a b : Int} {vx vy : Value} (hx : VRel w (okW w L H) base L (.one fr (.int k a)) vx) (hy : VRel w (okW w L H) base L (.one fr' (.int k' b)) vy) :
    OpOk P base s m w L H (if k = k' then .ret (vint k (min a b)) else .fail) (Builtin.min_ ts ty #[vx, vy]) := by
  rw [hx.int_inv, hy.int_inv]
  split
  · refine .ret hH ?_ (vint_rel _ _)
    simp only [Builtin.min_, List.foldlM, Builtin.min2]
    simp
    omega
  · exact .fail
theorem max_ok (hH : HRel w base L H) (ts : Array TypeId) (ty : TypeId) {fr fr' : Bool} {k k' : IntKind} {a b : Int} {vx vy : Value} (hx : VRel w (okW w L H) base L (.one fr (.int k a)) vx) (hy : VRel w (okW w L H) base L (.one fr' (.int k' b)) vy) :
    OpOk P base s m w L H (if k = k' then .ret (vint k (max a b)) else .fail) (Builtin.max_ ts ty #[vx, vy]) := by
  rw [hx.int_inv, hy.int_inv]
  split
  · refine .ret hH ?_ (vint_rel _ _)
    simp only [Builtin.max_, List.foldlM, Builtin.max2]
    simp
    omega
  · exact .fail

theorem list_rel {ρ : Operand → V} {ρc : Operand → Value} {ok : Nat → Prop} (hρ : ∀ x, VRel w ok base L (ρ x) (ρc x)) (xs : List Operand) : CsRel w ok base L (xs.map ρ) (xs.map ρc).toArray := by
  refine ⟨by simp, fun i hi => ?_⟩
  have hi' : i < xs.length := by simpa using hi
  rw [getD_of_lt hi, agetD_of_lt (by simpa using hi')]
  simpa using hρ xs[i]

theorem ps_rel {ρ : Operand → V} {ρc : Operand → Value} {ok : Nat → Prop} (hρ : ∀ x, VRel w ok base L (ρ x) (ρc x)) : ∀ (xs : List (Nat × Operand)), Ps (VRel w ok base L) (xs.map fun p => (p.1, ρ p.2)) (xs.map fun p => (p.1, ρc p.2))
  | [] => .nil
  | p :: xs => .cons p.1 (hρ p.2) (ps_rel hρ xs)

theorem opt_rel {ρ : Operand → V} {ρc : Operand → Value} {R : V → Value → Prop} (hρ : ∀ x, R (ρ x) (ρc x)) (x : Option Operand) : OptRel R (x.map ρ) (x.map ρc) := by
  cases x with
  | none => exact .none
  | some x => exact .some (hρ x)

/-- What an operation that calls nothing yields. -/
structure OpN (P : Program) (base s m : Nat) (w : World) (L : Lks) (H : List Ob) (prog : HM V) (sem : Sem Next) : Prop where
  out : ∀ (R : Type) (c : V → List Ob → Option R) (r : R), prog.run H c = some r →
    ∃ v H' vc w' L', c v H' = some r ∧ (sem.run P w = .ok (.value vc) w' ∨ (sem.run P w = .ok .skip w' ∧ vc = undef)) ∧ Ext base s m w L H w' L' H' ∧ HRel w' base L' H' ∧ VRel w' (okW w' L' H') base L' v vc

theorem OpOk.n {prog : HM V} (h : OpOk P base s m w L H prog sm) : OpN P base s m w L H prog (do pure (.value (← sm))) :=
  ⟨fun R c r hr => by
    obtain ⟨v, H', vc, w', L', h1, h2, h3⟩ := h.out R c r hr
    exact ⟨v, H', vc, w', L', h1, .inl (by rw [Sem.run_bind, h2]; rfl), h3⟩⟩
theorem OpOk.u {prog : HM V} {su : Sem Unit} (h : OpOk P base s m w L H prog (do su; pure (.tuple #[]))) : OpN P base s m w L H prog (do su; pure .skip) :=
  ⟨fun R c r hr => by
    obtain ⟨v, H', vc, w', L', h1, h2, h3⟩ := h.out R c r hr
    rw [Sem.run_bind] at h2
    cases e : su.run P w with
    | ok u w1 =>
      rw [e] at h2
      cases h2
      exact ⟨v, H', _, w', L', h1, .inr ⟨by rw [Sem.run_bind, e]; rfl, rfl⟩, h3⟩
    | halt x w1 => rw [e] at h2; cases h2⟩
theorem OpN.fail {sem : Sem Next} : OpN P base s m w L H .fail sem := ⟨fun _ _ _ h => by cases h⟩
theorem OpN.ret (hH : HRel w base L H) {v : V} {vc : Value} (hv : VRel w (okW w L H) base L v vc) : OpN P base s m w L H (.ret v) (pure (.value vc)) :=
  ⟨fun _ _ _ h => ⟨v, H, vc, w, L, h, .inl rfl, Ext.refl .., hH, hv⟩⟩

theorem args1 {ok : Nat → Prop} {x : V} {vargs : Array Value} (h : CsRel w ok base L [x] vargs) : vargs = #[vargs.getD 0 undef] ∧ VRel w ok base L x (vargs.getD 0 undef) := by
  refine ⟨?_, h.2 0 (by simp)⟩
  apply Array.ext
  · simpa using h.1
  · intro i h2 h3
    have : i = 0 := by simp at h3; exact h3
    subst this
    rw [agetD_of_lt h2]; rfl
theorem args2 {ok : Nat → Prop} {x y : V} {vargs : Array Value} (h : CsRel w ok base L [x, y] vargs) : vargs = #[vargs.getD 0 undef, vargs.getD 1 undef] ∧ VRel w ok base L x (vargs.getD 0 undef) ∧ VRel w ok base L y (vargs.getD 1 undef) := by
  refine ⟨?_, h.2 0 (by simp), h.2 1 (by simp)⟩
  have hs : vargs.size = 2 := by simpa using h.1
  apply Array.ext
  · simpa using hs
  · intro i h2 h3
    have : i = 0 ∨ i = 1 := by simp at h3; omega
    rcases this with rfl | rfl
    · rw [agetD_of_lt h2]; rfl
    · rw [agetD_of_lt h2]; rfl

theorem builtin_ok (hH : HRel w base L H) (hC : CfgOk P C) (hb : base ≤ w.heap.size) {b : Builtin} {ts : Array TypeId} {ty : TypeId} {cs : Array Bool} {args : List V} {vargs : Array Value}
    (hs : b = .append → s < H.length ∧ 0 < m ∧ L s = none) (hargs : CsRel w (okW w L H) base L args vargs) :
    OpN P base s m w L H (builtinHM C b ts.toList args s) (builtin b ts ty cs vargs) := by
  unfold builtinHM
  split
  · split
    · rename_i t tl x hts
      obtain ⟨e1, hx⟩ := args1 hargs
      rw [e1]
      have hsz : 0 < ts.size := by rw [← Array.length_toList, hts]; simp
      have := len_ok (s := s) (m := m) hH hC ts ty hx hsz
      rw [hts] at this
      exact this.n
    · exact .fail
  · split
    · rename_i t u tl x y hts
      obtain ⟨h1, h2, h3⟩ := hs rfl
      obtain ⟨e1, hx, hy⟩ := args2 hargs
      rw [e1]
      have hsz : 1 < ts.size := by rw [← Array.length_toList, hts]; simp
      have := append_ok (s := s) (m := m) hH hC h1 h2 h3 hb ts ty hsz hx hy
      rw [hts] at this
      exact this.n
    · exact .fail
  · split
    · obtain ⟨e1, hx, hy⟩ := args2 hargs
      rw [e1]
      exact (min_ok hH ts ty hx hy).n
    · exact .fail
  · split
    · obtain ⟨e1, hx, hy⟩ := args2 hargs
      rw [e1]
      exact (max_ok hH ts ty hx hy).n
    · exact .fail
  · split
    · rename_i t tl x hts
      obtain ⟨e1, hx⟩ := args1 hargs
      rw [e1]
      have hsz : 0 < ts.size := by rw [← Array.length_toList, hts]; simp
      have := clear_ok (s := s) (m := m) hH hC ts ty hx hsz
      rw [hts] at this
      exact this.n
    · exact .fail
  · exact .fail

theorem unOp_ok (hH : HRel w base L H) (op : UnOp) {x : V} {vx : Value} (hx : VRel w (okW w L H) base L x vx) :
    OpOk P base s m w L H (unHM op x) (Op.unary op vx) := by
  unfold unHM
  split
  · rw [hx.bool_inv]
    exact .ret hH rfl (vbool_rel _)
  · rw [hx.int_inv]
    exact .ret hH (by simp [Op.unary, Op.intArith]) (vint_rel _ _)
  · exact .fail

theorem extract_ok (hH : HRel w base L H) {x : V} {vx : Value} (hx : VRel w (okW w L H) base L x vx) (i : Nat) :
    OpOk P base s m w L H (extractHM x i) (Instr.extract vx i) := by
  unfold extractHM
  split
  · cases hx with
    | tup cs arr hl h =>
      refine .retO hH fun v hv => ?_
      obtain ⟨hi, rfl⟩ := List.getElem?_eq_some_iff.1 hv
      have h1 := h i hi
      rw [getD_of_lt hi, agetD_of_lt (by omega)] at h1
      exact ⟨_, by simp [Instr.extract, Array.getElem?_eq_getElem (by omega : i < arr.size)], h1⟩
  · exact .fail

theorem move_ok (hH : HRel w base L H) {x : V} {vx : Value} (hx : VRel w (okW w L H) base L x vx) (ty : TypeId) :
    OpN P base s m w L H (moveHM C ty x) (pure (.value vx)) := by
  unfold moveHM
  split
  · cases hx with
    | nils => split <;> exact .ret hH (.nils _)
  · exact .ret hH hx

theorem nilCheck_ok (hH : HRel w base L H) {ρ : Operand → V} {ρc : Operand → Value} {x : Operand} (hx : VRel w (okW w L H) base L (ρ x) (ρc x)) (dst : Option Tmp) (type : TypeId) (pos : _) (after : _) (guard : _) :
    OpN P base s m w L H (nilCheckHM (ρ x)) (execOp ρc ⟨dst, .nilCheck x, type, pos, after, guard⟩) := by
  simp only [execOp]
  generalize ρ x = y at hx ⊢
  generalize ρc x = vy at hx ⊢
  cases hx with
  | rp id o lk b hl hb => exact .ret hH (.rp id o lk b hl hb)
  | re id i j lk b hl hb hi => exact .ret hH (.re id i j lk b hl hb hi)
  | pe fr sz es i j b off cv hok h1 h2 => exact .ret hH (.pe fr sz es i j b off cv hok h1 h2)
  | fnv f a b va vb ha hb h1 h2 => exact .ret hH (.fnv f a b va vb ha hb h1 h2)
  | one fr d v hd =>
    cases hd with
    | pt cs b off cv hok h1 h2 => exact .ret hH (.one _ _ _ (.pt cs b off cv hok h1 h2))
    | fn f a b va vb ha hb h1 h2 => exact .ret hH (.one _ _ _ (.fn f a b va vb ha hb h1 h2))
    | _ => exact .fail
  | _ => exact .fail

theorem resolve_builtin {ρc : Operand → Value} {c : Call} {b : Builtin} (hc : c.callee = .builtin b) (type : TypeId) : ∃ cs, resolve ρc c type = pure { target := .builtin b c.argTypes type cs, args := c.args.map ρc } := by
  unfold resolve
  rw [hc]
  exact ⟨_, rfl⟩

/-- Every operation that calls no function. -/
theorem plain_ok (hH : HRel w base L H) (hC : CfgOk P C) (hb : base ≤ w.heap.size) {o : Oper} (hp : plainOp o.op = true) {ρ : Operand → V} {ρc : Operand → Value} (hρ : ∀ x, VRel w (okW w L H) base L (ρ x) (ρc x))
    (hs : s + need C o.op o.type ≤ H.length) (hf : ∀ id, s ≤ id → id < s + need C o.op o.type → L id = none) :
    OpN P base s (need C o.op o.type) w L H (opHM C o.op o.type ρ s) (execOp ρc o) := by
  obtain ⟨dst, op, type, pos, after, guard⟩ := o
  dsimp only at hp hs hf ⊢
  have hs1 : ∀ n, need C op type = n + 1 → s < H.length ∧ 0 < need C op type ∧ L s = none := fun n h => ⟨by omega, by omega, hf s (Nat.le_refl _) (by omega)⟩
  cases op <;> simp only [opHM] <;> try exact .fail
  case move x => exact move_ok hH (hρ x) type
  case assign x => exact move_ok hH (hρ x) type
  case pick c a b =>
    split
    · rename_i fr c' hc
      have h1 := hρ c
      rw [hc] at h1
      have := (pick_ok (P := P) (s := s) (m := need C (.pick c a b) type) hH c' _ _ _ _ (hρ a) (hρ b)).n
      refine ⟨fun R k r hr => ?_⟩
      obtain ⟨v, H', vc, w', L', q1, q2, q3⟩ := this.out R k r hr
      refine ⟨v, H', vc, w', L', q1, ?_, q3⟩
      simp only [execOp]
      rw [h1.bool_inv]
      simpa [asBool] using q2
    · exact .fail
  case alloc T =>
    obtain ⟨h1, h2, h3⟩ := hs1 0 rfl
    split
    · exact .fail
    · rename_i h
      have hk := known_of_pos hC h
      obtain ⟨i, z, i1, i2, i3, i4, i5, i6, _⟩ := ((hC T).1 hk).i
      have := (newVar_ok (P := P) (m := need C (.alloc T) type) hH hC hk h1 h2 h3 hb (vc := z) (zeros_rel (T := T) i5)).n
      refine ⟨fun R k r hr => ?_⟩
      obtain ⟨v, H', vc, w', L', q1, q2, q3⟩ := this.out R k r hr
      refine ⟨v, H', vc, w', L', q1, ?_, q3⟩
      have e : (execOp ρc ⟨dst, .alloc T, type, pos, after, guard⟩).run P w = ((do let v ← (do pure (.pointer (some (← newVar T z)))); pure (.value v)) : Sem Next).run P w := by
        simp [execOp, Instr.alloc, zeroValue, typeInfo, i1, i4]
      rw [e]; exact q2
  case box T x =>
    obtain ⟨h1, h2, h3⟩ := hs1 0 rfl
    split
    · exact .fail
    · rename_i h
      have hk := known_of_pos hC h
      by_cases hc0 : 0 < (cellsOf (ρ x)).length
      · exact (newVar_ok (P := P) (m := need C (.box T x) type) hH hC hk h1 h2 h3 hb ((hρ x).cells hc0)).n
      · have e0 : cellsOf (ρ x) = [] := List.length_eq_zero_iff.1 (by omega)
        rw [e0]
        unfold newVarHM
        split
        · rename_i n e hk2
          split
          · rename_i hh
            obtain ⟨g1, g2, g3⟩ := hh
            have g4 : 0 < n * (C.ty e).size := Nat.mul_pos g1 g2
            have g5 : 0 = n * (C.ty e).size := g3
            omega
          · exact .fail
        · split
          · rename_i hh
            simp at hh
            omega
          · exact .fail
  case build T ps =>
    have := (build_ok (P := P) (s := s) (m := need C (.build T ps) type) hH hC T (ps_rel hρ ps.toList)).n
    have e : (ps.toList.map fun p => (p.1, ρc p.2)).toArray = ps.map fun (i, x) => (i, ρc x) := by apply Array.ext'; simp
    rw [e] at this
    exact this
  case buildSlice T n ps =>
    obtain ⟨h1, h2, h3⟩ := hs1 0 rfl
    have := (buildSlice_ok (P := P) (s := s) (m := need C (.buildSlice T n ps) type) hH hC h1 h2 h3 hb T n (ps_rel hρ ps.toList)).n
    have e : (ps.toList.map fun p => (p.1, ρc p.2)).toArray = ps.map fun (i, x) => (i, ρc x) := by apply Array.ext'; simp
    rw [e] at this
    exact this
  case load T x =>
    split
    · exact .fail
    · rename_i h
      exact (load_ok hH hC (known_of_pos hC h) (hρ x)).n
  case store T x y =>
    split
    · exact .fail
    · rename_i h
      exact (store_ok hH hC (known_of_pos hC h) (hρ x) (hρ y)).u
  case nilCheck x => exact nilCheck_ok hH (hρ x) dst type pos after guard
  case binOp op T x y pos => exact (bin_ok hH hC op T _ _ _ _ x y (hρ x) (hρ y)).n
  case unOp op T x => exact (unOp_ok hH op (hρ x)).n
  case convert S T x =>
    obtain ⟨h1, h2, h3⟩ := hs1 0 rfl
    exact (conv_ok hH hC h1 h2 h3 hb S T (hρ x)).n
  case makeFunc f a b =>
    split
    · rename_i g
      have ha := list_rel hρ a.toList
      have hbb := list_rel hρ b.toList
      have e1 : (a.toList.map ρc).toArray = a.map ρc := by apply Array.ext'; simp
      have e2 : (b.toList.map ρc).toArray = b.map ρc := by apply Array.ext'; simp
      rw [e1] at ha
      rw [e2] at hbb
      refine ⟨fun R k r hr => ⟨_, H, .func (.func g) (a.map ρc) (b.map ρc), w, L, hr, .inl rfl, Ext.refl .., hH, .fnv g _ _ _ _ ha.1 hbb.1 ha.2 hbb.2⟩⟩
    · exact .fail
  case makeMap T r =>
    cases r with
    | some r => exact .fail
    | none =>
      obtain ⟨h1, h2, h3⟩ := hs1 0 rfl
      exact (makeMap_ok hH hC h1 h2 h3 hb T).n
  case mapUpdate T x k v => exact (mapUpdate_ok hH hC T (hρ x) (hρ k) (hρ v)).u
  case insert T x k v => exact (mapUpdate_ok hH hC T (hρ x) (hρ k) (hρ v)).u
  case lookup T x k ok => exact (lookup_ok hH hC T (hρ x) (hρ k) ok).n
  case makeSlice T x y =>
    obtain ⟨h1, h2, h3⟩ := hs1 0 rfl
    exact (makeSlice_ok hH hC h1 h2 h3 hb T (hρ x) (hρ y)).n
  case slice T x lo hi mx => exact (slice_ok hH hC T (hρ x) (opt_rel hρ lo) (opt_rel hρ hi) (opt_rel hρ mx)).n
  case fieldAddr T x f => exact (fieldAddr_ok hH hC T f (hρ x)).n
  case field T x f => exact (field_ok hH hC T f (hρ x)).n
  case indexAddr T x i => exact (indexAddr_ok hH hC T (hρ x) (hρ i)).n
  case index T x i => exact (index_ok hH hC T (hρ x) (hρ i)).n
  case extract x i => exact (extract_ok hH (hρ x) i).n
  case call c =>
    cases hc : c.callee with
    | builtin b =>
      have ha := list_rel hρ c.args.toList
      have e1 : (c.args.toList.map ρc).toArray = c.args.map ρc := by apply Array.ext'; simp
      rw [e1] at ha
      obtain ⟨cs, e⟩ : ∃ cs, (execOp ρc ⟨dst, .call c, type, pos, after, guard⟩).run P w = (builtin b c.argTypes type cs (c.args.map ρc)).run P w := by
        obtain ⟨cs, hr⟩ := resolve_builtin (ρc := ρc) hc type
        exact ⟨cs, by simp only [execOp, hr]; rfl⟩
      have := builtin_ok (P := P) (s := s) (m := need C (.call c) type) (b := b) (ts := c.argTypes) (ty := type) (cs := cs) hH hC hb (fun hb => hs1 0 (by simp only [need, hc, hb])) ha
      refine ⟨fun R k r hr => ?_⟩
      obtain ⟨v, H', vc, w', L', q1, q2, q3⟩ := this.out R k r hr
      refine ⟨v, H', vc, w', L', q1, ?_, q3⟩
      rw [e]; exact q2
    | value f => simp [plainOp, hc] at hp
    | invoke x n => simp [plainOp, hc] at hp
end
end Go.Proofs.EV
set_option linter.unusedVariables false
set_option linter.unusedSimpArgs false
set_option linter.unusedSectionVars false
namespace Go.Proofs.EV
open Go Go.RowKit
variable [Dr]

/-! ### What is handed to a callee -/
def QRel (w : World) (ok : Nat → Prop) : Q → Value → Prop
  | .one d, v => CRel w ok d v
  | .agg cs, v => ∃ arr, v = .agg arr ∧ arr.size = cs.length ∧ ∀ i, i < cs.length → CRel w ok (cs.getD i .nilp) (arr.getD i undef)

section
variable {P : Program} {base s m : Nat} {w : World} {L : Lks} {H : List Ob} {C : Cfg}

theorem mapRun {α β γ R : Type} {f : α → (β → HM γ) → HM γ} (rel : β → Nat → Prop) {c : γ → List Ob → Option R} {r : R} : ∀ (vs : List α) (o : Nat) (h : ∀ i (hi : i < vs.length) (k : β → HM γ), (f vs[i] k).run H c = some r → ∃ d, (k d).run H c = some r ∧ rel d (o + i)) (k : List β → HM γ),
    (mapHM f vs k).run H c = some r → ∃ ds : List β, ds.length = vs.length ∧ (∀ i (hi : i < ds.length), rel ds[i] (o + i)) ∧ (k ds).run H c = some r
  | [], o, h, k, hr => ⟨[], rfl, fun i hi => by simp at hi, hr⟩
  | v :: vs, o, h, k, hr => by
    obtain ⟨d, h1, h2⟩ := h 0 (by simp) _ hr
    obtain ⟨ds, k1, k2, k3⟩ := mapRun rel vs (o + 1) (fun i hi k hk => by
      obtain ⟨d, q1, q2⟩ := h (i + 1) (by simpa using hi) k hk
      exact ⟨d, q1, by rw [show o + 1 + i = o + (i + 1) by omega]; exact q2⟩) _ h1
    refine ⟨d :: ds, by simp [k1], fun i hi => ?_, k3⟩
    cases i with
    | zero => exact h2
    | succ i =>
      have := k2 i (by simpa using hi)
      rw [show o + 1 + i = o + (i + 1) by omega] at this
      exact this

theorem okS_lt {fr : Bool} : ∀ b, okS (okW w L H) base fr b → b < w.heap.size := fun b hb => hb.1.1

theorem snap_run {R γ : Type} {c : γ → List Ob → Option R} {r : R} (hH : HRel w base L H) : ∀ (n : Nat) (v : V) (vc : Value) (hv : VRel w (okW w L H) base L v vc) (k : D → HM γ), (snap n v k).run H c = some r → ∃ d, (k d).run H c = some r ∧ CRel w (fun b => b < w.heap.size) d vc := by
  intro n
  have base1 : ∀ (n : Nat) (v : V) (vc : Value) (hv : VRel w (okW w L H) base L v vc) (k : D → HM γ), (snap n v k).run H c = some r →
      (∀ id off, v = .rp id off → False) → (∀ f a b, v = .fnv f a b → False) → ∃ d, (k d).run H c = some r ∧ CRel w (fun b => b < w.heap.size) d vc := by
    intro n v vc hv k hr h1 h2
    cases hv with
    | one fr d _ hd => simp only [snap] at hr; exact ⟨d, hr, hd.mono okS_lt⟩
    | nils sz => simp only [snap] at hr; exact ⟨_, hr, .sl0 ..⟩
    | rw id lk hl =>
      simp only [snap, HM.run] at hr
      cases e : obj H id with
      | row arr sz es =>
        have e' : H.getD id .dead = .row arr sz es := e
        rw [e'] at hr
        refine ⟨_, hr, ?_⟩
        obtain ⟨g1, g2, g3, g4⟩ := hH.row e hl
        cases eb : lk.b with
        | none =>
          rw [eb] at g4
          rw [g4.1, g2, g4.1]
          exact .sl0 ..
        | some b =>
          rw [eb] at g4
          have hb := hH.rng id lk b (by rw [e]; rfl) hl eb
          have g5 : RowRel w (fun b => b < w.heap.size) b sz es lk.cap := by
            obtain ⟨cs, T, fr, q1, q2, q3, q4, q5⟩ := g4
            exact ⟨cs, T, fr, q1, q2, q3, q4, fun i j hi hj => by
              obtain ⟨v, e1, e2⟩ := q5 i j hi hj
              exact ⟨v, e1, e2.mono okS_lt⟩⟩
          have := row_sub g5 hb.2 (off := 0) (len := es.length) (by omega) lk.cap (by obtain ⟨_, _, _, _, _, q, _⟩ := g5; exact q)
          simpa [g2] using this
      | box cs => have e' : H.getD id .dead = .box cs := e; rw [e'] at hr; cases hr
      | mp cs => have e' : H.getD id .dead = .mp cs := e; rw [e'] at hr; cases hr
      | iter s p => have e' : H.getD id .dead = .iter s p := e; rw [e'] at hr; cases hr
      | dead => have e' : H.getD id .dead = .dead := e; rw [e'] at hr; cases hr
    | rs id off len lk a c' hl hn hc ha ha0 hcc =>
      simp only [snap, HM.run] at hr
      cases e : obj H id with
      | row arr sz es =>
        have e' : H.getD id .dead = .row arr sz es := e
        rw [e'] at hr
        refine ⟨_, hr, ?_⟩
        obtain ⟨g1, g2, g3, g4⟩ := hH.row e hl
        rcases Nat.eq_zero_or_pos len with rfl | hpos
        · simp only [List.take_zero]; exact .sl0 ..
        · obtain ⟨b, eb, rfl⟩ := ha hpos
          rw [eb] at g4
          have hb := hH.rng id lk b (by rw [e]; rfl) hl eb
          have g5 : RowRel w (fun b => b < w.heap.size) b sz es lk.cap := by
            obtain ⟨cs, T, fr, q1, q2, q3, q4, q5⟩ := g4
            exact ⟨cs, T, fr, q1, q2, q3, q4, fun i j hi hj => by
              obtain ⟨v, e1, e2⟩ := q5 i j hi hj
              exact ⟨v, e1, e2.mono okS_lt⟩⟩
          rw [g1]
          exact row_sub g5 hb.2 (by omega) c' hc
      | box cs => have e' : H.getD id .dead = .box cs := e; rw [e'] at hr; cases hr
      | mp cs => have e' : H.getD id .dead = .mp cs := e; rw [e'] at hr; cases hr
      | iter s p => have e' : H.getD id .dead = .iter s p := e; rw [e'] at hr; cases hr
      | dead => have e' : H.getD id .dead = .dead := e; rw [e'] at hr; cases hr
    | rm id lk b hl hb =>
      simp only [snap, HM.run] at hr
      cases e : obj H id with
      | mp es =>
        have e' : H.getD id .dead = .mp es := e
        rw [e'] at hr
        refine ⟨_, hr, ?_⟩
        have hbr := hH.rng id lk b (by rw [e]; rfl) hl hb
        obtain ⟨lk', h1, h2⟩ := hH.ob id (by rw [e]; rfl)
        rw [hl] at h1; cases h1
        rw [e] at h2
        obtain ⟨rr, clock, ms, q0, q1, q2, q3, q4, q4a, q4b, q5, q6⟩ := h2
        rw [hb] at q0; cases q0
        exact .mp es b clock ms hbr.2 q1 q2 q3 (fun i j hi hj => (q4 i j hi hj).mono okS_lt) q4a q4b q5 (fun i j hi hj => (q6 i j hi hj).mono okS_lt)
      | box cs => have e' : H.getD id .dead = .box cs := e; rw [e'] at hr; cases hr
      | row a b cs => have e' : H.getD id .dead = .row a b cs := e; rw [e'] at hr; cases hr
      | iter s p => have e' : H.getD id .dead = .iter s p := e; rw [e'] at hr; cases hr
      | dead => have e' : H.getD id .dead = .dead := e; rw [e'] at hr; cases hr
    | rp id off => exact (h1 _ _ rfl).elim
    | fnv f a b => exact (h2 _ _ _ rfl).elim
    | agg => simp only [snap] at hr; cases hr
    | tup => simp only [snap] at hr; cases hr
    | re id i j lk b hl hb hi =>
      by_cases h0 : i = 0 ∧ j = 0
      · obtain ⟨rfl, rfl⟩ := h0
        simp only [snap, HM.run] at hr
        cases e : obj H id with
        | row arr sz es =>
          have e' : H.getD id .dead = .row arr sz es := e
          rw [e'] at hr
          refine ⟨_, hr, ?_⟩
          obtain ⟨g1, g2, g3, g4⟩ := hH.row e hl
          rw [hb] at g4
          have hbr := hH.rng id lk b (by rw [e]; rfl) hl hb
          obtain ⟨cs, T, fr, q1, q2, q3, q4, q5⟩ := g4
          have hlen : (rowCells sz es).length = es.length * sz := by simp [rowCells]
          have hdiv : ∀ t, t < es.length * sz → t / sz < es.length ∧ t % sz < sz ∧ t / sz * sz + t % sz = t := fun t ht =>
            ⟨(Nat.div_lt_iff_lt_mul g3).2 ht, Nat.mod_lt _ g3, by rw [Nat.mul_comm]; exact Nat.div_add_mod t sz⟩
          rw [show (0 : Nat) * lk.sz + 0 = 0 by simp]
          refine .pt (rowCells sz es) b 0 (fun t => cs.getD t undef) hbr.2 (fun t ht => ?_) (fun t ht => ?_)
          · rw [hlen] at ht
            obtain ⟨d1, d2, d3⟩ := hdiv t ht
            obtain ⟨v, e1, e2⟩ := q5 (t / sz) (t % sz) d1 d2
            rw [d3] at e1
            rw [Nat.zero_add, Array.getD_eq_getD_getElem?, e1]
            simp [World.cell?, q1, e1]
          · rw [hlen] at ht
            obtain ⟨d1, d2, d3⟩ := hdiv t ht
            obtain ⟨v, e1, e2⟩ := q5 (t / sz) (t % sz) d1 d2
            rw [d3] at e1
            rw [Array.getD_eq_getD_getElem?, e1]
            have e3 : (rowCells sz es).getD t .nilp = cellD es (t / sz) (t % sz) := by
              rw [getD_of_lt (by rw [hlen]; exact ht)]
              simp [rowCells]
            rw [e3]
            exact e2.mono okS_lt
        | box cs => have e' : H.getD id .dead = .box cs := e; rw [e'] at hr; cases hr
        | mp cs => have e' : H.getD id .dead = .mp cs := e; rw [e'] at hr; cases hr
        | iter s p => have e' : H.getD id .dead = .iter s p := e; rw [e'] at hr; cases hr
        | dead => have e' : H.getD id .dead = .dead := e; rw [e'] at hr; cases hr
      · exfalso
        match i, j, h0 with
        | 0, 0, h0 => exact h0 ⟨rfl, rfl⟩
        | 0, _ + 1, _ => simp only [snap] at hr; cases hr
        | _ + 1, _, _ => simp only [snap] at hr; cases hr
    | pe => simp only [snap] at hr; cases hr
    | rit => simp only [snap] at hr; cases hr
    | undef => simp only [snap] at hr; cases hr
  induction n with
  | zero =>
    intro v vc hv k hr
    refine base1 0 v vc hv k hr (fun id off e => ?_) (fun f a b e => ?_)
    · subst e; simp only [snap] at hr; cases hr
    · subst e; simp only [snap] at hr; cases hr
  | succ n ih =>
    intro v vc hv k hr
    by_cases h1 : ∃ id off, v = .rp id off
    · obtain ⟨id, off, rfl⟩ := h1
      cases hv with
      | rp _ _ lk b hl hb =>
        simp only [snap, HM.run] at hr
        cases e : obj H id with
        | box cs =>
          have e' : H.getD id .dead = .box cs := e
          rw [e'] at hr
          obtain ⟨arr, T, fr, q1, q2, q3⟩ := hH.box e hl hb
          have hbr := hH.rng id lk b (by rw [e]; rfl) hl hb
          obtain ⟨ds, k1, k2, k3⟩ := mapRun (fun d i => CRel w (fun b => b < w.heap.size) d (arr.getD (off + i) undef)) (cs.drop off) 0 (fun i hi k hk => by
            have hlt : off + i < cs.length := by simp at hi; omega
            have h5 := q3.2 (off + i) hlt
            rw [getD_of_lt hlt] at h5
            have e5 : (cs.drop off)[i] = cs[off + i] := by simp
            rw [e5] at hk
            have := ih _ _ h5 k hk
            simpa using this) _ hr
          refine ⟨.pt ds, k3, .pt ds b off (fun j => arr.getD (off + j) undef) hbr.2 (fun j hj => ?_) (fun j hj => ?_)⟩
          · have : off + j < arr.size := by rw [q3.1]; simp at k1; omega
            simp [World.cell?, q1, Array.getD, this]
          · have := k2 j hj
            rw [getD_of_lt hj]
            simpa using this
        | mp cs => have e' : H.getD id .dead = .mp cs := e; rw [e'] at hr; cases hr
        | row a b cs => have e' : H.getD id .dead = .row a b cs := e; rw [e'] at hr; cases hr
        | iter s p => have e' : H.getD id .dead = .iter s p := e; rw [e'] at hr; cases hr
        | dead => have e' : H.getD id .dead = .dead := e; rw [e'] at hr; cases hr
    · by_cases h2 : ∃ f a b, v = .fnv f a b
      · obtain ⟨f, a, b, rfl⟩ := h2
        cases hv with
        | fnv _ _ _ va vb ha hb g1 g2 =>
          simp only [snap] at hr
          obtain ⟨da, k1, k2, k3⟩ := mapRun (fun d i => CRel w (fun b => b < w.heap.size) d (va.getD i undef)) a 0 (fun i hi k hk => by
            have h5 := g1 i hi
            rw [getD_of_lt hi] at h5
            have := ih _ _ h5 k hk
            simpa using this) _ hr
          obtain ⟨db, l1, l2, l3⟩ := mapRun (fun d i => CRel w (fun b => b < w.heap.size) d (vb.getD i undef)) b 0 (fun i hi k hk => by
            have h5 := g2 i hi
            rw [getD_of_lt hi] at h5
            have := ih _ _ h5 k hk
            simpa using this) _ k3
          refine ⟨.fn f da db, l3, .fn f da db va vb (by omega) (by omega) (fun j hj => ?_) (fun j hj => ?_)⟩
          · rw [getD_of_lt hj]; have := k2 j hj; simpa using this
          · rw [getD_of_lt hj]; have := l2 j hj; simpa using this
      · exact base1 (n + 1) v vc hv k hr (fun id off e => h1 ⟨id, off, e⟩) (fun f a b e => h2 ⟨f, a, b, e⟩)

theorem snapQ_run {R γ : Type} {c : γ → List Ob → Option R} {r : R} (hH : HRel w base L H) {v : V} {vc : Value} (hv : VRel w (okW w L H) base L v vc) (k : Q → HM γ) (hr : (snapQ v k).run H c = some r) : ∃ q, (k q).run H c = some r ∧ QRel w (fun b => b < w.heap.size) q vc := by
  unfold snapQ at hr
  split at hr
  · rename_i cs
    obtain ⟨arr, rfl, hcs⟩ := hv.agg_inv
    obtain ⟨ds, k1, k2, k3⟩ := mapRun (fun d i => CRel w (fun b => b < w.heap.size) d (arr.getD i undef)) cs 0 (fun i hi k hk => by
      have h5 := hcs.2 i hi
      rw [getD_of_lt hi] at h5
      have := snap_run hH 8 _ _ h5 k hk
      simpa using this) _ hr
    refine ⟨.agg ds, k3, arr, rfl, by rw [hcs.1, k1], fun i hi => ?_⟩
    rw [getD_of_lt hi]; have := k2 i hi; simpa using this
  · obtain ⟨d, h1, h2⟩ := snap_run hH 8 _ _ hv _ hr
    exact ⟨.one d, h1, h2⟩

/-! ### What comes back -/
inductive Res (w' : World) (ok : Nat → Prop) (b0 : Nat) : List RK → List Q → List Value → List (Option Nat) → Prop where
  | nil : Res w' ok b0 [] [] [] []
  | one (l : LK) {d : D} {v : Value} (h : CRel w' ok d v) {rs qs vs bs} (t : Res w' ok b0 rs qs vs bs) : Res w' ok b0 (.one l :: rs) (.one d :: qs) (v :: vs) bs
  | own (sz : Nat) (es : List (List D)) (cap : Nat) (b : Option Nat) (h0 : 0 < sz) (hb : match b with | none => es = [] ∧ cap = 0 | some b => b0 ≤ b ∧ b < w'.heap.size ∧ RowRel w' ok b sz es cap)
      {rs qs vs bs} (t : Res w' ok b0 rs qs vs bs) : Res w' ok b0 (.own sz :: rs) (.one (.sl sz es) :: qs) (.slice (b.map fun b => ⟨b, 0, none⟩) es.length cap :: vs) (b :: bs)
  | agg (ls : List LK) (ds : List D) (arr : Array Value) (hl : arr.size = ds.length) (hs : ls.length = ds.length) (h : ∀ i, i < ds.length → CRel w' ok (ds.getD i .nilp) (arr.getD i undef))
      {rs qs vs bs} (t : Res w' ok b0 rs qs vs bs) : Res w' ok b0 (.agg ls :: rs) (.agg ds :: qs) (.agg arr :: vs) bs

theorem Res.mono {w' : World} {ok ok' : Nat → Prop} {b0 : Nat} (h : ∀ b, ok b → ok' b) {rs : List RK} {qs : List Q} {vs : List Value} {bs : List (Option Nat)} (hr : Res w' ok b0 rs qs vs bs) : Res w' ok' b0 rs qs vs bs := by
  induction hr with
  | nil => exact .nil
  | one l hd t ih => exact .one l (hd.mono h) ih
  | own sz es cap b h0 hb t ih =>
    refine .own sz es cap b h0 ?_ ih
    cases b with
    | none => exact hb
    | some b =>
      obtain ⟨h1, h2, cs, T, fr, q1, q2, q3, q4, q5⟩ := hb
      exact ⟨h1, h2, cs, T, fr, q1, q2, q3, q4, fun i j hi hj => by
        obtain ⟨v, e1, e2⟩ := q5 i j hi hj
        exact ⟨v, e1, e2.mono h⟩⟩
  | agg ls ds arr hl hs hd t ih => exact .agg ls ds arr hl hs (fun i hi => (hd i hi).mono h) ih

def packV : List Value → Value
  | [v] => v
  | vs => .tuple vs.toArray

def RRel (w' : World) (b0 : Nat) (rks : List RK) (qs : List Q) (v : Value) : Prop :=
  ∃ vals bs, v = packV vals ∧ Res w' (fun b => b0 ≤ b ∧ b < w'.heap.size ∧ some b ∉ bs) b0 rks qs vals bs ∧ ∀ (i j : Nat) (b : Nat), bs[i]? = some (some b) → bs[j]? = some (some b) → i = j

theorem leaf_run {R γ : Type} {c : γ → List Ob → Option R} {r : R} {w' : World} {ok : Nat → Prop} {fr : Bool} {l : LK} {d : D} {v : Value} (hd : CRel w' ok d v) (k : V → HM γ) (hr : (leafO fr l (some d) k).run H c = some r) :
    ∃ x, (k x).run H c = some r ∧ ∀ (ok' : Nat → Prop) (base : Nat) (L' : Lks), (∀ b, ok b → okS ok' base fr b) → VRel w' ok' base L' x v := by
  have int_ex : ∀ {α : Type} {o : Option α} {f : α → HM γ}, (o.bind fun n => (f n).run H c) = some r → ∃ n, o = some n ∧ (f n).run H c = some r := fun h => Option.bind_eq_some_iff.1 h
  cases l with
  | int q =>
    obtain ⟨n, h1, h2⟩ := Option.bind_eq_some_iff.1 hr
    obtain ⟨d', e, h3⟩ := Option.bind_eq_some_iff.1 h1
    cases e
    cases d <;> simp only [D.int?] at h3 <;> try cases h3
    split at h3
    · rename_i hq
      cases h3
      subst hq
      cases hd
      exact ⟨_, h2, fun _ _ _ _ => vint_rel _ _⟩
    · cases h3
  | bool =>
    obtain ⟨n, h1, h2⟩ := Option.bind_eq_some_iff.1 hr
    obtain ⟨d', e, h3⟩ := Option.bind_eq_some_iff.1 h1
    cases e
    cases d <;> simp only [D.bool?] at h3 <;> cases h3
    cases hd
    exact ⟨_, h2, fun _ _ _ _ => vbool_rel _⟩
  | str =>
    obtain ⟨n, h1, h2⟩ := Option.bind_eq_some_iff.1 hr
    obtain ⟨d', e, h3⟩ := Option.bind_eq_some_iff.1 h1
    cases e
    cases d <;> simp only [D.str?] at h3 <;> cases h3
    cases hd
    exact ⟨_, h2, fun _ _ _ _ => vstr_rel _⟩
  | sl sz =>
    obtain ⟨n, h1, h2⟩ := Option.bind_eq_some_iff.1 hr
    obtain ⟨d', e, h3⟩ := Option.bind_eq_some_iff.1 h1
    cases e
    cases d <;> simp only [D.sl?] at h3 <;> try cases h3
    split at h3
    · rename_i hq
      cases h3
      subst hq
      exact ⟨_, h2, fun _ _ _ h => .one _ _ _ (hd.mono h)⟩
    · split at h3 <;> cases h3
      refine ⟨_, h2, fun _ _ _ h => .one _ _ _ ?_⟩
      cases hd with
      | sl0 => exact .sl0 ..
      | sl => exact .sl0 ..
  | nl z =>
    exact ⟨_, hr, fun _ _ _ h => .one _ _ _ (hd.mono h)⟩

theorem leafs_run {R γ : Type} {c : γ → List Ob → Option R} {r : R} {w' : World} {ok : Nat → Prop} {fr : Bool} {es : List (List D)} {i : Nat} (cv : Nat → Value) : ∀ (ls : List LK) (j : Nat) (hd : ∀ jj, jj < ls.length → CRel w' ok (cellD es i (j + jj)) (cv (j + jj))) (k : List V → HM γ) (hr : (leafs fr es i ls j k).run H c = some r),
    ∃ xs, (k xs).run H c = some r ∧ xs.length = ls.length ∧ ∀ (ok' : Nat → Prop) (base : Nat) (L' : Lks), (∀ b, ok b → okS ok' base fr b) → ∀ jj, jj < xs.length → VRel w' ok' base L' (xs.getD jj .undef) (cv (j + jj))
  | [], j, hd, k, hr => ⟨[], hr, rfl, fun _ _ _ _ jj hj => by simp at hj⟩
  | l :: ls, j, hd, k, hr => by
    obtain ⟨x, h1, h2⟩ := leaf_run (hd 0 (by simp)) _ hr
    obtain ⟨xs, k1, k2, k3⟩ := leafs_run cv ls (j + 1) (fun jj hj => by have := hd (jj + 1) (by simpa using hj); rwa [show j + (jj + 1) = j + 1 + jj by omega] at this) _ h1
    refine ⟨x :: xs, k1, by simp [k2], fun ok' base L' h jj hj => ?_⟩
    cases jj with
    | zero => simpa using h2 ok' base L' h
    | succ jj =>
      have := k3 ok' base L' h jj (by simpa using hj)
      rw [show j + 1 + jj = j + (jj + 1) by omega] at this
      simpa using this

def setRows (H : List Ob) (s : Nat) : List (Ob × Lk) → List Ob
  | [] => H
  | r :: rs => setRows (H.set s r.1) (s + 1) rs
theorem setRows_len : ∀ (rs : List (Ob × Lk)) (H : List Ob) (s : Nat), (setRows H s rs).length = H.length
  | [], _, _ => rfl
  | r :: rs, H, s => by rw [setRows, setRows_len rs]; simp
theorem setRows_out : ∀ (rs : List (Ob × Lk)) (H : List Ob) (s id : Nat), (id < s ∨ s + rs.length ≤ id) → obj (setRows H s rs) id = obj H id
  | [], _, _, _, _ => rfl
  | r :: rs, H, s, id, h => by
    simp only [List.length_cons] at h
    rw [setRows, setRows_out rs _ _ _ (by omega), obj_set, if_neg (by omega)]
theorem setRows_in : ∀ (rs : List (Ob × Lk)) (H : List Ob) (s i : Nat) (hi : i < rs.length), s + rs.length ≤ H.length → obj (setRows H s rs) (s + i) = rs[i].1
  | r :: rs, H, s, 0, hi, h => by
    simp only [List.length_cons] at h
    rw [setRows, setRows_out rs _ _ _ (by omega), obj_set, if_pos (by omega)]; rfl
  | r :: rs, H, s, i + 1, hi, h => by
    simp only [List.length_cons] at h hi
    rw [setRows, show s + (i + 1) = s + 1 + i by omega, setRows_in rs _ _ i (by omega) (by simp; omega)]; rfl
def newL (L : Lks) (s : Nat) (rs : List (Ob × Lk)) : Lks := ⟨fun id => if s ≤ id ∧ id < s + rs.length then (rs[id - s]?).map (·.2) else L id, L.hid⟩

theorem impt_run {R γ : Type} {c : γ → List Ob → Option R} {r : R} {w' : World} {ok : Nat → Prop} {b0 : Nat} : ∀ {rks : List RK} {qs : List Q} {vals : List Value} {bs : List (Option Nat)} (hres : Res w' ok b0 rks qs vals bs) {H : List Ob} (s : Nat) (k : List V → HM γ), (impt rks qs s k).run H c = some r →
    ∃ vs rows, (k vs).run (setRows H s rows) c = some r ∧ rows.length = owns rks ∧ vs.length = vals.length ∧ rows.map (·.2.b) = bs ∧
      (∀ i (hi : i < rows.length), ∃ sz es cap b, rows[i] = (.row false sz es, ⟨b, sz, cap, es.length⟩) ∧ 0 < sz ∧ match b with | none => es = [] ∧ cap = 0 | some b => b0 ≤ b ∧ b < w'.heap.size ∧ RowRel w' ok b sz es cap) ∧
      ∀ (ok' : Nat → Prop) (base : Nat) (L' : Lks), (∀ b, ok b → okS ok' base true b) → (∀ i (hi : i < rows.length), L' (s + i) = some rows[i].2) → ∀ i, i < vs.length → VRel w' ok' base L' (vs.getD i .undef) (vals.getD i undef)
  | _, _, _, _, .nil, H, s, k, hr => ⟨[], [], hr, rfl, rfl, rfl, fun i hi => by simp at hi, fun _ _ _ _ _ i hi => by simp at hi⟩
  | _, _, _, _, .one l (d := d) (v := v) h (rs := rs) (qs := qs) t, H, s, k, hr => by
    have h0 : (leafO true l (some d) fun v => impt rs qs s fun vs => k (v :: vs)).run H c = some r := hr
    obtain ⟨x, h1, h2⟩ := leaf_run h _ h0
    obtain ⟨vs, rows, k1, k2, k3, k4, k5, k6⟩ := impt_run t s _ h1
    refine ⟨x :: vs, rows, k1, k2, by simp [k3], k4, k5, fun ok' base L' g1 g2 i hi => ?_⟩
    cases i with
    | zero => simpa using h2 ok' base L' g1
    | succ i => simpa using k6 ok' base L' g1 g2 i (by simpa using hi)
  | _, _, _, _, .own sz es cap b h0 hb (rs := rs) (qs := qs) t, H, s, k, hr => by
    have h1 : (impt rs qs (s + 1) fun vs => k (.rw s :: vs)).run (H.set s (.row false sz es)) c = some r := by
      simpa [impt, HM.run, Q.one?, D.sl?] using hr
    obtain ⟨vs, rows, k1, k2, k3, k4, k5, k6⟩ := impt_run t (s + 1) _ h1
    refine ⟨.rw s :: vs, (.row false sz es, ⟨b, sz, cap, es.length⟩) :: rows, k1, by simp [owns, k2], by simp [k3], by simp [k4], fun i hi => ?_, fun ok' base L' g1 g2 i hi => ?_⟩
    · cases i with
      | zero => exact ⟨sz, es, cap, b, rfl, h0, hb⟩
      | succ i => simpa using k5 i (by simpa using hi)
    · cases i with
      | zero =>
        have := g2 0 (by simp)
        simp only [Nat.add_zero, List.getElem_cons_zero] at this
        simpa using VRel.rw_of (w := w') (ok := ok') (base := base) this rfl
      | succ i => simpa using k6 ok' base L' g1 (fun i hi => by
          have := g2 (i + 1) (by simpa using hi)
          rw [show s + (i + 1) = s + 1 + i by omega] at this
          simpa using this) i (by simpa using hi)
  | _, _, _, _, .agg ls ds arr hl hs h (rs := rs) (qs := qs) t, H, s, k, hr => by
    have h1 : (leafs true [ds] 0 ls 0 fun cs => impt rs qs s fun vs => k (.agg cs :: vs)).run H c = some r := by
      simpa [impt, HM.run, Q.agg?] using hr
    obtain ⟨xs, g1, g2, g3⟩ := leafs_run (fun j => arr.getD j undef) ls 0 (fun jj hj => by
      rw [Nat.zero_add]
      exact h jj (by omega)) _ h1
    obtain ⟨vs, rows, k1, k2, k3, k4, k5, k6⟩ := impt_run t s _ g1
    refine ⟨.agg xs :: vs, rows, k1, k2, by simp [k3], k4, k5, fun ok' base L' q1 q2 i hi => ?_⟩
    cases i with
    | zero =>
      refine .agg xs arr (by omega) fun j hj => ?_
      have := g3 ok' base L' q1 j hj
      simpa using this
    | succ i => simpa using k6 ok' base L' q1 q2 i (by simpa using hi)
end
end Go.Proofs.EV
set_option linter.unusedVariables false
set_option linter.unusedSimpArgs false
set_option linter.unusedSectionVars false
namespace Go.Proofs.EV
open Go Go.RowKit
variable [Dr]

section
variable {P : Program} {base : Nat} {w : World} {L L' : Lks}

/-! ### Other numbers -/
theorem idx_some {m : List Nat} {id n : Nat} (h : m.idxOf? id = some n) : m[n]? = some id := by
  have h1 : m.findIdx? (· == id) = some n := h
  obtain ⟨hlt, h2, _⟩ := List.findIdx?_eq_some_iff_getElem.1 h1
  rw [List.getElem?_eq_getElem hlt]
  simpa using h2

theorem rens_get (m : Nat → Option Nat) : ∀ (cs : List V) (i : Nat), (V.ren.rens m cs).getD i .undef = V.ren m (cs.getD i .undef)
  | [], i => by simp [V.ren.rens, V.ren]
  | c :: cs, 0 => by simp [V.ren.rens]
  | c :: cs, i + 1 => by simpa [V.ren.rens] using rens_get m cs i
theorem rens_len (m : Nat → Option Nat) : ∀ (cs : List V), (V.ren.rens m cs).length = cs.length
  | [] => rfl
  | c :: cs => by simp [V.ren.rens, rens_len m cs]

def RenL (f : Nat → Option Nat) (L L' : Lks) : Prop := ∀ {id n lk}, f id = some n → L id = some lk → L' n = some lk

theorem VRel.ren {ok : Nat → Prop} {m : Nat → Option Nat} (hL : RenL m L L') {x : V} {v : Value} (hr : VRel w ok base L x v) : VRel w ok base L' (x.ren m) v := by
  induction hr with
  | one fr d v hd => exact .one fr d v hd
  | agg cs arr hl h ih =>
    refine .agg _ arr (by rw [rens_len]; exact hl) fun i hi => ?_
    rw [rens_get]
    exact ih i (by rwa [rens_len] at hi)
  | tup cs arr hl h ih =>
    refine .tup _ arr (by rw [rens_len]; exact hl) fun i hi => ?_
    rw [rens_get]
    exact ih i (by rwa [rens_len] at hi)
  | fnv f a b va vb ha hb h1 h2 i1 i2 =>
    refine .fnv f _ _ va vb (by rw [rens_len]; exact ha) (by rw [rens_len]; exact hb) (fun i hi => ?_) (fun i hi => ?_)
    · rw [rens_get]; exact i1 i (by rwa [rens_len] at hi)
    · rw [rens_get]; exact i2 i (by rwa [rens_len] at hi)
  | nils sz => exact .nils sz
  | rw id lk hl =>
    simp only [V.ren]
    split
    · rename_i n hn; exact .rw n lk (hL hn hl)
    · exact .undef _
  | rs id off len lk a c hl hn hc ha ha0 hcc =>
    simp only [V.ren]
    split
    · rename_i n hn'; exact .rs n off len lk a c (hL hn' hl) hn hc ha ha0 hcc
    · exact .undef _
  | rp id off lk b hl hb =>
    simp only [V.ren]
    split
    · rename_i n hn'; exact .rp n off lk b (hL hn' hl) hb
    · exact .undef _
  | re id i j lk b hl hb hi =>
    simp only [V.ren]
    split
    · rename_i n hn'; exact .re n i j lk b (hL hn' hl) hb hi
    · exact .undef _
  | pe fr sz es i j b off cv hok h1 h2 => exact .pe fr sz es i j b off cv hok h1 h2
  | rm id lk b hl hb =>
    simp only [V.ren]
    split
    · rename_i n hn'; exact .rm n lk b (hL hn' hl) hb
    · exact .undef _
  | rit id lk b hl hb =>
    simp only [V.ren]
    split
    · rename_i n hn'; exact .rit n lk b (hL hn' hl) hb
    · exact .undef _
  | undef v => exact .undef v

theorem ObRel.ren {ok : Nat → Prop} {m : Nat → Option Nat} (hL : RenL m L L') {lk : Lk} {o : Ob} (h : ObRel w ok base L lk o) : ObRel w ok base L' lk (o.ren m) := by
  cases o with
  | box cs =>
    obtain ⟨b, arr, T, fr, q0, q1, q2, q3, q4⟩ := h
    refine ⟨b, arr, T, fr, q0, q1, by simp [q2], q3, fun i hi => ?_⟩
    have hi' : i < cs.length := by simpa using hi
    have := (q4 i hi').ren hL
    rw [getD_of_lt hi'] at this
    rw [getD_of_lt hi]
    simpa using this
  | row => exact h
  | mp => exact h
  | iter => exact h
  | dead => exact h
theorem live_ren (m : Nat → Option Nat) (o : Ob) : live (o.ren m) = live o := by cases o <;> rfl

theorem CsRel.ren {ok : Nat → Prop} {m : Nat → Option Nat} (hL : RenL m L L') {xs : List V} {arr : Array Value} (h : CsRel w ok base L xs arr) : CsRel w ok base L' (xs.map (V.ren m)) arr := by
  refine ⟨by simpa using h.1, fun i hi => ?_⟩
  have hi' : i < xs.length := by simpa using hi
  have := (h.2 i hi').ren hL
  rw [getD_of_lt hi'] at this
  rw [getD_of_lt hi]
  simpa using this

/-- Some of the objects, under other numbers; hid: what is hidden then. -/
def renL (m : List Nat) (L : Lks) (hid : Nat → Prop) : Lks := ⟨fun n => (m[n]?).bind L, hid⟩
theorem renL_ok (m : List Nat) (L : Lks) (hid : Nat → Prop) : RenL (fun id => m.idxOf? id) L (renL m L hid) := fun h1 h2 => by
  show (m[_]?).bind L.f = _
  rw [idx_some h1]; exact h2

/-- hid: the blocks of objects that are left out may be among what is hidden. -/
theorem ren_ok {H : List Ob} (hH : HRel w base L H) {m : List Nat} (hm : m.Nodup) (hid : Nat → Prop)
    (h1 : ∀ b, hid b → L.hid b ∨ ∃ id lk, id ∉ m ∧ live (obj H id) = true ∧ L id = some lk ∧ lk.b = some b) :
    HRel w base (renL m L hid) (m.map fun id => (H.getD id .dead).ren fun id => m.idxOf? id) ∧ ∀ b, okW w L H b → okW w (renL m L hid) (m.map fun id => (H.getD id .dead).ren fun id => m.idxOf? id) b := by
  have hob : ∀ n, (hn : n < m.length) → obj (m.map fun id => (H.getD id .dead).ren fun id => m.idxOf? id) n = (obj H m[n]).ren fun id => m.idxOf? id := fun n hn => by
    unfold obj
    rw [getD_of_lt (by simpa using hn)]
    simp
  have hlt : ∀ n, live (obj (m.map fun id => (H.getD id .dead).ren fun id => m.idxOf? id) n) = true → ∃ hn : n < m.length, live (obj H m[n]) = true := fun n h => by
    have hn : n < m.length := by simpa using live_lt h
    refine ⟨hn, ?_⟩
    rwa [hob n hn, live_ren] at h
  have hLn : ∀ n (hn : n < m.length), renL m L hid n = L m[n] := fun n hn => by simp [renL, hn]
  have hok : ∀ b, okW w L H b → okW w (renL m L hid) (m.map fun id => (H.getD id .dead).ren fun id => m.idxOf? id) b := fun b hb => ⟨hb.1, fun ⟨n, lk, h1, h2, h3⟩ => by
    obtain ⟨hn, h4⟩ := hlt n h1
    rw [hLn n hn] at h2
    exact hb.2 ⟨m[n], lk, h4, h2, h3⟩, fun hh => by
    rcases h1 b hh with h | ⟨id, lk, q0, q1, q2, q3⟩
    · exact hb.nh h
    · exact hb.no ⟨id, lk, q1, q2, q3⟩⟩
  refine ⟨⟨fun n h => ?_, fun n lk b h h2 h3 => ?_, fun n n' lk lk' b h h' h2 h2' h3 h3' => ?_, fun n hn => ?_, fun n lk b h h2 h3 hh => ?_, fun b hh => ?_⟩, hok⟩
  · obtain ⟨hn, h4⟩ := hlt n h
    obtain ⟨lk, h1, h2⟩ := hH.ob _ h4
    refine ⟨lk, by rw [hLn n hn]; exact h1, ?_⟩
    rw [hob n hn]
    exact (h2.ren (renL_ok m L hid)).lift (fun b hb => ⟨hok b hb, rfl⟩) (fun _ _ h => h) (fun _ _ => rfl)
  · obtain ⟨hn, h4⟩ := hlt n h
    rw [hLn n hn] at h2
    exact hH.rng _ lk b h4 h2 h3
  · obtain ⟨hn, h4⟩ := hlt n h
    obtain ⟨hn', h4'⟩ := hlt n' h'
    rw [hLn n hn] at h2
    rw [hLn n' hn'] at h2'
    have := hH.inj _ _ lk lk' b h4 h4' h2 h2' h3 h3'
    rcases Nat.lt_trichotomy n n' with h | h | h
    · exact absurd this (List.pairwise_iff_getElem.1 hm n n' hn hn' h)
    · exact h
    · exact absurd this.symm (List.pairwise_iff_getElem.1 hm n' n hn' hn h)
  · have : m[n]? = none := List.getElem?_eq_none (by simpa using hn)
    simp [renL, this]
  · obtain ⟨hn, h4⟩ := hlt n h
    rw [hLn n hn] at h2
    rcases h1 b hh with h | ⟨id, lk', q0, q1, q2, q3⟩
    · exact hH.nh _ lk b h4 h2 h3 h
    · have := hH.inj _ _ lk lk' b h4 q1 h2 q2 h3 q3
      exact q0 (this ▸ List.getElem_mem hn)
  · rcases h1 b hh with h | ⟨id, lk', q0, q1, q2, q3⟩
    · exact hH.hlt b h
    · exact (hH.rng id lk' b q1 q2 q3).2
end
end Go.Proofs.EV
set_option linter.unusedVariables false
set_option linter.unusedSimpArgs false
set_option linter.unusedSectionVars false
namespace Go.Proofs.EV
open Go Go.RowKit
variable [Dr]

section
variable {P : Program} {base s m : Nat} {w : World} {L : Lks} {H : List Ob} {C : Cfg}

theorem newL_in {rows : List (Ob × Lk)} {i : Nat} (hi : i < rows.length) : newL L s rows (s + i) = some rows[i].2 := by
  simp [newL, hi]
theorem newL_out {rows : List (Ob × Lk)} {id : Nat} (h : id < s ∨ s + rows.length ≤ id) : newL L s rows id = L id := by
  show (if _ then _ else _) = _
  rw [if_neg (by omega)]

/-- The rows that a callee hands back become one's own. -/
theorem news_ok (hH : HRel w base L H) (hb : base ≤ w.heap.size) {w' : World} (hbel : Below w.heap.size w w') {rows : List (Ob × Lk)} {bs : List (Option Nat)} (hrows : rows.map (·.2.b) = bs)
    (hinj : ∀ (i j : Nat) (b : Nat), bs[i]? = some (some b) → bs[j]? = some (some b) → i = j)
    (hmk : ∀ i (hi : i < rows.length), ∃ sz es cap b, rows[i] = (.row false sz es, ⟨b, sz, cap, es.length⟩) ∧ 0 < sz ∧ match b with | none => es = [] ∧ cap = 0 | some b => w.heap.size ≤ b ∧ b < w'.heap.size ∧ RowRel w' (fun b => w.heap.size ≤ b ∧ b < w'.heap.size ∧ some b ∉ bs) b sz es cap)
    (hs : s + m ≤ H.length) (hm : rows.length ≤ m) (hL : ∀ id, s ≤ id → id < s + m → L id = none) :
    HRel w' base (newL L s rows) (setRows H s rows) ∧ Ext base s m w L H w' (newL L s rows) (setRows H s rows) ∧
      ∀ b, (w.heap.size ≤ b ∧ b < w'.heap.size ∧ some b ∉ bs) → okS (okW w' (newL L s rows) (setRows H s rows)) base true b := by
  have hbl : ∀ i (hi : i < rows.length), bs[i]? = some rows[i].2.b := fun i hi => by rw [← hrows]; simp [hi]
  have hnew : ∀ id, s ≤ id → id < s + rows.length → ∃ i, ∃ hi : i < rows.length, id = s + i := fun id h1 h2 => ⟨id - s, by omega, by omega⟩
  have hle : LkLe L (newL L s rows) := fun id lk h => by
    by_cases hin : s ≤ id ∧ id < s + rows.length
    · rw [hL id hin.1 (by omega)] at h; cases h
    · rw [newL_out (by omega)]; exact h
  have hown : ∀ b, own (newL L s rows) (setRows H s rows) b → (some b ∈ bs ∧ w.heap.size ≤ b) ∨ own L H b := by
    rintro b ⟨id, lk, h1, h2, h3⟩
    by_cases hin : s ≤ id ∧ id < s + rows.length
    · obtain ⟨i, hi, rfl⟩ := hnew id hin.1 hin.2
      rw [newL_in hi] at h2; cases h2
      left
      have := hbl i hi
      rw [h3] at this
      refine ⟨List.mem_of_getElem? this, ?_⟩
      obtain ⟨sz, es, cap, b', e, _, hb'⟩ := hmk i hi
      rw [e] at h3
      have h3' : b' = some b := h3
      subst h3'
      exact hb'.1
    · right
      rw [setRows_out _ _ _ _ (by omega)] at h1
      rw [newL_out (by omega)] at h2
      exact ⟨id, lk, h1, h2, h3⟩
  have hok : ∀ b, okW w L H b → okW w' (newL L s rows) (setRows H s rows) b ∧ w'.heap[b]? = w.heap[b]? := fun b h =>
    ⟨⟨Nat.lt_of_lt_of_le h.1 hbel.size, fun ho => by
      rcases hown b ho with ⟨_, h5⟩ | h5
      · have := h.1; omega
      · exact h.2 h5, h.nh⟩, hbel.block b h.1⟩
  have hokn : ∀ b, (w.heap.size ≤ b ∧ b < w'.heap.size ∧ some b ∉ bs) → okS (okW w' (newL L s rows) (setRows H s rows)) base true b := by
    rintro b ⟨h1, h2, h3⟩
    refine ⟨⟨h2, fun ho => ?_, fun hh => by have := hH.hlt b hh; omega⟩, fun _ => by omega⟩
    rcases hown b ho with ⟨h5, _⟩ | ⟨id, lk, q1, q2, q3⟩
    · exact h3 h5
    · have := (hH.rng id lk b q1 q2 q3).2; omega
  refine ⟨⟨fun id hl => ?_, fun id lk b hl h1 h2 => ?_, fun id id' lk lk' b hl hl' h1 h2 h3 h4 => ?_, fun id hid => ?_, fun id lk b hl h1 h2 hh => ?_, fun b hh => Nat.lt_of_lt_of_le (hH.hlt b hh) hbel.size⟩, ⟨hle, fun id h => newL_out (by omega), setRows_len .., hok, hbel.mono hb, rfl, fun b _ hlt => hbel.block b hlt⟩, hokn⟩
  · by_cases hin : s ≤ id ∧ id < s + rows.length
    · obtain ⟨i, hi, rfl⟩ := hnew id hin.1 hin.2
      obtain ⟨sz, es, cap, b', e, h0, hb'⟩ := hmk i hi
      refine ⟨_, newL_in hi, ?_⟩
      rw [setRows_in _ _ _ _ hi (by omega), e]
      refine ⟨rfl, rfl, h0, ?_⟩
      dsimp only
      cases b' with
      | none => exact ⟨hb'.1, rfl, hb'.2⟩
      | some b =>
        obtain ⟨cs, T, fr, q1, q2, q3, q4, q5⟩ := hb'.2.2
        exact ⟨cs, T, fr, q1, q2, q3, q4, fun i j hi hj => by
          obtain ⟨v, e1, e2⟩ := q5 i j hi hj
          exact ⟨v, e1, e2.mono hokn⟩⟩
    · rw [setRows_out _ _ _ _ (by omega)] at hl ⊢
      obtain ⟨lk, h1, h2⟩ := hH.ob id hl
      exact ⟨lk, by rw [newL_out (by omega)]; exact h1, h2.lift hok hle fun b hb' => hbel.block b (hH.rng id lk b hl h1 hb').2⟩
  · by_cases hin : s ≤ id ∧ id < s + rows.length
    · obtain ⟨i, hi, rfl⟩ := hnew id hin.1 hin.2
      rw [newL_in hi] at h1; cases h1
      obtain ⟨sz, es, cap, b', e, h0, hb'⟩ := hmk i hi
      rw [e] at h2
      have h2' : b' = some b := h2
      subst h2'
      exact ⟨by have := hb'.1; omega, hb'.2.1⟩
    · rw [setRows_out _ _ _ _ (by omega)] at hl
      rw [newL_out (by omega)] at h1
      have := hH.rng id lk b hl h1 h2
      exact ⟨this.1, Nat.lt_of_lt_of_le this.2 hbel.size⟩
  · have side : ∀ id lk, live (obj (setRows H s rows) id) = true → newL L s rows id = some lk → lk.b = some b → (∃ i, ∃ hi : i < rows.length, id = s + i ∧ bs[i]? = some (some b) ∧ w.heap.size ≤ b) ∨ (live (obj H id) = true ∧ L id = some lk ∧ b < w.heap.size) := by
      intro id lk hl h1 h3
      by_cases hin : s ≤ id ∧ id < s + rows.length
      · obtain ⟨i, hi, rfl⟩ := hnew id hin.1 hin.2
        rw [newL_in hi] at h1; cases h1
        have h5 := hbl i hi
        rw [h3] at h5
        obtain ⟨sz, es, cap, b', e, h0, hb'⟩ := hmk i hi
        rw [e] at h3
        have h3' : b' = some b := h3
        subst h3'
        exact .inl ⟨i, hi, rfl, h5, hb'.1⟩
      · rw [setRows_out _ _ _ _ (by omega)] at hl
        rw [newL_out (by omega)] at h1
        exact .inr ⟨hl, h1, (hH.rng id lk b hl h1 h3).2⟩
    rcases side id lk hl h1 h3 with ⟨i, hi, rfl, q1, q2⟩ | ⟨q1, q2, q3⟩ <;> rcases side id' lk' hl' h2 h4 with ⟨i', hi', rfl, r1, r2⟩ | ⟨r1, r2, r3⟩
    · rw [hinj i i' b q1 r1]
    · omega
    · omega
    · exact hH.inj id id' lk lk' b q1 r1 q2 r2 h3 h4
  · rw [setRows_len] at hid
    rw [newL_out (by omega)]
    exact hH.out id hid
  · have hh' : L.hid b := hh
    by_cases hin : s ≤ id ∧ id < s + rows.length
    · obtain ⟨i, hi, rfl⟩ := hnew id hin.1 hin.2
      rw [newL_in hi] at h1; cases h1
      obtain ⟨sz, es, cap, b', e, h0, hb'⟩ := hmk i hi
      rw [e] at h2
      have h2' : b' = some b := h2
      subst h2'
      have := hH.hlt b hh'
      have := hb'.1
      omega
    · rw [setRows_out _ _ _ _ (by omega)] at hl
      rw [newL_out (by omega)] at h1
      exact hH.nh id lk b hl h1 h2 hh'

/-! ### Contracts -/
/-- A value of the evaluator's at a package's variable. -/
def GRel (w : World) (ok : Nat → Prop) (g : Nat) : V → Prop
  | .undef => True
  | .pe false sz es i j => i = 0 ∧ j = 0 ∧ ok g ∧ ∃ cv : Nat → Value, (∀ j, j < sz → w.cell? ⟨g, j, none⟩ = some (cv j)) ∧ ∀ j, j < sz → CRel w ok (cellD es 0 j) (cv j)
  | _ => False

theorem GRel.v {ok : Nat → Prop} {g : Nat} {x : V} (h : GRel w ok g x) : VRel w ok base L x (.pointer (some ⟨g, 0, none⟩)) := by
  unfold GRel at h
  split at h
  · exact .undef _
  · rename_i sz es i j
    obtain ⟨rfl, rfl, h0, cv, h1, h2⟩ := h
    exact .pe false sz es 0 0 g 0 cv ⟨h0, fun h => by cases h⟩ (fun j hj => by rw [Nat.zero_add]; exact h1 j hj) (fun j hj => (h2 j hj).mono fun b hb => ⟨hb, fun h => by cases h⟩)
  · exact h.elim
theorem GRel.lift {w w' : World} {ok ok' : Nat → Prop} (h : ∀ b, ok b → ok' b ∧ w'.heap[b]? = w.heap[b]?) {g : Nat} {x : V} (hg : GRel w ok g x) : GRel w' ok' g x := by
  unfold GRel at hg ⊢
  split at hg
  · trivial
  · obtain ⟨h1, h2, h0, cv, h3, h4⟩ := hg
    exact ⟨h1, h2, (h g h0).1, cv, fun j hj => by rw [← h3 j hj]; simp only [World.cell?, (h g h0).2], fun j hj => (h4 j hj).lift h⟩
  · exact hg.elim

def GlobOk (C : Cfg) (w : World) (ok : Nat → Prop) : Prop := ∀ g, GRel w ok g (C.glob g)

/-- A function does what its row of the table says. -/
def Snd (P : Program) (C : Cfg) (f : FuncId) (args res : List Q) : Prop :=
  ∀ (w : World) (vals : Array Value), GlobOk C w (fun b => b < w.heap.size) → vals.size = args.length →
    (∀ i, i < args.length → QRel w (fun b => b < w.heap.size) (args.getD i (.one .nilp)) (vals.getD i undef)) →
    (∃ fn, P.funcs[f]? = some fn ∧ fn.body.isNone = false ∧ (fn.name == "runtime.NumGoroutine") = false ∧
        Calls P f vals w fun e w' => ∃ v, e = .returned v ∧ RRel w' w.heap.size (C.sig f) res v ∧ Below w.heap.size w w') ∨
    ∃ v w', (callFunc f vals).run P w = .ok (.value v) w' ∧ RRel w' w.heap.size (C.sig f) res v ∧ Below w.heap.size w w'

/-- What a function that is lent objects leaves. -/
def BEnd (base : Nat) (w : World) (L : Lks) (objs : List Ob) (res : List V) (objs' : List Ob) (v : Value) (w' : World) : Prop :=
  ∃ (vals : List Value) (L' : Lks), v = packV vals ∧ res.length = vals.length ∧ (∀ i, i < res.length → VRel w' (okW w' L' objs') base L' (res.getD i .undef) (vals.getD i undef)) ∧ HRel w' base L' objs' ∧ Fr objs.length base w L objs w' L' objs'

/-- A function that is lent objects does what its row of the table says. -/
def SndB (P : Program) (C : Cfg) (f : FuncId) (args : List V) (objs : List Ob) (res : List V) (objs' : List Ob) : Prop :=
  ∀ (base : Nat) (w : World) (L : Lks) (vals : Array Value), base ≤ w.heap.size → HRel w base L objs → GlobOk C w (okW w L objs) → CsRel w (okW w L objs) base L args vals →
    (∃ fn, P.funcs[f]? = some fn ∧ fn.body.isNone = false ∧ (fn.name == "runtime.NumGoroutine") = false ∧ Calls P f vals w fun e w' => ∃ v, e = .returned v ∧ BEnd base w L objs res objs' v w') ∨
    ∃ v w', (callFunc f vals).run P w = .ok (.value v) w' ∧ BEnd base w L objs res objs' v w'

structure MOk (P : Program) (C : Cfg) : Prop where
  m : ∀ f args res, (C.M f args).out = some res → Snd P C f args res
  b : ∀ f args objs res objs', (C.MM f args objs).out = some (res, objs') → SndB P C f args objs res objs'

theorem pack_rel {ok : Nat → Prop} {vs : List V} {vals : List Value} (hl : vs.length = vals.length) (h : ∀ i, i < vs.length → VRel w ok base L (vs.getD i .undef) (vals.getD i undef)) :
    VRel w ok base L (packVs vs) (packV vals) := by
  match vs, vals, hl with
  | [v], [x], _ => exact h 0 (by simp)
  | [], [], _ => exact .tup [] #[] rfl (fun i hi => by simp at hi)
  | a :: b :: vs, x :: y :: vals, hl =>
    refine .tup _ _ (by simpa using hl.symm) fun i hi => ?_
    have h1 := h i hi
    have hi' : i < (x :: y :: vals).length := by rw [← hl]; exact hi
    rw [getD_of_lt (l := x :: y :: vals) hi'] at h1
    rw [agetD_of_lt (by simpa using hi')]
    simpa using h1

theorem andThen_run {α β R : Type} {c : β → List Ob → Option R} {r : R} {h : List Ob} : ∀ (p : HM α) (k : α → HM β), (p.andThen k).run h c = some r → ∃ x, p.out = some x ∧ (k x).run h c = some r
  | .ret v, k, hr => ⟨v, rfl, hr⟩
  | .fail, k, hr => by cases hr
  | .get _ _, k, hr => by cases hr
  | .put _ _ _, k, hr => by cases hr
  | .int o f, k, hr => by
    obtain ⟨n, h1, h2⟩ := Option.bind_eq_some_iff.1 hr
    obtain ⟨x, h3, h4⟩ := andThen_run (f n) k h2
    exact ⟨x, by simp [HM.out, h1, h3], h4⟩
  | .bool o f, k, hr => by
    obtain ⟨n, h1, h2⟩ := Option.bind_eq_some_iff.1 hr
    obtain ⟨x, h3, h4⟩ := andThen_run (f n) k h2
    exact ⟨x, by simp [HM.out, h1, h3], h4⟩
  | .str o f, k, hr => by
    obtain ⟨n, h1, h2⟩ := Option.bind_eq_some_iff.1 hr
    obtain ⟨x, h3, h4⟩ := andThen_run (f n) k h2
    exact ⟨x, by simp [HM.out, h1, h3], h4⟩
  | .es o f, k, hr => by
    obtain ⟨n, h1, h2⟩ := Option.bind_eq_some_iff.1 hr
    obtain ⟨x, h3, h4⟩ := andThen_run (f n) k h2
    exact ⟨x, by simp [HM.out, h1, h3], h4⟩
  | .ds o f, k, hr => by
    obtain ⟨n, h1, h2⟩ := Option.bind_eq_some_iff.1 hr
    obtain ⟨x, h3, h4⟩ := andThen_run (f n) k h2
    exact ⟨x, by simp [HM.out, h1, h3], h4⟩
  | .d o f, k, hr => by
    obtain ⟨n, h1, h2⟩ := Option.bind_eq_some_iff.1 hr
    obtain ⟨x, h3, h4⟩ := andThen_run (f n) k h2
    exact ⟨x, by simp [HM.out, h1, h3], h4⟩
  | .qs o f, k, hr => by
    obtain ⟨n, h1, h2⟩ := Option.bind_eq_some_iff.1 hr
    obtain ⟨x, h3, h4⟩ := andThen_run (f n) k h2
    exact ⟨x, by simp [HM.out, h1, h3], h4⟩
  | .mps o f, k, hr => by
    obtain ⟨n, h1, h2⟩ := Option.bind_eq_some_iff.1 hr
    obtain ⟨x, h3, h4⟩ := andThen_run (f n) k h2
    exact ⟨x, by simp [HM.out, h1, h3], h4⟩
  | .od o f, k, hr => by
    obtain ⟨n, h1, h2⟩ := Option.bind_eq_some_iff.1 hr
    obtain ⟨x, h3, h4⟩ := andThen_run (f n) k h2
    exact ⟨x, by simp [HM.out, h1, h3], h4⟩
  | .any o f, k, hr => by
    obtain ⟨n, h1, h2⟩ := Option.bind_eq_some_iff.1 hr
    obtain ⟨x, h3, h4⟩ := andThen_run (f n) k h2
    exact ⟨x, by simp [HM.out, h1, h3], h4⟩
  | .gd b f, k, hr => by
    cases b with
    | false => cases hr
    | true =>
      obtain ⟨x, h3, h4⟩ := andThen_run f k hr
      exact ⟨x, by simpa [HM.out] using h3, h4⟩
  | .ite b p q, k, hr => by
    cases b with
    | false =>
      obtain ⟨x, h3, h4⟩ := andThen_run q k hr
      exact ⟨x, by simpa [HM.out] using h3, h4⟩
    | true =>
      obtain ⟨x, h3, h4⟩ := andThen_run p k hr
      exact ⟨x, by simpa [HM.out] using h3, h4⟩

/-- A call of a function that the table knows. -/
theorem call_ok {R : Type} {c : V → List Ob → Option R} {r : R} (hM : MOk P C) (hH : HRel w base L H) (hb : base ≤ w.heap.size) (hG : GlobOk C w (okW w L H)) {g : FuncId} {args : List V} {vargs : Array Value} (hargs : CsRel w (okW w L H) base L args vargs)
    (hs : s + m ≤ H.length) (hm : owns (C.sig g) ≤ m) (hL : ∀ id, s ≤ id → id < s + m → L id = none) (hr : (callHM C g (C.sig g) args s).run H c = some r)
    {o : Oper} {a : Act} {K : Act → World → Prop} {Q' : Exit → Act → World → Prop} (ho : (execOp a.eval o).run P w = (callFunc g vargs).run P w)
    (hK : ∀ v H' vc w' L', c v H' = some r → Ext base s m w L H w' L' H' → HRel w' base L' H' → VRel w' (okW w' L' H') base L' v vc → K (a.put o.dst vc) w') : o.wp P a w K Q' := by
  unfold callHM at hr
  obtain ⟨qs, k1, k2, k3⟩ := mapRun (fun q i => QRel w (fun b => b < w.heap.size) q (vargs.getD i undef)) args 0 (fun i hi k hk => by
    have h5 := hargs.2 i hi
    rw [getD_of_lt hi] at h5
    have := snapQ_run hH h5 k hk
    simpa using this) _ hr
  obtain ⟨res, hres, h3⟩ := andThen_run _ _ k3
  have hsnd := hM.m g qs res hres w vargs (fun g' => (hG g').lift fun b hb => ⟨hb.1, rfl⟩) (by rw [hargs.1, k1]) (fun i hi => by
    rw [getD_of_lt hi]; have := k2 i hi; simpa using this)
  have fin : ∀ v w', RRel w' w.heap.size (C.sig g) res v → Below w.heap.size w w' → K (a.put o.dst v) w' := by
    rintro v w' ⟨vals, bs, rfl, hrr, hinj⟩ hbel
    obtain ⟨vs, rows, q1, q2, q3, q4, q5, q6⟩ := impt_run hrr s _ h3
    obtain ⟨n1, n2, n3⟩ := news_ok (m := m) hH hb hbel q4 hinj q5 hs (by omega) hL
    have hv := q6 _ base (newL L s rows) n3 (fun i hi => newL_in hi)
    have hp := pack_rel q3 hv
    exact hK _ _ _ _ _ q1 n2 n1 hp
  unfold Oper.wp
  rw [ho]
  rcases hsnd with ⟨fn, f1, f2, f3, f4⟩ | ⟨v, w', f1, f2, f3⟩
  · have hcf : (callFunc g vargs).run P w = .ok (.enter g vargs) w := by
      simp only [callFunc, Sem.run_bind, run_program, Result.andThen_ok, f1, f3, f2]
      simp
    rw [hcf, Oper.upon_enter]
    refine Calls.mono f4 ?_
    rintro e w' ⟨v, rfl, g1, g2⟩
    exact fin v w' g1 g2
  · rw [f1, Oper.upon_value]
    exact fin v w' f2 f3

theorem CsRel.append {ok : Nat → Prop} {xs ys : List V} {xa ya : Array Value} (hx : CsRel w ok base L xs xa) (hy : CsRel w ok base L ys ya) : CsRel w ok base L (xs ++ ys) (xa ++ ya) := by
  refine ⟨by simp [hx.1, hy.1], fun i hi => ?_⟩
  have h1 := hx.1
  have h2 := hy.1
  simp only [List.length_append] at hi
  rw [List.getD_eq_getElem?_getD, Array.getD_eq_getD_getElem?]
  by_cases h : i < xs.length
  · rw [List.getElem?_append_left h, Array.getElem?_append_left (by omega)]
    have := hx.2 i h
    rwa [List.getD_eq_getElem?_getD, Array.getD_eq_getD_getElem?] at this
  · rw [List.getElem?_append_right (by omega), Array.getElem?_append_right (by omega)]
    have := hy.2 (i - xs.length) (by omega)
    rw [h1]
    rwa [List.getD_eq_getElem?_getD, Array.getD_eq_getD_getElem?] at this
theorem ones_rel {ok : Nat → Prop} {fr : Bool} {ds : List D} {xa : Array Value} (hl : xa.size = ds.length) (h : ∀ i, i < ds.length → CRel w (okS ok base fr) (ds.getD i .nilp) (xa.getD i undef)) : CsRel w ok base L (ds.map (.one fr)) xa := by
  refine ⟨by simp [hl], fun i hi => ?_⟩
  have hi' : i < ds.length := by simpa using hi
  have := h i hi'
  rw [getD_of_lt hi'] at this
  rw [getD_of_lt hi]
  simpa using VRel.one fr _ _ this
end
end Go.Proofs.EV
set_option linter.unusedVariables false
set_option linter.unusedSimpArgs false
/-! Callees that are lent objects. -/
set_option linter.unusedSectionVars false
namespace Go.Proofs.EV
open Go Go.RowKit
variable [Dr]

section
variable {P : Program} {base s m : Nat} {w : World} {L : Lks} {H : List Ob} {C : Cfg}

theorem nodup_snoc {m : List Nat} (h : m.Nodup) {id : Nat} (hn : m.contains id = false) : (m ++ [id]).Nodup := by
  rw [List.nodup_append]
  refine ⟨h, by simp, fun a ha b hb e => ?_⟩
  simp at hb
  subst hb
  subst e
  simp at hn
  exact hn ha

theorem reachHM_run {γ R : Type} {c : γ → List Ob → Option R} {r : R} : ∀ (n : Nat) (vs : List V) (acc : List Nat) (k : List Nat → HM γ), (reachHM n vs acc k).run H c = some r → acc.Nodup → ∃ kh, (k kh).run H c = some r ∧ kh.Nodup
  | 0, vs, acc, k, hr, ha => by cases vs <;> cases hr
  | n + 1, [], acc, k, hr, ha => ⟨acc, hr, ha⟩
  | n + 1, v :: vs, acc, k, hr, ha => by
    have hc : ∀ id, (cond (acc.contains id) acc (acc ++ [id])).Nodup := fun id => by
      cases e : acc.contains id with
      | true => exact ha
      | false => exact nodup_snoc ha e
    cases v with
    | rw id => exact reachHM_run n _ _ k hr (hc id)
    | rs id _ _ => exact reachHM_run n _ _ k hr (hc id)
    | re id _ _ => exact reachHM_run n _ _ k hr (hc id)
    | rm id => exact reachHM_run n _ _ k hr (hc id)
    | rit id => exact reachHM_run n _ _ k hr (hc id)
    | rp id off =>
      simp only [reachHM] at hr
      cases e : acc.contains id with
      | true => rw [e] at hr; exact reachHM_run n _ _ k hr ha
      | false =>
        rw [e] at hr
        simp only [cond_false, HM.run] at hr
        split at hr
        · exact reachHM_run n _ _ k hr (nodup_snoc ha e)
        · exact reachHM_run n _ _ k hr (nodup_snoc ha e)
    | agg cs => exact reachHM_run n _ _ k hr ha
    | tup cs => exact reachHM_run n _ _ k hr ha
    | fnv f a b => exact reachHM_run n _ _ k hr ha
    | one fr d => exact reachHM_run n _ _ k hr ha
    | nils sz => exact reachHM_run n _ _ k hr ha
    | pe fr sz es i j => exact reachHM_run n _ _ k hr ha
    | undef => exact reachHM_run n _ _ k hr ha

theorem getsHM_run {γ R : Type} {c : γ → List Ob → Option R} : ∀ (kh : List Nat) (k : List Ob → HM γ), (mapHM (fun id (k : Ob → HM γ) => .get id k) kh k).run H c = (k (kh.map fun id => H.getD id .dead)).run H c
  | [], k => rfl
  | id :: kh, k => by
    show (mapHM (fun id (k : Ob → HM γ) => .get id k) kh fun ds => k (H.getD id .dead :: ds)).run H c = _
    rw [getsHM_run kh]
    rfl

def puts (H : List Ob) : List Nat → List Ob → List Ob
  | id :: ids, o :: os => puts (H.set id o) ids os
  | _, _ => H
theorem putsHM_run {γ R : Type} {c : γ → List Ob → Option R} {k : HM γ} : ∀ (ids : List Nat) (os : List Ob) (H : List Ob), (putsHM ids os k).run H c = k.run (puts H ids os) c
  | [], os, H => by cases os <;> rfl
  | id :: ids, [], H => rfl
  | id :: ids, o :: os, H => by simp only [putsHM, HM.run, puts]; exact putsHM_run ids os _
theorem puts_len : ∀ (ids : List Nat) (os : List Ob) (H : List Ob), (puts H ids os).length = H.length
  | [], os, H => by cases os <;> rfl
  | id :: ids, [], H => rfl
  | id :: ids, o :: os, H => by rw [puts, puts_len]; simp
theorem puts_out : ∀ (ids : List Nat) (os : List Ob) (H : List Ob) (j : Nat), j ∉ ids → obj (puts H ids os) j = obj H j
  | [], os, H, j, _ => by cases os <;> rfl
  | id :: ids, [], H, j, _ => rfl
  | id :: ids, o :: os, H, j, hj => by
    simp only [List.mem_cons, not_or] at hj
    rw [puts, puts_out ids os _ j hj.2, obj_set, if_neg (by omega)]
theorem puts_in : ∀ (ids : List Nat) (os : List Ob) (H : List Ob), ids.Nodup → ids.length = os.length → (∀ id ∈ ids, id < H.length) → ∀ n (h : n < ids.length), obj (puts H ids os) ids[n] = obj os n
  | [], os, H, _, _, _, n, h => by simp at h
  | id :: ids, [], H, _, hl, _, n, h => by simp at hl
  | id :: ids, o :: os, H, hn, hl, hlt, n, h => by
    rw [List.nodup_cons] at hn
    rw [puts]
    cases n with
    | zero =>
      simp only [List.getElem_cons_zero]
      rw [puts_out ids os _ id hn.1, obj_set, if_pos ⟨rfl, hlt id (by simp)⟩]
      rfl
    | succ n =>
      simp only [List.getElem_cons_succ]
      rw [puts_in ids os _ hn.2 (by simpa using hl) (fun id' h' => by simpa using hlt id' (by simp [h'])) n (by simpa using h)]
      rfl

theorem idxOf_getElem {m : List Nat} (hm : m.Nodup) {n : Nat} (h : n < m.length) : m.idxOf? m[n] = some n := by
  show m.findIdx? (· == m[n]) = some n
  rw [List.findIdx?_eq_some_iff_getElem]
  refine ⟨h, by simp, fun j hj => ?_⟩
  simp only [beq_iff_eq]
  intro e
  exact List.pairwise_iff_getElem.1 hm j n (by omega) h hj e

/-- The objects that were lent come home. -/
theorem home_ok (hH : HRel w base L H) (hb : base ≤ w.heap.size) {kh : List Nat} (hn : kh.Nodup) (hlt : ∀ id ∈ kh, id < s) {q : Nat} (hq : q ≤ m) (hs : s + m ≤ H.length) (hLn : ∀ id, s ≤ id → id < s + m → L id = none)
    {hid : Nat → Prop} (hhid : ∀ b, hid b ↔ (L.hid b ∨ ∃ id lk, id ∉ kh ∧ live (obj H id) = true ∧ L id = some lk ∧ lk.b = some b))
    {w' : World} {L1 : Lks} {objs' : List Ob} (hl : objs'.length = kh.length + q) (hH1 : HRel w' base L1 objs') (hFr : Fr kh.length base w (renL kh L hid) (kh.map fun id => (H.getD id .dead).ren fun id => kh.idxOf? id) w' L1 objs') :
    ∃ L', HRel w' base L' (puts H (kh ++ List.range' s q) (objs'.map (Ob.ren fun n => (kh ++ List.range' s q)[n]?))) ∧ Ext base s m w L H w' L' (puts H (kh ++ List.range' s q) (objs'.map (Ob.ren fun n => (kh ++ List.range' s q)[n]?))) ∧
      ∀ v vc, VRel w' (okW w' L1 objs') base L1 v vc → VRel w' (okW w' L' (puts H (kh ++ List.range' s q) (objs'.map (Ob.ren fun n => (kh ++ List.range' s q)[n]?)))) base L' (v.ren fun n => (kh ++ List.range' s q)[n]?) vc := by
  generalize hmm : kh ++ List.range' s q = mm
  have hml : mm.length = objs'.length := by rw [← hmm, hl]; simp
  have hmn : mm.Nodup := by
    rw [← hmm, List.nodup_append]
    refine ⟨hn, List.nodup_range', fun a ha b hb e => ?_⟩
    have h1 := hlt a ha
    simp [List.mem_range'] at hb
    omega
  have hmem : ∀ id, id ∈ mm ↔ (id ∈ kh ∨ (s ≤ id ∧ id < s + q)) := fun id => by
    rw [← hmm, List.mem_append, List.mem_range']
    refine or_congr Iff.rfl ⟨fun ⟨i, h1, h2⟩ => by omega, fun h => ⟨id - s, by omega, by omega⟩⟩
  have hmlt : ∀ id ∈ mm, id < H.length := fun id h => by
    rcases (hmem id).1 h with h | h
    · have := hlt id h; omega
    · omega
  let L' : Lks := ⟨fun id => match mm.idxOf? id with | some n => L1 n | none => L id, L.hid⟩
  have hLin : ∀ n (h : n < mm.length), L' mm[n] = L1 n := fun n h => by simp only [L']; rw [idxOf_getElem hmn h]
  have hLout : ∀ id, id ∉ mm → L' id = L id := fun id h => by
    simp only [L']
    have : mm.idxOf? id = none := by
      show mm.findIdx? (· == id) = none
      rw [List.findIdx?_eq_none_iff]
      intro x hx
      simp only [beq_eq_false_iff_ne]
      exact fun e => h (e ▸ hx)
    rw [this]
  generalize hPP : puts H mm (objs'.map (Ob.ren fun n => mm[n]?)) = PP
  have hPout : ∀ id, id ∉ mm → obj PP id = obj H id := fun id h => by rw [← hPP]; exact puts_out _ _ _ _ h
  have hPin : ∀ n (h : n < mm.length), obj PP mm[n] = (obj objs' n).ren fun n => mm[n]? := fun n h => by
    rw [← hPP, puts_in mm _ H hmn (by simpa using hml) hmlt n h]
    unfold obj
    rw [getD_of_lt (by simpa using (hml ▸ h)), getD_of_lt (by omega)]
    simp
  have hPlen : PP.length = H.length := by rw [← hPP]; exact puts_len ..
  have hren : RenL (fun n => mm[n]?) L1 L' := fun {id n lk} h1 h2 => by
    obtain ⟨hlt', e⟩ := List.getElem?_eq_some_iff.1 h1
    subst e
    rw [hLin id hlt']; exact h2
  -- those that were lent keep what they are linked to
  have hLk : ∀ id ∈ kh, L' id = L id := fun id h => by
    obtain ⟨n, hn', e⟩ := List.getElem_of_mem h
    have h1 : n < mm.length := by rw [← hmm]; simp; omega
    have h2 : mm[n] = id := by subst e; simp [← hmm, List.getElem_append_left hn']
    rw [← h2, hLin n h1, hFr.ids n hn']
    simp [renL, hn', h2, ← e]
  have hown1 : ∀ b, own L' PP b ↔ (own L1 objs' b ∨ ∃ id lk, id ∉ mm ∧ live (obj H id) = true ∧ L id = some lk ∧ lk.b = some b) := by
    intro b
    constructor
    · rintro ⟨id, lk, h1, h2, h3⟩
      by_cases hi : id ∈ mm
      · obtain ⟨n, hn', e⟩ := List.getElem_of_mem hi
        subst e
        rw [hPin n hn', live_ren] at h1
        rw [hLin n hn'] at h2
        exact .inl ⟨n, lk, h1, h2, h3⟩
      · rw [hPout id hi] at h1
        rw [hLout id hi] at h2
        exact .inr ⟨id, lk, hi, h1, h2, h3⟩
    · rintro (⟨n, lk, h1, h2, h3⟩ | ⟨id, lk, h0, h1, h2, h3⟩)
      · have hn' : n < mm.length := by rw [hml]; exact live_lt h1
        exact ⟨mm[n], lk, by rw [hPin n hn', live_ren]; exact h1, by rw [hLin n hn']; exact h2, h3⟩
      · exact ⟨id, lk, by rw [hPout id h0]; exact h1, by rw [hLout id h0]; exact h2, h3⟩
  -- objects that were not lent: new numbers were dead
  have hothers : ∀ b, (∃ id lk, id ∉ mm ∧ live (obj H id) = true ∧ L id = some lk ∧ lk.b = some b) ↔ (∃ id lk, id ∉ kh ∧ live (obj H id) = true ∧ L id = some lk ∧ lk.b = some b) := by
    intro b
    constructor
    · rintro ⟨id, lk, h0, h⟩; exact ⟨id, lk, fun h1 => h0 ((hmem id).2 (.inl h1)), h⟩
    · rintro ⟨id, lk, h0, h1, h2, h3⟩
      refine ⟨id, lk, fun hi => ?_, h1, h2, h3⟩
      rcases (hmem id).1 hi with h | h
      · exact h0 h
      · rw [hLn id h.1 (by omega)] at h2; cases h2
  have hhid1 : L1.hid = hid := by rw [hFr.hl]; rfl
  have hokeq : ∀ b, okW w' L1 objs' b ↔ okW w' L' PP b := by
    intro b
    constructor
    · intro h
      refine ⟨h.lt, fun ho => ?_, fun hh => h.nh (by rw [hhid1]; exact (hhid b).2 (.inl hh))⟩
      rcases (hown1 b).1 ho with h1 | h1
      · exact h.no h1
      · exact h.nh (by rw [hhid1]; exact (hhid b).2 (.inr ((hothers b).1 h1)))
    · intro h
      refine ⟨h.lt, fun ho => h.no ((hown1 b).2 (.inl ho)), fun hh => ?_⟩
      rw [hhid1] at hh
      rcases (hhid b).1 hh with h1 | h1
      · exact h.nh h1
      · exact h.no ((hown1 b).2 (.inr ((hothers b).2 h1)))
  have hok0 := (ren_ok hH hn hid fun b h => (hhid b).1 h).2
  have hok : ∀ b, okW w L H b → okW w' L' PP b ∧ w'.heap[b]? = w.heap[b]? := fun b h => by
    obtain ⟨h1, h2⟩ := hFr.ok b (hok0 b h)
    exact ⟨(hokeq b).1 h1, h2⟩
  have hle : LkLe L L' := fun id lk h => by
    by_cases hi : id ∈ mm
    · rcases (hmem id).1 hi with h1 | h1
      · rw [hLk id h1]; exact h
      · rw [hLn id h1.1 (by omega)] at h; cases h
    · rw [hLout id hi]; exact h
  have hhd : ∀ b, hid b → b < w.heap.size → w'.heap[b]? = w.heap[b]? := fun b h hlt' => hFr.hd b h hlt'
  refine ⟨L', ⟨fun id hlv => ?_, fun id lk b hlv h1 h2 => ?_, fun id id' lk lk' b hlv hlv' h1 h2 h3 h4 => ?_, fun id hid' => ?_, fun id lk b hlv h1 h2 hh => ?_, fun b hh => Nat.lt_of_lt_of_le (hH.hlt b hh) hFr.below.size⟩, ⟨hle, fun id hi => ?_, hPlen, hok, hFr.below, rfl, fun b hh hlt' => hhd b ((hhid b).2 (.inl hh)) hlt'⟩, fun v vc hv => (hv.ren hren).lift (fun b hb => ⟨(hokeq b).1 hb, rfl⟩) (fun _ _ h => h)⟩
  · by_cases hi : id ∈ mm
    · obtain ⟨n, hn', e⟩ := List.getElem_of_mem hi
      subst e
      rw [hPin n hn', live_ren] at hlv
      obtain ⟨lk, q1, q2⟩ := hH1.ob n hlv
      refine ⟨lk, by rw [hLin n hn']; exact q1, ?_⟩
      rw [hPin n hn']
      exact (q2.ren hren).lift (fun b hb => ⟨(hokeq b).1 hb, rfl⟩) (fun _ _ h => h) (fun _ _ => rfl)
    · rw [hPout id hi] at hlv ⊢
      obtain ⟨lk, q1, q2⟩ := hH.ob id hlv
      refine ⟨lk, by rw [hLout id hi]; exact q1, q2.lift hok hle fun b hb' => ?_⟩
      exact hhd b ((hhid b).2 (.inr ⟨id, lk, fun h => hi ((hmem id).2 (.inl h)), hlv, q1, hb'⟩)) (hH.rng id lk b hlv q1 hb').2
  · by_cases hi : id ∈ mm
    · obtain ⟨n, hn', e⟩ := List.getElem_of_mem hi
      subst e
      rw [hPin n hn', live_ren] at hlv
      rw [hLin n hn'] at h1
      exact hH1.rng n lk b hlv h1 h2
    · rw [hPout id hi] at hlv
      rw [hLout id hi] at h1
      have := hH.rng id lk b hlv h1 h2
      exact ⟨this.1, Nat.lt_of_lt_of_le this.2 hFr.below.size⟩
  · have mixed : ∀ id id' lk lk' b, id ∈ mm → id' ∉ mm → live (obj PP id) = true → live (obj PP id') = true → L' id = some lk → L' id' = some lk' → lk.b = some b → lk'.b = some b → False := by
      intro id id' lk lk' b hi hi' hlv hlv' h1 h2 h3 h4
      obtain ⟨n, hn', e⟩ := List.getElem_of_mem hi
      subst e
      rw [hPin n hn', live_ren] at hlv
      rw [hLin n hn'] at h1
      rw [hPout id' hi'] at hlv'
      rw [hLout id' hi'] at h2
      refine hH1.nh n lk b hlv h1 h3 ?_
      rw [hhid1]
      exact (hhid b).2 (.inr ⟨id', lk', fun h => hi' ((hmem id').2 (.inl h)), hlv', h2, h4⟩)
    by_cases hi : id ∈ mm <;> by_cases hi' : id' ∈ mm
    · obtain ⟨n, hn', e⟩ := List.getElem_of_mem hi
      obtain ⟨n', hn'', e'⟩ := List.getElem_of_mem hi'
      subst e
      subst e'
      rw [hPin n hn', live_ren] at hlv
      rw [hLin n hn'] at h1
      rw [hPin n' hn'', live_ren] at hlv'
      rw [hLin n' hn''] at h2
      have := hH1.inj n n' lk lk' b hlv hlv' h1 h2 h3 h4
      subst this
      rfl
    · exact (mixed id id' lk lk' b hi hi' hlv hlv' h1 h2 h3 h4).elim
    · exact (mixed id' id lk' lk b hi' hi hlv' hlv h2 h1 h4 h3).elim
    · rw [hPout id hi] at hlv
      rw [hLout id hi] at h1
      rw [hPout id' hi'] at hlv'
      rw [hLout id' hi'] at h2
      exact hH.inj id id' lk lk' b hlv hlv' h1 h2 h3 h4
  · rw [hPlen] at hid'
    have : id ∉ mm := fun h => by have := hmlt id h; omega
    rw [hLout id this]
    exact hH.out id hid'
  · have hh' : L.hid b := hh
    by_cases hi : id ∈ mm
    · obtain ⟨n, hn', e⟩ := List.getElem_of_mem hi
      subst e
      rw [hPin n hn', live_ren] at hlv
      rw [hLin n hn'] at h1
      refine hH1.nh n lk b hlv h1 h2 ?_
      rw [hhid1]
      exact (hhid b).2 (.inl hh')
    · rw [hPout id hi] at hlv
      rw [hLout id hi] at h1
      exact hH.nh id lk b hlv h1 h2 hh'
  · by_cases hi' : id ∈ mm
    · rcases (hmem id).1 hi' with h1 | h1
      · exact hLk id h1
      · omega
    · exact hLout id hi'

/-- A call of a function that is lent objects. -/
theorem callB_ok {R : Type} {c : V → List Ob → Option R} {r : R} (hM : MOk P C) (hH : HRel w base L H) (hb : base ≤ w.heap.size) (hG : GlobOk C w (okW w L H)) {g : FuncId} {args : List V} {vargs : Array Value} (hargs : CsRel w (okW w L H) base L args vargs)
    (hs : s + m ≤ H.length) (hm : C.news g ≤ m) (hL : ∀ id, s ≤ id → id < s + m → L id = none) (hr : (callBHM C g args s).run H c = some r)
    {o : Oper} {a : Act} {K : Act → World → Prop} {Q' : Exit → Act → World → Prop} (ho : (execOp a.eval o).run P w = (callFunc g vargs).run P w)
    (hK : ∀ v H' vc w' L', c v H' = some r → Ext base s m w L H w' L' H' → HRel w' base L' H' → VRel w' (okW w' L' H') base L' v vc → K (a.put o.dst vc) w') : o.wp P a w K Q' := by
  unfold callBHM at hr
  obtain ⟨kh, hr, hn⟩ := reachHM_run 1000 args [] _ hr List.nodup_nil
  cases hlt : kh.all fun id => decide (id < s) with
  | false => rw [hlt] at hr; cases hr
  | true =>
  rw [hlt] at hr
  simp only [cond_true] at hr
  rw [getsHM_run] at hr
  obtain ⟨⟨res, objs'⟩, hout, hr⟩ := andThen_run _ _ hr
  dsimp only at hr
  cases hlen : decide (objs'.length = kh.length + C.news g) with
  | false => rw [hlen] at hr; cases hr
  | true =>
  rw [hlen] at hr
  simp only [cond_true] at hr
  rw [putsHM_run] at hr
  have hlen := of_decide_eq_true hlen
  have hlt' : ∀ id ∈ kh, id < s := fun id h => by simpa using List.all_eq_true.1 hlt id h
  rw [List.map_map] at hout
  let hid : Nat → Prop := fun b => L.hid b ∨ ∃ id lk, id ∉ kh ∧ live (obj H id) = true ∧ L id = some lk ∧ lk.b = some b
  obtain ⟨h1, h2⟩ := ren_ok hH hn hid fun b h => h
  have hsnd := hM.b g _ _ res objs' hout base w (renL kh L hid) vargs hb h1 (fun g' => (hG g').lift fun b hb => ⟨h2 b hb, rfl⟩) ⟨(hargs.ren (renL_ok kh L hid)).1, fun i hi => ((hargs.ren (renL_ok kh L hid)).2 i hi).lift (fun b hb => ⟨h2 b hb, rfl⟩) (fun _ _ h => h)⟩
  have fin : ∀ v w', BEnd base w (renL kh L hid) (kh.map ((Ob.ren fun id => kh.idxOf? id) ∘ fun id => H.getD id .dead)) res objs' v w' → K (a.put o.dst v) w' := by
    rintro v w' ⟨vals, L1, rfl, q1, q2, q3, q4⟩
    obtain ⟨L', k1, k2, k3⟩ := home_ok (m := m) hH hb hn hlt' hm hs hL (fun b => Iff.rfl) hlen q3 (by rw [List.length_map] at q4; exact q4)
    refine hK _ _ _ _ _ hr k2 k1 (pack_rel (by simpa using q1) fun i hi => ?_)
    have hi' : i < res.length := by simpa using hi
    have := k3 _ _ (q2 i hi')
    rw [getD_of_lt hi'] at this
    rw [getD_of_lt hi]
    simpa using this
  unfold Oper.wp
  rw [ho]
  rcases hsnd with ⟨fn, f1, f2, f3, f4⟩ | ⟨v, w', f1, f2⟩
  · have hcf : (callFunc g vargs).run P w = .ok (.enter g vargs) w := by
      simp only [callFunc, Sem.run_bind, run_program, Result.andThen_ok, f1, f3, f2]
      simp
    rw [hcf, Oper.upon_enter]
    refine Calls.mono f4 ?_
    rintro e w' ⟨v, rfl, g1⟩
    exact fin v w' g1
  · rw [f1, Oper.upon_value]
    exact fin v w' f2
end
end Go.Proofs.EV
set_option linter.unusedVariables false
set_option linter.unusedSimpArgs false
set_option linter.unusedSectionVars false
namespace Go.Proofs.EV
open Go Go.RowKit
variable [Dr]

section
variable {P : Program} {base s m : Nat} {w : World} {L : Lks} {H : List Ob} {C : Cfg}

/-- A call. -/
theorem callAny_ok {R : Type} {c : V → List Ob → Option R} {r : R} (hM : MOk P C) (hH : HRel w base L H) (hb : base ≤ w.heap.size) (hG : GlobOk C w (okW w L H)) {g : FuncId} {args : List V} {vargs : Array Value} (hargs : CsRel w (okW w L H) base L args vargs)
    (hs : s + m ≤ H.length) (hm : room C g ≤ m) (hL : ∀ id, s ≤ id → id < s + m → L id = none) (hr : (callAny C g args s).run H c = some r)
    {o : Oper} {a : Act} {K : Act → World → Prop} {Q' : Exit → Act → World → Prop} (ho : (execOp a.eval o).run P w = (callFunc g vargs).run P w)
    (hK : ∀ v H' vc w' L', c v H' = some r → Ext base s m w L H w' L' H' → HRel w' base L' H' → VRel w' (okW w' L' H') base L' v vc → K (a.put o.dst vc) w') : o.wp P a w K Q' := by
  unfold callAny at hr
  unfold room at hm
  cases e : C.bor g with
  | true =>
    rw [e] at hr hm
    exact callB_ok hM hH hb hG hargs hs hm hL hr ho hK
  | false =>
    rw [e] at hr hm
    exact call_ok hM hH hb hG hargs hs hm hL hr ho hK

/-- EVERY OPERATION. -/
theorem op_wp {R : Type} {c : V → List Ob → Option R} {r : R} (hC : CfgOk P C) (hM : MOk P C) (hH : HRel w base L H) (hb : base ≤ w.heap.size) (hG : GlobOk C w (okW w L H)) {o : Oper} {a : Act} {ρ : Operand → V} (hρ : ∀ x, VRel w (okW w L H) base L (ρ x) (a.eval x))
    (hs : s + need C o.op o.type ≤ H.length) (hL : ∀ id, s ≤ id → id < s + need C o.op o.type → L id = none) (hr : (opHM C o.op o.type ρ s).run H c = some r)
    {K : Act → World → Prop} {Q' : Exit → Act → World → Prop}
    (hK : ∀ v H' vc w' L', c v H' = some r → Ext base s (need C o.op o.type) w L H w' L' H' → HRel w' base L' H' → VRel w' (okW w' L' H') base L' v vc → K (a.put o.dst vc) w') : o.wp P a w K Q' := by
  by_cases hp : plainOp o.op = true
  · obtain ⟨v, H', vc, w', L', h1, h2, h3, h4, h5⟩ := (plain_ok hH hC hb hp hρ hs hL).out R c r hr
    have := hK v H' vc w' L' h1 h3 h4 h5
    unfold Oper.wp
    rcases h2 with h2 | ⟨h2, rfl⟩
    · rw [h2]; exact this
    · rw [h2]; exact this
  · obtain ⟨dst, op, type, pos, after, guard⟩ := o
    dsimp only at hp hs hL hr
    cases op <;> try exact absurd rfl hp
    rename_i cl
    obtain ⟨callee, args, argTypes⟩ := cl
    have hargs := list_rel hρ args.toList
    have e1 : (args.toList.map a.eval).toArray = args.map a.eval := by apply Array.ext'; simp
    rw [e1] at hargs
    cases callee with
    | builtin b => exact absurd rfl hp
    | invoke x n => simp only [opHM] at hr; cases hr
    | value f =>
      simp only [opHM] at hr
      split at hr
      · rename_i h; cases h
      · rename_i g h
        cases h
        refine callAny_ok hM hH hb hG hargs hs (Nat.le_refl _) hL hr ?_ hK
        simp [execOp, resolve, Deferred.ofValue, invoke, Act.eval]
      · rename_i f' h0 h
        cases h
        have hneed : need C (.call ⟨.value f, args, argTypes⟩) type = 2 := by
          simp only [need]
          first
          | done
          | (split <;> first
            | rfl
            | (rename_i hh; cases hh; done)
            | (rename_i hh; cases hh; exact absurd rfl (h0 _))
            | (rename_i hh; exact absurd rfl (hh _)))
        rw [hneed] at hs hL
        dsimp only at hK
        rw [hneed] at hK
        have hf := hρ f
        split at hr
        · rename_i g va vb hfe
          rw [hfe] at hf
          split at hr
          · rename_i hown
            generalize hvf : a.eval f = vf at hf
            cases hf with
            | fnv _ _ _ wa wb ha hbb h1 h2 =>
              have hA : CsRel w (okW w L H) base L va wa := ⟨ha, h1⟩
              have hB : CsRel w (okW w L H) base L vb wb := ⟨hbb, h2⟩
              refine callAny_ok hM hH hb hG ((hA.append hargs).append hB) hs hown hL hr ?_ hK
              simp [execOp, resolve, Deferred.ofValue, invoke, hvf]
          · cases hr
        · rename_i fr g va vb hfe
          rw [hfe] at hf
          split at hr
          · rename_i hown
            generalize hvf : a.eval f = vf at hf
            cases hf with
            | one _ _ _ hd =>
            cases hd with
            | fn _ _ _ wa wb ha hbb h1 h2 =>
              have hA : CsRel w (okW w L H) base L (va.map (.one fr)) wa := ones_rel ha h1
              have hB : CsRel w (okW w L H) base L (vb.map (.one fr)) wb := ones_rel hbb h2
              refine callAny_ok hM hH hb hG ((hA.append hargs).append hB) hs hown hL hr ?_ hK
              simp [execOp, resolve, Deferred.ofValue, invoke, hvf]
          · cases hr
        · cases hr
      · cases hr
end
end Go.Proofs.EV
set_option linter.unusedVariables false
set_option linter.unusedSimpArgs false
set_option linter.unusedSectionVars false
namespace Go.Proofs.EV
open Go Go.RowKit
variable [Dr]

/-- The evaluator's state and the machine's. -/
structure SR (C : Cfg) (base : Nat) (w : World) (L : Lks) (st : St) (a : Act) : Prop where
  sz : a.tmps.size = st.t.length
  t : ∀ i, VRel w (okW w L st.h) base L (st.t.getD i .undef) (a.tmps.getD i undef)
  h : HRel w base L st.h
  g : GlobOk C w (okW w L st.h)
  d : a.defers = []
  b : base ≤ w.heap.size
  nb : C.nb ≤ st.h.length

section
variable {P : Program} {base : Nat} {w : World} {L : Lks} {C : Cfg} {st : St} {a : Act}

theorem constV_rel {ok : Nat → Prop} (v : Value) : VRel w ok base L (constV v) v := by
  unfold constV
  split
  · exact .one _ _ _ (.int _ _)
  · exact .one _ _ _ (.bool _)
  · exact .one _ _ _ (.str _)
  · exact .nils 0
  · exact .one _ _ _ .nilp
  · exact .one _ _ _ .nilm
  · exact .one _ _ _ .nilf
  · exact .one _ _ _ .nili
  · exact .undef _

theorem SR.val (h : SR C base w L st a) (x : Operand) : VRel w (okW w L st.h) base L (St.val C st.t x) (a.eval x) := by
  cases x with
  | tmp i => exact h.t i
  | const v => exact constV_rel v
  | global g => exact (h.g g).v
  | func f => exact .fnv f [] [] #[] #[] rfl rfl (fun i hi => by simp at hi) (fun i hi => by simp at hi)

theorem put_rel {t : List V} {ok : Nat → Prop} (hsz : a.tmps.size = t.length) (ht : ∀ i, VRel w ok base L (t.getD i .undef) (a.tmps.getD i undef)) {v : V} {vc : Value} (hv : VRel w ok base L v vc) (dst : Option Tmp) :
    (a.put dst vc).tmps.size = (setDst t dst v).length ∧ ∀ i, VRel w ok base L ((setDst t dst v).getD i .undef) ((a.put dst vc).tmps.getD i undef) := by
  cases dst with
  | none => exact ⟨hsz, ht⟩
  | some d =>
    refine ⟨by simp [Act.put, setDst, hsz], fun i => ?_⟩
    simp only [Act.put, setDst, List.getD_eq_getElem?_getD, Array.getD_eq_getD_getElem?]
    by_cases h : d = i
    · subst h
      by_cases hlt : (d : Nat) < t.length
      · rw [List.getElem?_set_self hlt, Array.getElem?_setIfInBounds_self_of_lt (hsz ▸ hlt)]
        exact hv
      · rw [List.getElem?_eq_none (by simp; exact Nat.le_of_not_lt hlt)]
        exact .undef _
    · rw [List.getElem?_set_ne h, Array.getElem?_setIfInBounds_ne h]
      have := ht i
      rwa [List.getD_eq_getElem?_getD, Array.getD_eq_getD_getElem?] at this

theorem SR.put (h : SR C base w L st a) {v : V} {vc : Value} (hv : VRel w (okW w L st.h) base L v vc) (dst : Option Tmp) : SR C base w L ⟨setDst st.t dst v, st.h⟩ (a.put dst vc) := by
  obtain ⟨h1, h2⟩ := put_rel h.sz h.t hv dst
  exact ⟨h1, h2, h.h, h.g, by cases dst <;> exact h.d, h.b, h.nb⟩

/-- A temporary is known better. -/
theorem SR.know (h : SR C base w L st a) (d : Nat) {v : V} (hv : VRel w (okW w L st.h) base L v (a.tmps.getD d undef)) : SR C base w L ⟨st.t.set d v, st.h⟩ a := by
  refine ⟨by simp [h.sz], fun i => ?_, h.h, h.g, h.d, h.b, h.nb⟩
  simp only [List.getD_eq_getElem?_getD]
  by_cases e : d = i
  · subst e
    by_cases hlt : d < st.t.length
    · rw [List.getElem?_set_self hlt]; exact hv
    · rw [List.getElem?_eq_none (by simp; omega)]; exact .undef _
  · rw [List.getElem?_set_ne e]
    have := h.t i
    rwa [List.getD_eq_getElem?_getD] at this

theorem HRel.more {H : List Ob} (h : HRel w base L H) (n : Nat) : HRel w base L (H ++ List.replicate n .dead) ∧ ∀ b, okW w L (H ++ List.replicate n .dead) b ↔ okW w L H b := by
  have ho : ∀ id, obj (H ++ List.replicate n .dead) id = obj H id := by
    intro id
    unfold obj
    simp only [List.getD_eq_getElem?_getD]
    by_cases hlt : id < H.length
    · rw [List.getElem?_append_left hlt]
    · rw [List.getElem?_append_right (by omega), List.getElem?_eq_none (l := H) (by omega)]
      by_cases h2 : id - H.length < n
      · rw [List.getElem?_replicate_of_lt h2]; rfl
      · rw [List.getElem?_eq_none (by simp; omega)]
  have hok : okW w L (H ++ List.replicate n .dead) = okW w L H := by
    have e : own L (H ++ List.replicate n .dead) = own L H := by funext b; simp only [own, ho]
    funext b
    exact propext ⟨fun h => ⟨h.lt, by rw [← e]; exact h.no, h.nh⟩, fun h => ⟨h.lt, by rw [e]; exact h.no, h.nh⟩⟩
  refine ⟨⟨fun id hl => ?_, fun id lk b hl => ?_, fun id id' lk lk' b hl hl' => ?_, fun id hid => h.out id (by simp at hid; omega), fun id lk b hl => ?_, h.hlt⟩, fun b => by rw [hok]⟩
  · rw [ho] at hl ⊢
    rw [hok]
    exact h.ob id hl
  · rw [ho] at hl; exact h.rng id lk b hl
  · rw [ho] at hl hl'; exact h.inj id id' lk lk' b hl hl'
  · rw [ho] at hl; exact h.nh id lk b hl

theorem evOps_sound {R : Type} (hC : CfgOk P C) (hM : MOk P C) {ops : Array Oper} {Q : Exit → Act → World → Prop} : ∀ (l : List Oper) {w : World} {L : Lks} {st : St} {a : Act} (k : St → Option R) (r : R) (hr : evOps C ops.toList l st k = some r) (hS : SR C base w L st a)
    (hk : ∀ st' a' w' L', k st' = some r → SR C base w' L' st' a' → Fr C.nb base w L st.h w' L' st'.h → Q .normal a' w'), wpList P ops Q l a w
  | [], w, L, st, a, k, r, hr, hS, hk => hk st a w L hr hS (Fr.refl ..)
  | o :: os, w, L, st, a, k, r, hr, hS, hk => by
    have go : ∀ (t : List V) (hS' : SR C base w L ⟨t, st.h⟩ a) (hr' : ((opHM C o.op o.type (St.val C t) st.h.length).run (st.h ++ List.replicate (need C o.op o.type) .dead) fun v h => evOps C ops.toList os ⟨setDst t o.dst v, h⟩ k) = some r), o.wp P a w (wpList P ops Q os) Q := by
      intro t hS' hr'
      obtain ⟨hm, hok⟩ := hS.h.more (need C o.op o.type)
      have hmono : ∀ b, okW w L st.h b → okW w L (st.h ++ List.replicate (need C o.op o.type) .dead) b ∧ w.heap[b]? = w.heap[b]? := fun b hb => ⟨(hok b).2 hb, rfl⟩
      refine op_wp hC hM hm hS.b (fun g => (hS.g g).lift hmono) (ρ := St.val C t) (fun x => (hS'.val x).lift hmono (fun _ _ h => h)) (by simp) (fun id h1 h2 => hS.h.out id h1) hr' ?_
      intro v H' vc w' L' hc hx hH' hv
      have hlift := fun b hb => hx.ok b ((hok b).2 hb)
      have hfr : Fr C.nb base w L st.h w' L' H' := ⟨hx.below, hlift, fun id hi => hx.only id (.inl (Nat.lt_of_lt_of_le hi hS.nb)), hx.hl, hx.hd⟩
      obtain ⟨p1, p2⟩ := put_rel hS'.sz (fun i => (hS'.t i).lift hlift hx.le) hv o.dst
      refine evOps_sound hC hM os k r hc (L := L') ⟨p1, p2, hH', fun g => (hS.g g).lift hlift, by cases o.dst <;> exact hS.d, Nat.le_trans hS.b hx.below.size, ?_⟩ (fun st' a' w'' L'' q1 q2 q3 => hk st' a' w'' L'' q1 q2 (hfr.trans q3))
      have := hx.len
      simp only [List.length_append] at this
      have := hS.nb
      show C.nb ≤ H'.length
      omega
    have skip : ∀ (t : List V) (hS' : SR C base w L ⟨t, st.h⟩ a) (hr' : evOps C ops.toList os ⟨setDst t o.dst (.tup []), st.h⟩ k = some r), wpList P ops Q os (a.put o.dst undef) w := by
      intro t hS' hr'
      exact evOps_sound hC hM os k r hr' (hS'.put tup0_rel o.dst) hk
    unfold evOps at hr
    unfold wpList
    dsimp only at hr
    split at hr
    · rename_i hg
      rw [if_pos (by simp [Region.wanted, hg])]
      exact .inl (go st.t hS hr)
    · rename_i g want hg
      split at hr
      · rename_i d hd
        have hd' : (ops[g]?).bind (·.dst) = some d := by simpa using hd
        have hw : Region.wanted o (yielded ops a.tmps) = (yielded ops a.tmps g == some want) := by simp [Region.wanted, hg]
        split at hr
        · rename_i fr b hv
          have hv' := hS.t d
          rw [hv] at hv'
          have hb := hv'.bool_inv
          have hget : a.tmps[d]? = some (.bool b) := by
            rw [Array.getD_eq_getD_getElem?] at hb
            cases e : a.tmps[d]? with
            | none => rw [e] at hb; cases hb
            | some x => rw [e] at hb; simpa using hb
          have hy : yielded ops a.tmps g = some b := by simp [yielded, hd', hget]
          have hk' : ∀ c, c = b → SR C base w L ⟨st.t.set d (vbool c), st.h⟩ a := fun c e => hS.know d (by rw [hb, e]; exact vbool_rel b)
          rw [hw, hy]
          cases want with
          | true =>
            cases b with
            | true => exact .inl (go _ (hk' true rfl) hr)
            | false => exact skip _ (hk' false rfl) hr
          | false =>
            cases b with
            | true => exact skip _ (hk' true rfl) hr
            | false => exact .inl (go _ (hk' false rfl) hr)
        · rename_i hv
          have hv' := hS.t d
          rw [hv] at hv'
          have hnb : yielded ops a.tmps g = none := by
            rw [Array.getD_eq_getD_getElem?] at hv'
            cases e : a.tmps[d]? with
            | none => simp [yielded, hd', e]
            | some x =>
              rw [e] at hv'
              cases hv' with
              | tup _ arr hl hx => simp [yielded, hd', e]
          rw [hw, hnb]
          exact skip _ hS hr
        · cases hr
      · cases hr

/-! ### Code -/
def X.exit : X → Exit
  | .nrm => .normal
  | .ext id => .exit id
  | .ret => .ret

/-- What is forgotten changes nothing. -/
def FgOk (C : Cfg) (g : St → St) : Prop := ∀ (base : Nat) (w : World) (L : Lks) (st : St) (a : Act), SR C base w L st a → ∃ L', SR C base w L' (g st) a ∧ Fr C.nb base w L st.h w L' (g st).h

/-- A region whose order is drawn. -/
def DrawOk (P : Program) (C : Cfg) : Prop := ∀ (R : Type) (base id : Nat) (w : World) (L : Lks) (st : St) (a : Act) (ops : Array Oper) (k : St → Option R) (r : R) (Q : Exit → Act → World → Prop), evDraw C ops.toList st k = some r → SR C base w L st a →
  (∀ st' a' w' L', k st' = some r → SR C base w' L' st' a' → Fr C.nb base w L st.h w' L' st'.h → Q .normal a' w') → (Code.region id ops true).wp P Q a w

theorem evK_sound {R : Type} (hC : CfgOk P C) (hM : MOk P C) (hD : DrawOk P C) (hF : ∀ id, FgOk C (keepAt C id)) (n : Nat) : ∀ (c : Code) {w : World} {L : Lks} {st : St} {a : Act} (k : Kx R) (r : R) (Q : Exit → Act → World → Prop) (hr : evK C (lpN n) c st k = some r) (hS : SR C base w L st a)
    (hk : ∀ x st' a' w' L', k x st' = some r → SR C base w' L' st' a' → Fr C.nb base w L st.h w' L' st'.h → Q x.exit a' w'), c.wp P Q a w := by
  intro c
  induction c with
  | skip => intro w L st a k r Q hr hS hk; exact wp_skip (hk .nrm st a w L hr hS (Fr.refl ..))
  | exit id => intro w L st a k r Q hr hS hk; exact wp_exit (hk (.ext id) st a w L hr hS (Fr.refl ..))
  | ret => intro w L st a k r Q hr hS hk; exact wp_ret (hk .ret st a w L hr hS (Fr.refl ..))
  | region id ops draw =>
    intro w L st a k r Q hr hS hk
    obtain ⟨L1, hS1, hf1⟩ := hF id base w L st a hS
    simp only [evK] at hr
    cases draw with
    | true => exact hD R base id w L1 _ a ops _ r Q hr hS1 (fun st' a' w' L' h1 h2 h3 => hk .nrm st' a' w' L' h1 h2 (hf1.trans h3))
    | false => exact wp_region_list (evOps_sound hC hM ops.toList _ r hr hS1 (fun st' a' w' L' h1 h2 h3 => hk .nrm st' a' w' L' h1 h2 (hf1.trans h3)))
  | seq x y ihx ihy =>
    intro w L st a k r Q hr hS hk
    simp only [evK] at hr
    refine wp_seq (ihx _ r _ hr hS fun e st' a' w' L' h1 h2 h3 => ?_)
    cases e with
    | nrm => exact ihy k r Q h1 h2 (fun e st'' a'' w'' L'' q1 q2 q3 => hk e st'' a'' w'' L'' q1 q2 (h3.trans q3))
    | ext id => exact hk _ _ _ _ _ h1 h2 h3
    | ret => exact hk _ _ _ _ _ h1 h2 h3
  | cond c x y ihx ihy =>
    intro w L st a k r Q hr hS hk
    simp only [evK] at hr
    split at hr
    · rename_i fr t hv
      have hv' := hS.val c
      rw [hv] at hv'
      have hb := hv'.bool_inv
      have hS' : ∀ b, b = t → SR C base w L ⟨setB c b st.t, st.h⟩ a := fun b e => by
        subst e
        cases c with
        | tmp i => exact hS.know i (by
            have : a.tmps.getD i undef = .bool b := hb
            rw [this]; exact vbool_rel b)
        | _ => exact hS
      cases t with
      | true => exact wp_cond_true hb (ihx k r Q hr (hS' true rfl) hk)
      | false => exact wp_cond_false hb (ihy k r Q hr (hS' false rfl) hk)
    · cases hr
  | block id b ih =>
    intro w L st a k r Q hr hS hk
    simp only [evK] at hr
    refine wp_block (ih _ r _ hr hS fun e st' a' w' L' h1 h2 h3 => ?_)
    cases e with
    | nrm => exact hk _ _ _ _ _ h1 h2 h3
    | ret => exact hk _ _ _ _ _ h1 h2 h3
    | ext i =>
      simp only [kBlk] at h1
      simp only [X.exit, Exit.inBlock]
      split at h1
      · rename_i e; subst e; simp; exact hk .nrm _ _ _ _ h1 h2 h3
      · rename_i e
        simp [e]; exact hk (.ext i) _ _ _ _ h1 h2 h3
  | loop b ih =>
    intro w L st a k r Q hr hS hk
    obtain ⟨L1, hS1, hf1⟩ := hF (firstR b) base w L st a hS
    simp only [evK, lpN] at hr
    refine wp_loop_rounds n ?_
    have key : ∀ (m : Nat) {w' : World} {L' : Lks} {st' : St} {a' : Act}, loopN (keepAt C (firstR b)) (evK C (lpN n) b) k m st' = some r → SR C base w' L' st' a' → Fr C.nb base w L st.h w' L' st'.h → Code.rounds P b Q m a' w' := by
      intro m
      induction m with
      | zero => intro w' L' st' a' h1 h2 h3; cases h1
      | succ m ihm =>
        intro w' L' st' a' h1 h2 h3
        rw [rounds_succ]
        refine ih _ r _ h1 h2 fun e st'' a'' w'' L'' q1 q2 q3 => ?_
        cases e with
        | nrm =>
          obtain ⟨L3, hS3, hf3⟩ := hF (firstR b) base w'' L'' st'' a'' q2
          exact ihm q1 hS3 (h3.trans (q3.trans hf3))
        | ret => exact hk _ _ _ _ _ q1 q2 (h3.trans q3)
        | ext id => exact hk _ _ _ _ _ q1 q2 (h3.trans q3)
    exact key n hr hS1 hf1
  | _ => intro w L st a k r Q hr hS hk; simp only [evK] at hr; cases hr
end
end Go.Proofs.EV
set_option linter.unusedVariables false
set_option linter.unusedSimpArgs false
set_option linter.unusedSectionVars false
namespace Go.Proofs.EV
open Go Go.RowKit
variable [Dr]

section
variable {P : Program} {base s m : Nat} {w : World} {L : Lks} {H : List Ob} {C : Cfg}

/-! ### What is handed out -/
theorem freeze_run {R γ : Type} {c : γ → List Ob → Option R} {r : R} (hH : HRel w base L H) {v : V} {vc : Value} (hv : VRel w (okW w L H) base L v vc) {k : D → HM γ} (hr : (freeze v k).run H c = some r) :
    ∃ d H', Frz base s m w L H H' ∧ CRel w (okS (okW w L H') base true) d vc ∧ (k d).run H' c = some r := by
  have hrefl : Frz base s m w L H H := ⟨hH, Ext.refl ..⟩
  cases hv with
  | one fr d _ hd =>
    simp only [freeze] at hr
    cases e : fr || scalar d with
    | false => rw [e] at hr; cases hr
    | true =>
      rw [e] at hr
      refine ⟨d, H, hrefl, ?_, hr⟩
      rw [Bool.or_eq_true] at e
      rcases e with rfl | e
      · exact hd
      · exact hd.scalar e
  | nils sz => exact ⟨_, H, hrefl, .sl0 .., hr⟩
  | rw id lk hl =>
    simp only [freeze, HM.run] at hr
    cases e : obj H id with
    | row arr sz es =>
      have e' : H.getD id .dead = .row arr sz es := e
      rw [e'] at hr
      have hlv : live (obj H id) = true := by rw [e]; rfl
      obtain ⟨lk', h1, h2⟩ := hH.ob id hlv
      rw [hl] at h1; cases h1
      rw [e] at h2
      obtain ⟨g1, g2, g3, g4⟩ := h2
      have hk := hH.kill (s := s) (m := m) id
      refine ⟨_, _, ⟨hk.1, hk.2⟩, ?_, hr⟩
      cases eb : lk.b with
      | none =>
        rw [eb] at g4
        obtain ⟨g4, _, _⟩ := g4
        subst g4
        rw [g2]
        exact .sl0 ..
      | some b =>
        rw [eb] at g4
        have hok := okW_killed hH hlv hl eb
        have g5 : RowRel w (okS (okW w L (H.set id .dead)) base true) b sz es lk.cap := by
          obtain ⟨cs, T, fr, q1, q2, q3, q4, q5⟩ := g4
          exact ⟨cs, T, fr, q1, q2, q3, q4, fun i j hi hj => by
            obtain ⟨v, e1, e2⟩ := q5 i j hi hj
            exact ⟨v, e1, e2.mono fun b hb => ⟨okW_kill hb.1, hb.2⟩⟩⟩
        have := row_sub g5 hok (off := 0) (len := es.length) (by omega) lk.cap (by obtain ⟨_, _, _, _, _, q, _⟩ := g5; exact q)
        simpa [g2] using this
    | box x => have e' : H.getD id .dead = .box x := e; rw [e'] at hr; cases hr
    | mp x => have e' : H.getD id .dead = .mp x := e; rw [e'] at hr; cases hr
    | iter x y => have e' : H.getD id .dead = .iter x y := e; rw [e'] at hr; cases hr
    | dead => have e' : H.getD id .dead = .dead := e; rw [e'] at hr; cases hr
  | rs id off len lk a c hl hn hc ha ha0 hcc =>
    simp only [freeze, HM.run] at hr
    cases e : obj H id with
    | row arr sz es =>
      have e' : H.getD id .dead = .row arr sz es := e
      rw [e'] at hr
      have hlv : live (obj H id) = true := by rw [e]; rfl
      obtain ⟨lk', h1, h2⟩ := hH.ob id hlv
      rw [hl] at h1; cases h1
      rw [e] at h2
      obtain ⟨g1, g2, g3, g4⟩ := h2
      have hk := hH.kill (s := s) (m := m) id
      refine ⟨_, _, ⟨hk.1, hk.2⟩, ?_, hr⟩
      rcases Nat.eq_zero_or_pos len with rfl | hpos
      · simp only [List.take_zero]; exact .sl0 ..
      · obtain ⟨b, eb, rfl⟩ := ha hpos
        rw [eb] at g4
        have hok := okW_killed hH hlv hl eb
        have g5 : RowRel w (okS (okW w L (H.set id .dead)) base true) b sz es lk.cap := by
          obtain ⟨cs, T, fr, q1, q2, q3, q4, q5⟩ := g4
          exact ⟨cs, T, fr, q1, q2, q3, q4, fun i j hi hj => by
            obtain ⟨v, e1, e2⟩ := q5 i j hi hj
            exact ⟨v, e1, e2.mono fun b hb => ⟨okW_kill hb.1, hb.2⟩⟩⟩
        rw [g1]
        exact row_sub g5 hok (by omega) c hc
    | box x => have e' : H.getD id .dead = .box x := e; rw [e'] at hr; cases hr
    | mp x => have e' : H.getD id .dead = .mp x := e; rw [e'] at hr; cases hr
    | iter x y => have e' : H.getD id .dead = .iter x y := e; rw [e'] at hr; cases hr
    | dead => have e' : H.getD id .dead = .dead := e; rw [e'] at hr; cases hr
  | agg => cases hr
  | tup => cases hr
  | fnv => cases hr
  | rp => cases hr
  | re => cases hr
  | pe => cases hr
  | rm id lk b hl hb =>
    simp only [freeze, HM.run] at hr
    cases e : obj H id with
    | mp es =>
      have e' : H.getD id .dead = .mp es := e
      rw [e'] at hr
      have hk := hH.kill (s := s) (m := m) id
      exact ⟨_, _, ⟨hk.1, hk.2⟩, map_killed hH e hl hb, hr⟩
    | box x => have e' : H.getD id .dead = .box x := e; rw [e'] at hr; cases hr
    | row x y z => have e' : H.getD id .dead = .row x y z := e; rw [e'] at hr; cases hr
    | iter x y => have e' : H.getD id .dead = .iter x y := e; rw [e'] at hr; cases hr
    | dead => have e' : H.getD id .dead = .dead := e; rw [e'] at hr; cases hr
  | rit => cases hr
  | undef => cases hr


theorem freezes_run {R γ : Type} {c : γ → List Ob → Option R} {r : R} : ∀ (vs : List V) {H : List Ob} (hH : HRel w base L H) (vcs : Nat → Value) (hv : ∀ i, i < vs.length → VRel w (okW w L H) base L (vs.getD i .undef) (vcs i)) {k : List D → HM γ} (hr : (mapHM freeze vs k).run H c = some r),
    ∃ ds H', Frz base s m w L H H' ∧ ds.length = vs.length ∧ (∀ i, i < ds.length → CRel w (okS (okW w L H') base true) (ds.getD i .nilp) (vcs i)) ∧ (k ds).run H' c = some r
  | [], H, hH, vcs, hv, k, hr => ⟨[], H, ⟨hH, Ext.refl ..⟩, rfl, fun i hi => by simp at hi, hr⟩
  | v :: vs, H, hH, vcs, hv, k, hr => by
    obtain ⟨d, H', h1, h2, h3⟩ := freeze_run (s := s) (m := m) hH (hv 0 (by simp)) hr
    obtain ⟨ds, H'', k1, k2, k3, k4⟩ := freezes_run vs h1.h (fun i => vcs (i + 1)) (fun i hi => by
      have := hv (i + 1) (by simpa using hi)
      simp only [List.getD_cons_succ] at this
      exact h1.x.v this) h3
    refine ⟨d :: ds, H'', h1.trans k1, by simp [k2], fun i hi => ?_, k4⟩
    cases i with
    | zero => simpa using h2.mono k1.ok
    | succ i => simpa using k3 i (by simpa using hi)

/-- A pointer's cells too. -/
theorem freezeP_run {R γ : Type} {c : γ → List Ob → Option R} {r : R} (hH : HRel w base L H) {v : V} {vc : Value} (hv : VRel w (okW w L H) base L v vc) {k : D → HM γ} (hr : (freezeP v k).run H c = some r) :
    ∃ d H', Frz base s m w L H H' ∧ CRel w (okS (okW w L H') base true) d vc ∧ (k d).run H' c = some r := by
  unfold freezeP at hr
  split at hr
  · rename_i id off
    simp only [HM.run] at hr
    cases hv with
    | rp _ _ lk b hl hb =>
    cases e : obj H id with
    | box cs =>
      have e' : H.getD id .dead = .box cs := e
      rw [e'] at hr
      simp only [HM.run] at hr
      have hlv : live (obj H id) = true := by rw [e]; rfl
      obtain ⟨arr, T, fr, q1, q2, q3⟩ := hH.box e hl hb
      have hk := hH.kill (s := s) (m := m) id
      have hok := okW_killed hH hlv hl hb
      obtain ⟨ds, H', h1, h2, h3, h4⟩ := freezes_run (s := s) (m := m) (cs.drop off) hk.1 (fun i => arr.getD (off + i) undef) (fun i hi => by
        have hi' : off + i < cs.length := by simp at hi; omega
        have := q3.2 (off + i) hi'
        rw [getD_of_lt hi'] at this
        rw [getD_of_lt hi]
        simpa using this.lift (fun b hb => ⟨okW_kill hb, rfl⟩) (fun _ _ h => h)) hr
      refine ⟨.pt ds, H', ⟨h1.h, hk.2.trans h1.x⟩, .pt ds b off (fun j => arr.getD (off + j) undef) (h1.ok b hok) (fun j hj => ?_) (fun j hj => h3 j hj), h4⟩
      have : off + j < arr.size := by rw [q3.1]; simp at h2; omega
      simp [World.cell?, q1, Array.getD, this]
    | mp x => have e' : H.getD id .dead = .mp x := e; rw [e'] at hr; cases hr
    | row x y z => have e' : H.getD id .dead = .row x y z := e; rw [e'] at hr; cases hr
    | iter x y => have e' : H.getD id .dead = .iter x y := e; rw [e'] at hr; cases hr
    | dead => have e' : H.getD id .dead = .dead := e; rw [e'] at hr; cases hr
  · exact freeze_run hH hv hr

/-- The first round's results. -/
inductive ResA (w : World) (ok : Nat → Prop) : List RK → List Q → List Value → Prop where
  | nil : ResA w ok [] [] []
  | one (l : LK) {d : D} {v : Value} (h : CRel w ok d v) {rs qs vs} (t : ResA w ok rs qs vs) : ResA w ok (.one l :: rs) (.one d :: qs) (v :: vs)
  | own (sz : Nat) (q : Q) (v : Value) {rs qs vs} (t : ResA w ok rs qs vs) : ResA w ok (.own sz :: rs) (q :: qs) (v :: vs)
  | agg (ls : List LK) (ds : List D) (arr : Array Value) (hl : arr.size = ds.length) (hs : ls.length = ds.length) (h : ∀ i, i < ds.length → CRel w ok (ds.getD i .nilp) (arr.getD i undef)) {rs qs vs} (t : ResA w ok rs qs vs) :
      ResA w ok (.agg ls :: rs) (.agg ds :: qs) (.agg arr :: vs)
theorem ResA.mono {ok ok' : Nat → Prop} (h : ∀ b, ok b → ok' b) {rs : List RK} {qs : List Q} {vs : List Value} (hr : ResA w ok rs qs vs) : ResA w ok' rs qs vs := by
  induction hr with
  | nil => exact .nil
  | one l hd t ih => exact .one l (hd.mono h) ih
  | own sz q v t ih => exact .own sz q v ih
  | agg ls ds arr hl hs hd t ih => exact .agg ls ds arr hl hs (fun i hi => (hd i hi).mono h) ih

theorem expA_run {R γ : Type} {c : γ → List Ob → Option R} {r : R} : ∀ (rks : List RK) (vs : List V) (vals : List Value) {H : List Ob} (hH : HRel w base L H) (hl : vs.length = vals.length) (hv : ∀ i, i < vs.length → VRel w (okW w L H) base L (vs.getD i .undef) (vals.getD i undef)) {k : List Q → HM γ} (hr : (expA rks vs k).run H c = some r),
    ∃ qs H', Frz base s m w L H H' ∧ ResA w (okS (okW w L H') base true) rks qs vals ∧ (k qs).run H' c = some r := by
  intro rks vs vals H hH hl hv k hr
  induction rks generalizing vs vals H k with
  | nil =>
    cases vs with
    | nil =>
      cases vals with
      | nil => exact ⟨[], H, ⟨hH, Ext.refl ..⟩, .nil, hr⟩
      | cons => cases hl
    | cons => cases hr
  | cons rk rks ih =>
    cases vs with
    | nil => cases rk <;> cases hr
    | cons v vs =>
    cases vals with
    | nil => cases hl
    | cons val vals =>
    have hv0 := hv 0 (by simp)
    simp only [List.getD_cons_zero] at hv0
    have hvs : ∀ {H' : List Ob}, Frz base s m w L H H' → ∀ i, i < vs.length → VRel w (okW w L H') base L (vs.getD i .undef) (vals.getD i undef) := fun hf i hi => by
      have := hv (i + 1) (by simpa using hi)
      simp only [List.getD_cons_succ] at this
      exact hf.x.v this
    cases rk with
    | own sz =>
      obtain ⟨qs, H', h1, h2, h3⟩ := ih vs vals hH (by simpa using hl) (hvs ⟨hH, Ext.refl ..⟩) hr
      exact ⟨_, H', h1, .own sz _ val h2, h3⟩
    | one l =>
      obtain ⟨d, H', h1, h2, h3⟩ := freezeP_run (s := s) (m := m) hH hv0 hr
      obtain ⟨qs, H'', k1, k2, k3⟩ := ih vs vals h1.h (by simpa using hl) (hvs h1) h3
      exact ⟨_, H'', h1.trans k1, .one l (h2.mono k1.ok) k2, k3⟩
    | agg ls =>
      simp only [expA] at hr
      split at hr
      · rename_i cs
        obtain ⟨arr, rfl, hcs⟩ := hv0.agg_inv
        split at hr
        · rename_i hls
          obtain ⟨ds, H', h1, h2, h3, h4⟩ := freezes_run (s := s) (m := m) cs hH (fun i => arr.getD i undef) hcs.2 hr
          obtain ⟨qs, H'', k1, k2, k3⟩ := ih vs vals h1.h (by simpa using hl) (hvs h1) h4
          exact ⟨_, H'', h1.trans k1, .agg ls ds arr (by rw [hcs.1, h2]) (by omega) (fun i hi => (h3 i hi).mono k1.ok) k2, k3⟩
        · cases hr
      · cases hr

theorem expB_run {R γ : Type} {c : γ → List Ob → Option R} {r : R} (hH : HRel w base L H) : ∀ {rks : List RK} {vs : List V} {qs : List Q} {vals : List Value} (ids : List Nat) (ha : ResA w (okS (okW w L H) base true) rks qs vals) (hl : vs.length = vals.length) (hv : ∀ i, i < vs.length → VRel w (okW w L H) base L (vs.getD i .undef) (vals.getD i undef)) {k : List Q → HM γ} (hr : (expB rks vs qs ids k).run H c = some r),
    ∃ (res : List Q) (bs : List (Option Nat)) (js : List (Option Nat)), (k res).run H c = some r ∧ Res w (okS (okW w L H) base true) base rks res vals bs ∧ js.length = bs.length ∧
      (∀ (i b : Nat), bs[i]? = some (some b) → ∃ id lk, js[i]? = some (some id) ∧ id ∉ ids ∧ live (obj H id) = true ∧ L id = some lk ∧ lk.b = some b) ∧ (∀ (i j id : Nat), js[i]? = some (some id) → js[j]? = some (some id) → i = j) ∧ (∀ (i id : Nat), js[i]? = some (some id) → id ∉ ids) := by
  intro rks vs qs vals ids ha
  induction ha generalizing vs ids with
  | nil =>
    intro hl hv k hr
    cases vs with
    | nil => exact ⟨[], [], [], hr, .nil, rfl, fun i b h => by simp at h, fun i j id h => by simp at h, fun i id h => by simp at h⟩
    | cons => cases hl
  | @one l d v hd rs qs vals t ih =>
    intro hl hv k hr
    cases vs with
    | nil => cases hl
    | cons x vs =>
      obtain ⟨res, bs, js, h1, h2, h3, h4, h5, h6⟩ := ih ids (by simpa using hl) (fun i hi => by have := hv (i + 1) (by simpa using hi); simpa using this) hr
      exact ⟨_, bs, js, h1, .one l hd h2, h3, h4, h5, h6⟩
  | @agg ls ds arr hl0 hs0 hd rs qs vals t ih =>
    intro hl hv k hr
    cases vs with
    | nil => cases hl
    | cons x vs =>
      obtain ⟨res, bs, js, h1, h2, h3, h4, h5, h6⟩ := ih ids (by simpa using hl) (fun i hi => by have := hv (i + 1) (by simpa using hi); simpa using this) hr
      exact ⟨_, bs, js, h1, .agg ls ds arr hl0 hs0 hd h2, h3, h4, h5, h6⟩
  | @own sz q v rs qs vals t ih =>
    intro hl hv k hr
    cases vs with
    | nil => cases hl
    | cons x vs =>
      have hv0 := hv 0 (by simp)
      simp only [List.getD_cons_zero] at hv0
      have hvs : ∀ i, i < vs.length → VRel w (okW w L H) base L (vs.getD i .undef) (vals.getD i undef) := fun i hi => by have := hv (i + 1) (by simpa using hi); simpa using this
      simp only [expB] at hr
      split at hr
      · rename_i id
        split at hr
        · cases hr
        · rename_i hid
          simp only [HM.run] at hr
          cases e : obj H id with
          | row arr sz' es =>
            have e' : H.getD id .dead = .row arr sz' es := e
            rw [e'] at hr
            cases arr with
            | true => cases hr
            | false =>
              dsimp only at hr
              split at hr
              · rename_i hsz
                subst hsz
                cases hv0 with
                | rw _ lk hlk =>
                  obtain ⟨g1, g2, g3, g4⟩ := hH.row e hlk
                  obtain ⟨res, bs, js, h1, h2, h3, h4, h5, h6⟩ := ih (id :: ids) (by simpa using hl) hvs hr
                  have hid' : id ∉ ids := by simpa using hid
                  rw [g2]
                  refine ⟨_, lk.b :: bs, some id :: js, h1, .own sz es lk.cap lk.b g3 ?_ h2, by simp [h3], fun i b hb => ?_, fun i j id' hi hj => ?_, fun i id' hi => ?_⟩
                  · cases eb : lk.b with
                    | none => rw [eb] at g4; exact ⟨g4.1, g4.2.2⟩
                    | some b =>
                      rw [eb] at g4
                      have := hH.rng id lk b (by rw [e]; rfl) hlk eb
                      exact ⟨this.1, this.2, g4⟩
                  · cases i with
                    | zero =>
                      simp only [List.getElem?_cons_zero, Option.some.injEq] at hb
                      exact ⟨id, lk, rfl, hid', by rw [e]; rfl, hlk, hb⟩
                    | succ i =>
                      obtain ⟨id', lk', q1, q2, q3⟩ := h4 i b (by simpa using hb)
                      exact ⟨id', lk', by simpa using q1, fun h => q2 (by simp [h]), q3⟩
                  · cases i with
                    | zero =>
                      cases j with
                      | zero => rfl
                      | succ j =>
                        simp only [List.getElem?_cons_zero, Option.some.injEq] at hi
                        subst hi
                        exact (h6 j id (by simpa using hj) (by simp)).elim
                    | succ i =>
                      cases j with
                      | zero =>
                        simp only [List.getElem?_cons_zero, Option.some.injEq] at hj
                        subst hj
                        exact (h6 i id (by simpa using hi) (by simp)).elim
                      | succ j => rw [h5 i j id' (by simpa using hi) (by simpa using hj)]
                  · cases i with
                    | zero =>
                      simp only [List.getElem?_cons_zero, Option.some.injEq] at hi
                      subst hi; exact hid'
                    | succ i => exact fun h => h6 i id' (by simpa using hi) (by simp [h])
              · cases hr
          | box x => have e' : H.getD id .dead = .box x := e; rw [e'] at hr; cases hr
          | mp x => have e' : H.getD id .dead = .mp x := e; rw [e'] at hr; cases hr
          | iter x y => have e' : H.getD id .dead = .iter x y := e; rw [e'] at hr; cases hr
          | dead => have e' : H.getD id .dead = .dead := e; rw [e'] at hr; cases hr
      · rename_i id len
        split at hr
        · cases hr
        · rename_i hid
          simp only [HM.run] at hr
          cases e : obj H id with
          | row arr sz' es =>
            have e' : H.getD id .dead = .row arr sz' es := e
            rw [e'] at hr
            cases arr with
            | true => cases hr
            | false =>
              dsimp only at hr
              split at hr
              · rename_i hsz
                subst hsz
                cases hv0 with
                | rs _ _ _ lk a c hlk hn hc ha ha0 hcc =>
                  obtain ⟨g1, g2, g3, g4⟩ := hH.row e hlk
                  obtain ⟨res, bs, js, h1, h2, h3, h4, h5, h6⟩ := ih (id :: ids) (by simpa using hl) hvs hr
                  have hid' : id ∉ ids := by simpa using hid
                  have hlen : (es.take len).length = len := by simp; omega
                  rw [ha0 rfl]
                  have e9 : Value.slice (lk.b.map fun b => ⟨b, 0, none⟩) len c = Value.slice (lk.b.map fun b => ⟨b, 0, none⟩) (es.take len).length c := by rw [hlen]
                  rw [e9]
                  refine ⟨_, lk.b :: bs, some id :: js, h1, .own sz (es.take len) c lk.b g3 ?_ h2, by simp [h3], fun i b hb => ?_, fun i j id' hi hj => ?_, fun i id' hi => ?_⟩
                  · cases eb : lk.b with
                    | none => rw [eb] at g4; exact ⟨by rw [g4.1]; simp, by have := g4.2.2; omega⟩
                    | some b =>
                      rw [eb] at g4
                      have := hH.rng id lk b (by rw [e]; rfl) hlk eb
                      refine ⟨this.1, this.2, ?_⟩
                      obtain ⟨cs, T, fr, q1, q2, q3, q4, q5⟩ := g4
                      refine ⟨cs, T, fr, q1, Nat.le_trans (Nat.mul_le_mul_right _ (by omega)) q2, by omega, q4, fun i j hi hj => ?_⟩
                      rw [hlen] at hi
                      obtain ⟨v, e1, e2⟩ := q5 i j (by omega) hj
                      refine ⟨v, e1, ?_⟩
                      have e3 : cellD (es.take len) i j = cellD es i j := by
                        unfold cellD
                        rw [getD_of_lt (l := es.take len) (i := i) (by rw [hlen]; exact hi), getD_of_lt (l := es) (i := i) (by omega)]
                        simp
                      rw [e3]; exact e2
                  · cases i with
                    | zero =>
                      simp only [List.getElem?_cons_zero, Option.some.injEq] at hb
                      exact ⟨id, lk, rfl, hid', by rw [e]; rfl, hlk, hb⟩
                    | succ i =>
                      obtain ⟨id', lk', q1, q2, q3⟩ := h4 i b (by simpa using hb)
                      exact ⟨id', lk', by simpa using q1, fun h => q2 (by simp [h]), q3⟩
                  · cases i with
                    | zero =>
                      cases j with
                      | zero => rfl
                      | succ j =>
                        simp only [List.getElem?_cons_zero, Option.some.injEq] at hi
                        subst hi
                        exact (h6 j id (by simpa using hj) (by simp)).elim
                    | succ i =>
                      cases j with
                      | zero =>
                        simp only [List.getElem?_cons_zero, Option.some.injEq] at hj
                        subst hj
                        exact (h6 i id (by simpa using hi) (by simp)).elim
                      | succ j => rw [h5 i j id' (by simpa using hi) (by simpa using hj)]
                  · cases i with
                    | zero =>
                      simp only [List.getElem?_cons_zero, Option.some.injEq] at hi
                      subst hi; exact hid'
                    | succ i => exact fun h => h6 i id' (by simpa using hi) (by simp [h])
              · cases hr
          | box x => have e' : H.getD id .dead = .box x := e; rw [e'] at hr; cases hr
          | mp x => have e' : H.getD id .dead = .mp x := e; rw [e'] at hr; cases hr
          | iter x y => have e' : H.getD id .dead = .iter x y := e; rw [e'] at hr; cases hr
          | dead => have e' : H.getD id .dead = .dead := e; rw [e'] at hr; cases hr
      · rename_i sz0
        split at hr
        · cases hr
        · rename_i hsz
          cases hv0 with
          | nils =>
            obtain ⟨res, bs, js, h1, h2, h3, h4, h5, h6⟩ := ih ids (by simpa using hl) hvs hr
            refine ⟨_, none :: bs, none :: js, h1, .own sz [] 0 none (by omega) ⟨rfl, rfl⟩ h2, by simp [h3], fun i b hb => ?_, fun i j id' hi hj => ?_, fun i id' hi => ?_⟩
            · cases i with
              | zero => simp at hb
              | succ i =>
                obtain ⟨id', lk', q1, q2⟩ := h4 i b (by simpa using hb)
                exact ⟨id', lk', by simpa using q1, q2⟩
            · cases i with
              | zero => simp at hi
              | succ i =>
                cases j with
                | zero => simp at hj
                | succ j => rw [h5 i j id' (by simpa using hi) (by simpa using hj)]
            · cases i with
              | zero => simp at hi
              | succ i => exact h6 i id' (by simpa using hi)
      · cases hr
end
end Go.Proofs.EV
set_option linter.unusedVariables false
set_option linter.unusedSimpArgs false
set_option linter.unusedSectionVars false
namespace Go.Proofs.EV
open Go Go.RowKit
variable [Dr]
section
variable {P : Program}
theorem bind_same {α β : Type} {x : Sem α} {f : α → Sem β} {w w' : World} {v : β} (h : (x >>= f).run P w = .ok v w') : ∃ a w1, x.run P w = .ok a w1 ∧ (f a).run P w1 = .ok v w' := by
  rw [Sem.run_bind] at h
  cases e : x.run P w with
  | ok a w1 => rw [e] at h; exact ⟨a, w1, rfl, h⟩
  | halt x w1 => rw [e] at h; cases h
theorem load_same {a : Addr} {w w' : World} {v : Value} (h : (load a).run P w = .ok v w') : w' = w := by
  rw [run_load] at h
  split at h
  · cases h; rfl
  · split at h
    · cases h; rfl
    · cases h
theorem loadFrom_same (a : Addr) : ∀ (n i : Nat) (acc : Array Value) {w w' : World} {v : Array Value}, (loadCellsFrom a i n acc).run P w = .ok v w' → w' = w
  | 0, i, acc, w, w', v, h => by cases h; rfl
  | n + 1, i, acc, w, w', v, h => by
    obtain ⟨x, w1, h1, h2⟩ := bind_same h
    have := load_same h1
    subst this
    exact loadFrom_same a n (i + 1) _ h2
theorem und_same {T : TypeId} {w w' : World} {d : TypeDesc} (h : (underlying T).run P w = .ok d w') : w' = w := by
  cases e : P.underlying T with
  | none => simp [underlying, e] at h
  | some x => rw [run_underlying e] at h; cases h; rfl
theorem loadVar_same {T : TypeId} {a : Addr} {w w' : World} {v : Value} (h : (loadVar T a).run P w = .ok v w') : w' = w := by
  unfold loadVar at h
  obtain ⟨b, w1, h1, h2⟩ := bind_same h
  have e1 : w1 = w := by
    unfold Go.isAgg at h1
    obtain ⟨d, w2, h3, h4⟩ := bind_same h1
    have := und_same h3
    subst this
    split at h4 <;> (cases h4; rfl)
  subst e1
  split at h2
  · obtain ⟨n, w2, h3, h4⟩ := bind_same h2
    have e2 : w2 = w1 := by
      unfold sizeOf typeInfo at h3
      simp at h3
      cases e : P.info? T with
      | none => rw [e] at h3; cases h3
      | some i => rw [e] at h3; cases h3; rfl
    subst e2
    obtain ⟨x, w3, h5, h6⟩ := bind_same h4
    have := loadFrom_same _ _ _ _ h5
    subst this
    cases h6; rfl
  · exact load_same h2

variable {base : Nat} {w : World} {L : Lks} {C : Cfg}
/-- The results, one behind the other. -/
theorem resRun_ok {R : Type} (hC : CfgOk P C) {t : List V} {tmps : Array Value} (g : ResultVar → Sem Value) (hg1 : ∀ i, g (.tmp i) = pure (tmps.getD i undef)) (hg2 : ∀ a T, g (.cell a T) = do loadVar T (← asAddr (tmps.getD a undef))) :
    ∀ (l : List ResultVar) {L : Lks} {H : List Ob} (k : List V → List Ob → Option R) (r : R), resRun C t l H k = some r → HRel w base L H → (∀ i, VRel w (okW w L H) base L (t.getD i .undef) (tmps.getD i undef)) →
    ∃ (vs : List V) (vals : List Value) (H' : List Ob) (L' : Lks), k vs H' = some r ∧ (l.mapM g : Sem (List Value)).run P w = .ok vals w ∧ vs.length = vals.length ∧ HRel w base L' H' ∧ (∀ b, okW w L H b → okW w L' H' b) ∧ (LkLe L L' ∧ (∀ id, L' id = L id) ∧ L'.hid = L.hid ∧ H'.length = H.length) ∧
      ∀ i, i < vs.length → VRel w (okW w L' H') base L' (vs.getD i .undef) (vals.getD i undef)
  | [], L, H, k, r, hr, hH, ht => ⟨[], [], H, L, hr, rfl, rfl, hH, fun _ h => h, ⟨fun _ _ h => h, fun _ => rfl, rfl, rfl⟩, fun i hi => by simp at hi⟩
  | x :: l, L, H, k, r, hr, hH, ht => by
    have step : ∃ v vc H1 L1, resRun C t l H1 (fun vs h => k (v :: vs) h) = some r ∧ (g x).run P w = .ok vc w ∧ HRel w base L1 H1 ∧ (∀ b, okW w L H b → okW w L1 H1 b) ∧ (LkLe L L1 ∧ (∀ id, L1 id = L id) ∧ L1.hid = L.hid ∧ H1.length = H.length) ∧ VRel w (okW w L1 H1) base L1 v vc := by
      cases x with
      | tmp i => exact ⟨_, _, H, L, hr, by rw [hg1]; rfl, hH, fun _ h => h, ⟨fun _ _ h => h, fun _ => rfl, rfl, rfl⟩, ht i⟩
      | cell a T =>
        simp only [resRun, resHM] at hr
        split at hr
        · cases hr
        · rename_i hs
          obtain ⟨v, H1, vc, w1, L1, q1, q2, q3, q4, q5⟩ := (load_ok (P := P) (s := 0) (m := 0) hH hC (known_of_pos hC hs) (ht a)).out R _ r hr
          have hva : ∃ ad, tmps.getD a undef = .pointer (some ad) := by
            unfold Instr.loadAt at q2
            obtain ⟨ad, w2, h1, h2⟩ := bind_same q2
            unfold Instr.sureAddr at h1
            split at h1
            · rename_i ad' e; exact ⟨ad', e⟩
            · cases h1
          obtain ⟨ad, hva⟩ := hva
          rw [hva] at q2
          have q2' : (loadVar T ad).run P w = .ok vc w1 := q2
          have := loadVar_same q2'
          subst this
          refine ⟨v, vc, H1, L1, q1, ?_, q4, fun b hb => (q3.ok b hb).1, ⟨q3.le, fun id => q3.only id (by omega), q3.hl, q3.len⟩, q5⟩
          rw [hg2, hva]
          exact q2'
    obtain ⟨v, vc, H1, L1, h1, h2, h3, h4, h5, h6⟩ := step
    obtain ⟨vs, vals, H2, L2, k1, k2, k3, k4, k5, k6, k7⟩ := resRun_ok hC g hg1 hg2 l _ r h1 h3 (fun i => (ht i).lift (fun b hb => ⟨h4 b hb, rfl⟩) h5.1)
    refine ⟨v :: vs, vc :: vals, H2, L2, k1, ?_, by simp [k3], k4, fun b hb => k5 b (h4 b hb), ⟨fun id lk e => k6.1 id lk (h5.1 id lk e), fun id => (k6.2.1 id).trans (h5.2.1 id), k6.2.2.1.trans h5.2.2.1, k6.2.2.2.trans h5.2.2.2⟩, fun i hi => ?_⟩
    · rw [List.mapM_cons, Sem.run_bind, h2]
      simp only [Result.andThen_ok, Sem.run_bind, k2, Sem.run_pure]
    · cases i with
      | zero => simpa using h6.lift (fun b hb => ⟨k5 b hb, rfl⟩) k6.1
      | succ i => simpa using k7 i (by simpa using hi)
end
end Go.Proofs.EV
set_option linter.unusedVariables false
set_option linter.unusedSimpArgs false
set_option linter.unusedSectionVars false
namespace Go.Proofs.EV
open Go Go.RowKit
variable [Dr]

/-- Nothing is one's own. -/
def L0 : Lks := ⟨fun _ => none, fun _ => False⟩

section
variable {P : Program} {base : Nat} {w : World} {L : Lks} {H : List Ob} {C : Cfg}

theorem results_run {fn : Func} {tmps : Array Value} {vals : List Value} (h : ∀ g : ResultVar → Sem Value, (∀ i, g (.tmp i) = pure (tmps.getD i undef)) → (∀ a T, g (.cell a T) = do loadVar T (← asAddr (tmps.getD a undef))) → (fn.results.toList.mapM g : Sem (List Value)).run P w = .ok vals w) : (results fn tmps).run P w = .ok (packV vals) w := by
  unfold results
  rw [Sem.run_bind, Array.mapM_eq_mapM_toList]
  have e : ∀ (g : ResultVar → Sem Value), (∀ t, g (.tmp t) = pure (tmps.getD t undef)) → (∀ a T, g (.cell a T) = do loadVar T (← asAddr (tmps.getD a undef))) → ((List.toArray <$> List.mapM g fn.results.toList : Sem (Array Value))).run P w = .ok vals.toArray w := by
    intro g hg hg2
    rw [map_eq_pure_bind, Sem.run_bind, h g hg hg2]; rfl
  rw [e _ (fun t => rfl) (fun a T => rfl)]
  simp only [Result.andThen_ok, Sem.run_pure]
  congr 1
  match vals with
  | [] => rfl
  | [x] => rfl
  | x :: y :: l => simp [packV]

/-- THE END: what the evaluator computes, the function returns. -/
theorem snd_of_run (hC : CfgOk P C) (hM : MOk P C) (hD : DrawOk P C) (hF : ∀ id, FgOk C (keepAt C id)) (hnb : C.nb = 0) {f : FuncId} {fn : Func} {c : Code} (hf : P.funcs[f]? = some fn) (hb : fn.body = some c) (hname : (fn.name == "runtime.NumGoroutine") = false) {n : Nat} {args res : List Q}
    (hr : run1 C (C.sig f) n fn args = some res) : Snd P C f args res := by
  intro w vals hG hlen hargs
  left
  refine ⟨fn, hf, by simp [hb], hname, calls_of_wp hf hb ?_⟩
  unfold run1 at hr
  rw [hb] at hr
  dsimp only at hr
  have hobj : ∀ id, obj ([] : List Ob) id = .dead := fun id => by simp [obj]
  have hok : ∀ b, okW w L0 [] b ↔ b < w.heap.size := fun b => ⟨fun h => h.1, fun h => ⟨h, (fun ⟨id, lk, h1, _⟩ => by rw [hobj] at h1; cases h1), fun h => h⟩⟩
  have hS : SR C w.heap.size w L0 (inSt fn args) { tmps := vals ++ Array.replicate (fn.ntmps - vals.size) undef, defers := [] } := by
    refine ⟨by simp [inSt, hlen], fun i => ?_, ⟨fun id h => (by rw [show obj (inSt fn args).h id = .dead from hobj id] at h; cases h), fun id lk b h => (by rw [show obj (inSt fn args).h id = .dead from hobj id] at h; cases h), fun id id' lk lk' b h => (by rw [show obj (inSt fn args).h id = .dead from hobj id] at h; cases h), fun _ _ => rfl, fun id lk b h => (by rw [show obj (inSt fn args).h id = .dead from hobj id] at h; cases h), fun b h => h.elim⟩, fun g => (hG g).lift fun b hb => ⟨(hok b).2 hb, rfl⟩, rfl, Nat.le_refl _, by omega⟩
    simp only [inSt, List.getD_eq_getElem?_getD, Array.getD_eq_getD_getElem?]
    by_cases hi : i < args.length
    · rw [List.getElem?_append_left (by simpa using hi), Array.getElem?_append_left (by omega)]
      have h1 := hargs i hi
      rw [getD_of_lt hi, Array.getD_eq_getD_getElem?] at h1
      simp only [List.getElem?_map, List.getElem?_eq_getElem hi, Option.map_some, Option.getD_some]
      have scal : ∀ {d : D} {v : Value}, CRel w (fun b => b < w.heap.size) d v → CRel w (okS (okW w L0 []) w.heap.size (scalar d)) d v := by
        intro d v hd
        cases e : scalar d with
        | true => exact hd.scalar e
        | false => exact hd.mono fun b hb => ⟨(hok b).2 hb, fun h => by cases h⟩
      generalize vals[i]?.getD undef = v at h1 ⊢
      generalize args[i] = q at h1 ⊢
      cases q with
      | one d => exact .one _ _ _ (scal h1)
      | agg cs =>
        obtain ⟨arr, rfl, g1, g2⟩ := h1
        refine .agg _ _ (by simp [g1]) fun j hj => ?_
        have hj' : j < cs.length := by simpa using hj
        rw [getD_of_lt hj]
        have := g2 j hj'
        rw [getD_of_lt hj'] at this
        simpa using VRel.one (w := w) (ok := okW w L0 []) (base := w.heap.size) (L := L0) _ _ _ (scal this)
    · rw [List.getElem?_append_right (by simp; omega)]
      have : ((List.replicate (fn.ntmps - args.length) V.undef)[i - (args.map inV).length]?).getD .undef = .undef := by
        by_cases h2 : i - (args.map inV).length < fn.ntmps - args.length
        · rw [List.getElem?_replicate_of_lt h2]; rfl
        · rw [List.getElem?_eq_none (by simpa using Nat.le_of_not_lt h2)]; rfl
      rw [this]
      exact .undef _
  refine evK_sound hC hM hD hF n c (kFin C (C.sig f) fn) res _ hr hS ?_
  have fin : ∀ (st' : St) (a' : Act) (w' : World) (L' : Lks), (resRun C st'.t fn.results.toList st'.h fun vs h => (expt (C.sig f) vs HM.ret).run h fun qs _ => some qs) = some res → SR C w.heap.size w' L' st' a' → Below w.heap.size w w' →
      a'.defers = [] ∧ ∃ v, (results fn a'.tmps).run P w' = .ok v w' ∧ ∃ v', Ending.returned v = .returned v' ∧ RRel w' w.heap.size (C.sig f) res v' ∧ Below w.heap.size w w' := by
    intro st' a' w' L' h1 h2 h3
    obtain ⟨vs, vals, H0, L0, r1, r2, r3, r4, _, _, hv⟩ := resRun_ok (P := P) hC (tmps := a'.tmps) (fun | .tmp t => pure (a'.tmps.getD t undef) | .cell a t => do loadVar t (← asAddr (a'.tmps.getD a undef))) (fun _ => rfl) (fun _ _ => rfl) fn.results.toList _ res h1 h2.h h2.t
    refine ⟨h2.d, _, results_run (vals := vals) (fun g hg1 hg2 => ?_), _, rfl, ?_, h3⟩
    · have e : g = (fun | .tmp t => pure (a'.tmps.getD t undef) | .cell a t => do loadVar t (← asAddr (a'.tmps.getD a undef))) := by
        funext x; cases x with
        | tmp t => exact hg1 t
        | cell a t => exact hg2 a t
      rw [e]; exact r2
    obtain ⟨qs, H1, k1, k2, k3⟩ := expA_run (s := 0) (m := 0) (C.sig f) _ _ r4 r3 hv r1
    obtain ⟨res', bs, js, q1, q2, q3, q4, q5, q6⟩ := expB_run k1.h [] k2 r3 (fun i hi => k1.x.v (hv i hi)) k3
    cases q1
    have hown : ∀ b, some b ∈ bs → own L0 H1 b := fun b hb => by
      obtain ⟨i, hi, e⟩ := List.getElem_of_mem hb
      obtain ⟨id, lk, _, _, g3, g4, g5⟩ := q4 i b (by rw [List.getElem?_eq_getElem hi, e])
      exact ⟨id, lk, g3, g4, g5⟩
    refine ⟨_, bs, rfl, q2.mono (fun b hb => ⟨hb.2 rfl, hb.1.1, fun hm => hb.1.2 (hown b hm)⟩), fun i j b hi hj => ?_⟩
    obtain ⟨id, lk, g1, _, g3, g4, g5⟩ := q4 i b hi
    obtain ⟨id', lk', g1', _, g3', g4', g5'⟩ := q4 j b hj
    have := k1.h.inj id id' lk lk' b g3 g3' g4 g4' g5 g5'
    subst this
    exact q5 i j id g1 g1'
  intro x st' a' w' L' h1 h2 h3
  cases x with
  | ext id => cases h1
  | nrm => exact fin st' a' w' L' h1 h2 h3.below
  | ret => exact fin st' a' w' L' h1 h2 h3.below
end
end Go.Proofs.EV
set_option linter.unusedVariables false
set_option linter.unusedSimpArgs false
set_option linter.unusedSectionVars false
namespace Go.Proofs.EV
open Go Go.RowKit
variable [Dr]

section
variable {P : Program} {base : Nat} {w : World} {L L' L'' : Lks} {H H' H'' : List Ob} {C : Cfg}

/-- Own objects come on, the world stays. -/
structure Grow (w : World) (base : Nat) (L : Lks) (H : List Ob) (L' : Lks) (H' : List Ob) : Prop where
  h : HRel w base L' H'
  le : LkLe L L'
  ok : ∀ b, okW w L H b → okW w L' H' b
  hl : L'.hid = L.hid
  len : H.length ≤ H'.length
  ids : ∀ id, id < H.length → L' id = L id
theorem Grow.refl (h : HRel w base L H) : Grow w base L H L H := ⟨h, fun _ _ h => h, fun _ h => h, rfl, Nat.le_refl _, fun _ _ => rfl⟩
theorem Grow.trans (h : Grow w base L H L' H') (k : Grow w base L' H' L'' H'') : Grow w base L H L'' H'' := ⟨k.h, fun id lk e => k.le id lk (h.le id lk e), fun b hb => k.ok b (h.ok b hb), k.hl.trans h.hl, Nat.le_trans h.len k.len, fun id hi => (k.ids id (Nat.lt_of_lt_of_le hi h.len)).trans (h.ids id hi)⟩
theorem Grow.v (h : Grow w base L H L' H') {x : V} {v : Value} (hr : VRel w (okW w L H) base L x v) : VRel w (okW w L' H') base L' x v := hr.lift (fun b hb => ⟨h.ok b hb, rfl⟩) h.le

theorem rowNil_ok (hH : HRel w base L H) (v : V) : ∃ L', Grow w base L H L' (rowNil v H).2 ∧ (∀ vc, VRel w (okW w L H) base L v vc → VRel w (okW w L' (rowNil v H).2) base L' (rowNil v H).1 vc) ∧ H.length ≤ (rowNil v H).2.length ∧ ∀ id, id < H.length → obj (rowNil v H).2 id = obj H id := by
  unfold rowNil
  split
  · rename_i sz
    split
    · exact ⟨L, .refl hH, fun vc h => h, Nat.le_refl _, fun _ _ => rfl⟩
    · rename_i hsz
      obtain ⟨hm, hok⟩ := hH.more 1
      have key := HRel.newNil (s := H.length) (m := 1) hm (by simp) (by omega) (hH.out _ (Nat.le_refl _)) (sz := sz) (by omega)
      have e : (H ++ List.replicate 1 Ob.dead).set H.length (.row false sz []) = H ++ [.row false sz []] := by simp
      rw [e] at key
      refine ⟨upd L H.length ⟨none, sz, 0, 0⟩, ⟨key.1, key.2.le, fun b hb => (key.2.ok b ((hok b).2 hb)).1, rfl, by simp, fun id hid => key.2.only id (.inl hid)⟩, fun vc h => ?_, by simp, fun id hid => ?_⟩
      · cases h with
        | nils => exact .rw_of upd_s rfl
      · simp [obj, List.getD_eq_getElem?_getD, List.getElem?_append_left hid]
  · exact ⟨L, .refl hH, fun vc h => h, Nat.le_refl _, fun _ _ => rfl⟩

theorem rowNils_ok : ∀ (vs : List V) {L : Lks} {H : List Ob} (hH : HRel w base L H), ∃ L', Grow w base L H L' (rowNils vs H).2 ∧ (rowNils vs H).1.length = vs.length ∧ (∀ i vc, VRel w (okW w L H) base L (vs.getD i .undef) vc → VRel w (okW w L' (rowNils vs H).2) base L' ((rowNils vs H).1.getD i .undef) vc) ∧
    H.length ≤ (rowNils vs H).2.length ∧ ∀ id, id < H.length → obj (rowNils vs H).2 id = obj H id
  | [], L, H, hH => ⟨L, .refl hH, rfl, fun i vc h => by simpa [rowNils] using h, Nat.le_refl _, fun _ _ => rfl⟩
  | v :: vs, L, H, hH => by
    obtain ⟨L1, g1, g2, g3, g4⟩ := rowNil_ok hH v
    obtain ⟨L2, k1, k2, k3, k4, k5⟩ := rowNils_ok vs g1.h
    have e1 : (rowNils (v :: vs) H).1 = (rowNil v H).1 :: (rowNils vs (rowNil v H).2).1 := rfl
    have e2 : (rowNils (v :: vs) H).2 = (rowNils vs (rowNil v H).2).2 := rfl
    rw [e1, e2]
    refine ⟨L2, g1.trans k1, by simp [k2], fun i vc h => ?_, Nat.le_trans g3 k4, fun id hid => (k5 id (by omega)).trans (g4 id hid)⟩
    cases i with
    | zero => simpa using k1.v (g2 vc (by simpa using h))
    | succ i => simpa using k3 i vc (by simpa using g1.v (by simpa using h))

theorem obj_set_self (H : List Ob) (i j : Nat) : obj (H.set i (obj H i)) j = obj H j := by
  rw [obj_set]
  split
  · rename_i h; rw [h.1]
  · rfl
theorem HRel.congr (h : HRel w base L H) (ho : ∀ j, obj H' j = obj H j) (hl : H'.length = H.length) : Grow w base L H L H' := by
  have hok : okW w L H' = okW w L H := by
    have e : own L H' = own L H := by funext b; simp only [own, ho]
    funext b
    exact propext ⟨fun h => ⟨h.lt, by rw [← e]; exact h.no, h.nh⟩, fun h => ⟨h.lt, by rw [e]; exact h.no, h.nh⟩⟩
  exact ⟨⟨fun id hl => by rw [ho] at hl ⊢; rw [hok]; exact h.ob id hl, fun id lk b hl => by rw [ho] at hl; exact h.rng id lk b hl, fun id id' lk lk' b hl hl' => by rw [ho] at hl hl'; exact h.inj id id' lk lk' b hl hl', fun id hid => h.out id (by omega), fun id lk b hl => by rw [ho] at hl; exact h.nh id lk b hl, h.hlt⟩, fun _ _ h => h, fun b hb => by rw [hok]; exact hb, rfl, hl ▸ Nat.le_refl _, fun _ _ => rfl⟩

theorem rowBox_ok (hH : HRel w base L H) (i : Nat) : ∃ L', Grow w base L H L' ((rowBox (H.getD i .dead) H).2.set i (rowBox (H.getD i .dead) H).1) := by
  have e0 : H.getD i .dead = obj H i := rfl
  rw [e0]
  cases e : obj H i with
  | box cs =>
    obtain ⟨L1, k1, k2, k3, k4, k5⟩ := rowNils_ok cs hH
    have e1 : (rowBox (.box cs) H).1 = .box (rowNils cs H).1 := rfl
    have e2 : (rowBox (.box cs) H).2 = (rowNils cs H).2 := rfl
    rw [e1, e2]
    have hi : i < H.length := live_lt (by rw [e]; rfl)
    obtain ⟨lk, h1, h2⟩ := hH.ob i (by rw [e]; rfl)
    rw [e] at h2
    obtain ⟨b, arr, T, fr, q0, q1, q2, q3, q4⟩ := h2
    have hl1 : L1 i = some lk := k1.le _ _ h1
    have hlv : live (obj (rowNils cs H).2 i) = true := by rw [k5 i hi, e]; rfl
    have hlift := updLift k1.h hl1 q0 hlv (w' := w) rfl (fun _ _ => rfl) (.box (rowNils cs H).1)
    have key := HRel.upd (s := 0) (m := 0) k1.h hl1 q0 hlv (w' := w) rfl (fun _ _ => rfl) (Below.refl ..) (ob := .box (rowNils cs H).1) rfl ⟨b, arr, T, fr, q0, q1, by rw [k2]; exact q2, q3, fun j hj => (k3 j _ (q4 j (by rw [← k2]; exact hj))).lift hlift (fun _ _ h => h)⟩
    exact ⟨L1, k1.trans ⟨key.1, fun _ _ h => h, fun b hb => (hlift b hb).1, rfl, by simp, fun _ _ => rfl⟩⟩
  | row a b c =>
    have e1 : (rowBox (.row a b c) H).2.set i (rowBox (.row a b c) H).1 = H.set i (obj H i) := by rw [e]; rfl
    rw [e1]; exact ⟨L, hH.congr (obj_set_self H i) (by simp)⟩
  | mp c =>
    have e1 : (rowBox (.mp c) H).2.set i (rowBox (.mp c) H).1 = H.set i (obj H i) := by rw [e]; rfl
    rw [e1]; exact ⟨L, hH.congr (obj_set_self H i) (by simp)⟩
  | iter a b =>
    have e1 : (rowBox (.iter a b) H).2.set i (rowBox (.iter a b) H).1 = H.set i (obj H i) := by rw [e]; rfl
    rw [e1]; exact ⟨L, hH.congr (obj_set_self H i) (by simp)⟩
  | dead =>
    have e1 : (rowBox .dead H).2.set i (rowBox .dead H).1 = H.set i (obj H i) := by rw [e]; rfl
    rw [e1]; exact ⟨L, hH.congr (obj_set_self H i) (by simp)⟩

theorem rowBoxes_ok : ∀ (n i : Nat) {L : Lks} {H : List Ob} (hH : HRel w base L H), ∃ L', Grow w base L H L' (rowBoxes n i H)
  | 0, i, L, H, hH => ⟨L, .refl hH⟩
  | n + 1, i, L, H, hH => by
    obtain ⟨L1, k1⟩ := rowBox_ok hH i
    obtain ⟨L2, k2⟩ := rowBoxes_ok n (i + 1) k1.h
    exact ⟨L2, k1.trans k2⟩

theorem reach_nodup (h : List Ob) : ∀ (n : Nat) (vs : List V) (acc : List Nat), acc.Nodup → (reach h n vs acc).Nodup
  | 0, vs, acc, ha => by cases vs <;> exact ha
  | n + 1, [], acc, ha => ha
  | n + 1, v :: vs, acc, ha => by
    have hc : ∀ id, (cond (acc.contains id) acc (acc ++ [id])).Nodup := fun id => by
      cases e : acc.contains id with
      | true => exact ha
      | false => exact nodup_snoc ha e
    cases v <;> simp only [reach] <;> try exact reach_nodup h n _ _ (hc _)
    all_goals try exact reach_nodup h n _ _ ha
    rename_i id off
    cases e : acc.contains id with
    | true => exact reach_nodup h n _ _ ha
    | false =>
      simp only [cond_false]
      split <;> exact reach_nodup h n _ _ (nodup_snoc ha e)

theorem mask_get (kt : List Nat) : ∀ (t : List V) (o i : Nat), (maskT kt o t).getD i .undef = t.getD i .undef ∨ (maskT kt o t).getD i .undef = .undef
  | [], o, i => .inl rfl
  | v :: vs, o, 0 => by
    simp only [maskT, List.getD_cons_zero]
    cases kt.contains o
    · exact .inr rfl
    · exact .inl rfl
  | v :: vs, o, i + 1 => by simpa [maskT] using mask_get kt vs (o + 1) i
theorem mask_len (kt : List Nat) : ∀ (t : List V) (o : Nat), (maskT kt o t).length = t.length
  | [], _ => rfl
  | v :: vs, o => by simp [maskT, mask_len kt vs]

theorem reach_pre (h : List Ob) : ∀ (n : Nat) (vs : List V) (acc : List Nat), ∃ rest, reach h n vs acc = acc ++ rest
  | 0, vs, acc => by cases vs <;> exact ⟨[], by simp [reach]⟩
  | n + 1, [], acc => ⟨[], by simp [reach]⟩
  | n + 1, v :: vs, acc => by
    have hc : ∀ id, ∃ rest, cond (acc.contains id) acc (acc ++ [id]) = acc ++ rest := fun id => by
      cases acc.contains id with
      | true => exact ⟨[], by simp⟩
      | false => exact ⟨[id], rfl⟩
    have two : ∀ (vs : List V) (a2 : List Nat), (∃ rest, a2 = acc ++ rest) → ∃ rest, reach h n vs a2 = acc ++ rest := fun vs a2 ⟨r1, e1⟩ => by
      obtain ⟨r2, e2⟩ := reach_pre h n vs a2
      exact ⟨r1 ++ r2, by rw [e2, e1, List.append_assoc]⟩
    cases v <;> simp only [reach] <;> try exact two _ _ (hc _)
    all_goals try exact reach_pre h n _ _
    rename_i id off
    cases acc.contains id with
    | true => exact reach_pre h n _ _
    | false =>
      simp only [cond_false]
      split <;> exact two _ _ ⟨[id], rfl⟩

/-- What is kept, under new numbers; the first ones keep theirs. -/
theorem kept_ok (hH : HRel w base L H) (nb : Nat) (vs : List V) : ∀ kh, kh = reach H 1000 vs (List.range nb) →
    HRel w base (renL kh L L.hid) (kh.map fun id => (H.getD id .dead).ren fun id => kh.idxOf? id) ∧ nb ≤ kh.length ∧
    Fr nb base w L H w (renL kh L L.hid) (kh.map fun id => (H.getD id .dead).ren fun id => kh.idxOf? id) := by
  intro kh e
  have hnd : kh.Nodup := by rw [e]; exact reach_nodup _ _ _ _ List.nodup_range
  obtain ⟨rest, hr⟩ := reach_pre H 1000 vs (List.range nb)
  rw [← e] at hr
  obtain ⟨r1, r2⟩ := ren_ok hH hnd L.hid fun b h => .inl h
  refine ⟨r1, by rw [hr]; simp, Below.refl .., fun b hb => ⟨r2 b hb, rfl⟩, fun id hid => ?_, rfl, fun _ _ _ => rfl⟩
  have h1 : kh[id]? = some id := by rw [hr, List.getElem?_append_left (by simpa using hid)]; simp [hid]
  show (kh[id]?).bind L.f = _
  rw [h1]; rfl

theorem forget_ok (kt : List Nat) : FgOk C (forget C.nb kt) := by
  intro base w L st a hS
  obtain ⟨L1, k1⟩ := rowBoxes_ok (w := w) (base := base) st.h.length 0 hS.h
  obtain ⟨L2, g1, g2, g3, _, _⟩ := rowNils_ok (maskT kt 0 st.t) k1.h
  have hall := k1.trans g1
  generalize ekh : reach (rowNils (maskT kt 0 st.t) (rowBoxes st.h.length 0 st.h)).2 1000 ((rowNils (maskT kt 0 st.t) (rowBoxes st.h.length 0 st.h)).1 ++ boxCells (rowNils (maskT kt 0 st.t) (rowBoxes st.h.length 0 st.h)).2 C.nb) (List.range C.nb) = kh
  obtain ⟨r1, r2, r3⟩ := kept_ok hall.h C.nb _ kh ekh.symm
  have hst : forget C.nb kt st = ⟨(rowNils (maskT kt 0 st.t) (rowBoxes st.h.length 0 st.h)).1.map (V.ren fun id => kh.idxOf? id), kh.map fun id => ((rowNils (maskT kt 0 st.t) (rowBoxes st.h.length 0 st.h)).2.getD id .dead).ren fun id => kh.idxOf? id⟩ := by
    rw [← ekh]; rfl
  rw [hst]
  have hfr : Fr C.nb base w L st.h w L2 (rowNils (maskT kt 0 st.t) (rowBoxes st.h.length 0 st.h)).2 := ⟨Below.refl .., fun b hb => ⟨hall.ok b hb, rfl⟩, fun id hid => hall.ids id (Nat.lt_of_lt_of_le hid hS.nb), hall.hl, fun _ _ _ => rfl⟩
  refine ⟨_, ⟨?_, fun i => ?_, r1, fun g => (hS.g g).lift fun b hb => ⟨(r3.ok b (hall.ok b hb)).1, rfl⟩, hS.d, hS.b, by simpa using r2⟩, hfr.trans r3⟩
  · simp only [List.length_map]
    rw [g2, mask_len]; exact hS.sz
  · have h1 : VRel w (okW w L st.h) base L ((maskT kt 0 st.t).getD i .undef) (a.tmps.getD i undef) := by
      rcases mask_get kt st.t 0 i with h | h
      · rw [h]; exact hS.t i
      · rw [h]; exact .undef _
    have h2 := g3 i _ (k1.v h1)
    have h3 := (h2.ren (renL_ok kh L2 L2.hid)).lift (fun b hb => ⟨(r3.ok b hb).1, rfl⟩) (fun _ _ h => h)
    have e : ∀ (l : List V) (m : Nat → Option Nat), (l.map (V.ren m)).getD i .undef = (l.getD i .undef).ren m := fun l m => by
      simp only [List.getD_eq_getElem?_getD, List.getElem?_map]
      cases l[i]? <;> simp [V.ren]
    dsimp only
    rw [e]
    exact h3

theorem keep_ok (id : Nat) : FgOk C (keepAt C id) := by
  intro base w L st a hS
  unfold keepAt
  split
  · exact forget_ok _ base w L st a hS
  · exact ⟨L, hS, Fr.refl ..⟩
end
end Go.Proofs.EV
set_option linter.unusedVariables false
set_option linter.unusedSimpArgs false
set_option linter.unusedSectionVars false
namespace Go.Proofs.EV
open Go Go.RowKit
variable [Dr]

section
variable {P : Program} {base : Nat} {w : World} {L : Lks} {H : List Ob} {C : Cfg}

/-! ### What a program reads and writes -/
def applyW (h : List Ob) : List (Nat × Ob) → List Ob
  | [] => h
  | (id, o) :: W => applyW (h.set id o) W
theorem applyW_len : ∀ (W : List (Nat × Ob)) (h : List Ob), (applyW h W).length = h.length
  | [], _ => rfl
  | (id, o) :: W, h => by rw [applyW, applyW_len W]; simp

theorem set_agree {h h2 : List Ob} (hl : h2.length = h.length) (id : Nat) (o : Ob) {x : Nat} (hx : h2.getD x .dead = h.getD x .dead) : (h2.set id o).getD x .dead = (h.set id o).getD x .dead := by
  have e1 := obj_set h2 id o x
  have e2 := obj_set h id o x
  unfold obj at e1 e2
  rw [e1, e2, hl]
  split
  · rfl
  · exact hx

theorem runL_frame {α R : Type} : ∀ (prog : HM α) (h : List Ob) (rs ws : List Nat) (c : α → List Ob → List Nat → List Nat → Option R) (r : R), prog.runL h rs ws c = some r →
    ∃ v W rs' ws', c v (applyW h W) rs' ws' = some r ∧ (∀ x ∈ rs, x ∈ rs') ∧ (∀ x ∈ ws, x ∈ ws') ∧ (∀ p ∈ W, p.1 ∈ ws') ∧
      ∀ (h2 : List Ob), h2.length = h.length → (∀ x ∈ rs', h2.getD x .dead = h.getD x .dead) → ∀ (R2 : Type) (c2 : α → List Ob → Option R2), prog.run h2 c2 = c2 v (applyW h2 W) := by
  intro prog
  induction prog with
  | ret v => intro h rs ws c r hr; exact ⟨v, [], rs, ws, hr, fun _ h => h, fun _ h => h, fun p hp => by simp at hp, fun _ _ _ _ _ => rfl⟩
  | fail => intro h rs ws c r hr; cases hr
  | get id k ih =>
    intro h rs ws c r hr
    obtain ⟨v, W, rs', ws', h1, h2, h3, h4, h5⟩ := ih _ h _ _ c r hr
    refine ⟨v, W, rs', ws', h1, fun x hx => h2 x (by simp [hx]), h3, h4, fun g hg ha R2 c2 => ?_⟩
    have e := ha id (h2 id (by simp))
    show (k (g.getD id .dead)).run g c2 = _
    rw [e]
    exact h5 g hg ha R2 c2
  | put id o k ih =>
    intro h rs ws c r hr
    obtain ⟨v, W, rs', ws', h1, h2, h3, h4, h5⟩ := ih (h.set id o) _ _ c r hr
    refine ⟨v, (id, o) :: W, rs', ws', h1, h2, fun x hx => h3 x (by simp [hx]), fun p hp => ?_, fun g hg ha R2 c2 => ?_⟩
    · simp only [List.mem_cons] at hp
      rcases hp with rfl | hp
      · exact h3 _ (by simp)
      · exact h4 p hp
    · exact h5 (g.set id o) (by simp [hg]) (fun x hx => set_agree hg id o (ha x hx)) R2 c2
  | gd b k ih =>
    intro h rs ws c r hr
    cases b with
    | false => cases hr
    | true => exact ih h rs ws c r hr
  | ite b p q ihp ihq =>
    intro h rs ws c r hr
    cases b with
    | false => exact ihq h rs ws c r hr
    | true => exact ihp h rs ws c r hr
  | int o k ih =>
    intro h rs ws c r hr
    cases o with
    | none => cases hr
    | some n => exact ih n h rs ws c r hr
  | bool o k ih =>
    intro h rs ws c r hr
    cases o with
    | none => cases hr
    | some n => exact ih n h rs ws c r hr
  | str o k ih =>
    intro h rs ws c r hr
    cases o with
    | none => cases hr
    | some n => exact ih n h rs ws c r hr
  | es o k ih =>
    intro h rs ws c r hr
    cases o with
    | none => cases hr
    | some n => exact ih n h rs ws c r hr
  | ds o k ih =>
    intro h rs ws c r hr
    cases o with
    | none => cases hr
    | some n => exact ih n h rs ws c r hr
  | d o k ih =>
    intro h rs ws c r hr
    cases o with
    | none => cases hr
    | some n => exact ih n h rs ws c r hr
  | qs o k ih =>
    intro h rs ws c r hr
    cases o with
    | none => cases hr
    | some n => exact ih n h rs ws c r hr
  | mps o k ih =>
    intro h rs ws c r hr
    cases o with
    | none => cases hr
    | some n => exact ih n h rs ws c r hr
  | od o k ih =>
    intro h rs ws c r hr
    cases o with
    | none => cases hr
    | some n => exact ih n h rs ws c r hr
  | any o k ih =>
    intro h rs ws c r hr
    cases o with
    | none => cases hr
    | some n => exact ih n h rs ws c r hr

/-! ### An operation looks at its operands alone -/
theorem opHM_congr {ρ ρ' : Operand → V} (op : Op) (ty : TypeId) (s : Nat) (h : ∀ x ∈ op.operands, ρ x = ρ' x) : opHM C op ty ρ s = opHM C op ty ρ' s := by
  have pairs : ∀ ps : Array (Nat × Operand), (∀ x ∈ ps.map (·.2), ρ x = ρ' x) → (ps.toList.map fun p => (p.1, ρ p.2)) = (ps.toList.map fun p => (p.1, ρ' p.2)) := fun ps hp =>
    List.map_congr_left fun p hm => by
      rw [hp p.2 (Array.mem_map.2 ⟨p, by simpa using hm, rfl⟩)]
  have list : ∀ ps : Array Operand, (∀ x ∈ ps, ρ x = ρ' x) → ps.toList.map ρ = ps.toList.map ρ' := fun ps hp => List.map_congr_left fun x hm => hp x (by simpa using hm)
  cases op <;> simp only [Op.operands] at h <;> simp only [opHM]
  case build t ps => rw [pairs ps fun x hx => h x (by simpa using hx)]
  case buildSlice t n ps => rw [pairs ps fun x hx => h x (by simpa using hx)]
  case makeFunc fn a b => rw [list a fun x hx => h x (by simp [hx]), list b fun x hx => h x (by simp [hx])]
  case call c =>
    have hargs := list c.args fun x hx => h x (by simp [Call.operands, hx])
    rw [hargs]
    cases hc : c.callee with
    | value f =>
      have hf : ρ f = ρ' f := h f (by simp [Call.operands, hc])
      cases f <;> first | rfl | (dsimp only; rw [hf]) | simp [hf]
    | invoke r m => rfl
    | builtin b => rfl
  case makeMap t r => cases r <;> rfl
  case slice t x lo hi mx => cases lo <;> cases hi <;> cases mx <;> simp_all
  all_goals (first | rfl | (simp_all; done))
end
end Go.Proofs.EV
set_option linter.unusedVariables false
set_option linter.unusedSimpArgs false
set_option linter.unusedSectionVars false
namespace Go.Proofs.EV
open Go Go.RowKit
variable [Dr]

/-! ### Records of a canonical run -/
structure Rec where
  d : Option Nat
  v : V
  W : List (Nat × Ob)
def Rec.app (x : Rec) (st : St) : St := ⟨setDst st.t x.d x.v, applyW st.h x.W⟩
def foldS : List Rec → (Nat → Bool) → Nat → St → St
  | [], _, _, st => st
  | x :: rs, S, o, st => foldS rs S (o + 1) (cond (S o) (x.app st) st)

def Rec.apart (x y : Rec) : Prop := (∀ d, x.d = some d → y.d ≠ some d) ∧ ∀ p ∈ x.W, ∀ q ∈ y.W, p.1 ≠ q.1

theorem setDst_comm (t : List V) {d e : Option Nat} (v u : V) (h : ∀ x, d = some x → e ≠ some x) : setDst (setDst t d v) e u = setDst (setDst t e u) d v := by
  cases d with
  | none => rfl
  | some d =>
    cases e with
    | none => rfl
    | some e =>
      have : d ≠ e := fun he => h d rfl (he ▸ rfl)
      exact List.set_comm _ _ this
theorem applyW_set : ∀ (W : List (Nat × Ob)) (h : List Ob) (id : Nat) (o : Ob), (∀ q ∈ W, id ≠ q.1) → applyW (h.set id o) W = (applyW h W).set id o
  | [], _, _, _, _ => rfl
  | (j, p) :: W, h, id, o, hd => by
    have hne : id ≠ j := hd (j, p) (by simp)
    rw [applyW, applyW, List.set_comm _ _ hne, applyW_set W _ id o (fun q hq => hd q (by simp [hq]))]
theorem applyW_comm : ∀ (W1 W2 : List (Nat × Ob)) (h : List Ob), (∀ p ∈ W1, ∀ q ∈ W2, p.1 ≠ q.1) → applyW (applyW h W1) W2 = applyW (applyW h W2) W1
  | [], _, _, _ => rfl
  | (id, o) :: W1, W2, h, hd => by
    rw [applyW, applyW_comm W1 W2 _ (fun p hp => hd p (by simp [hp])), applyW_set W2 h id o (fun q hq => hd (id, o) (by simp) q hq)]
    rfl
theorem Rec.comm {x y : Rec} (h : x.apart y) (st : St) : y.app (x.app st) = x.app (y.app st) := by
  simp only [Rec.app]
  rw [setDst_comm _ _ _ h.1, applyW_comm _ _ _ h.2]

theorem foldS_comm (x : Rec) : ∀ (rs : List Rec) (S : Nat → Bool) (o : Nat) (st : St), (∀ k (hk : k < rs.length), S (o + k) = true → x.apart rs[k]) → foldS rs S o (x.app st) = x.app (foldS rs S o st)
  | [], _, _, _, _ => rfl
  | y :: rs, S, o, st, h => by
    have ih := fun st => foldS_comm x rs S (o + 1) st (fun k hk hS => by
      have := h (k + 1) (by simpa using hk) (by rw [show o + (k + 1) = o + 1 + k by omega]; exact hS)
      simpa using this)
    simp only [foldS]
    cases e : S o with
    | false => exact ih st
    | true =>
      have := h 0 (by simp) (by simpa using e)
      simp only [cond_true]
      rw [Rec.comm (by simpa using this) st]
      exact ih _
theorem foldS_congr : ∀ (rs : List Rec) (S S' : Nat → Bool) (o : Nat) (st : St), (∀ k, k < rs.length → S (o + k) = S' (o + k)) → foldS rs S o st = foldS rs S' o st
  | [], _, _, _, _, _ => rfl
  | y :: rs, S, S', o, st, h => by
    have h0 := h 0 (by simp)
    simp only [Nat.add_zero] at h0
    simp only [foldS, h0]
    exact foldS_congr rs S S' (o + 1) _ (fun k hk => by
      have := h (k + 1) (by simpa using hk)
      rwa [show o + (k + 1) = o + 1 + k by omega] at this)
/-- One more of them done. -/
theorem foldS_add : ∀ (rs : List Rec) (S : Nat → Bool) (o j : Nat) (st : St) (hj : j < rs.length), S (o + j) = false → (∀ k (hk : k < rs.length), j < k → S (o + k) = true → rs[j].apart rs[k]) →
    foldS rs (fun i => S i || i == o + j) o st = rs[j].app (foldS rs S o st)
  | y :: rs, S, o, 0, st, hj, hS, h => by
    simp only [Nat.add_zero] at hS
    simp only [foldS, hS, Nat.add_zero, Bool.false_or, beq_self_eq_true, cond_true, cond_false, List.getElem_cons_zero]
    rw [← foldS_comm y rs S (o + 1) st (fun k hk hS' => by
      have := h (k + 1) (by simpa using hk) (by omega) (by rw [show o + (k + 1) = o + 1 + k by omega]; exact hS')
      simpa using this)]
    exact foldS_congr _ _ _ _ _ (fun k hk => by
      have : (o + 1 + k == o) = false := by simp; omega
      simp [this])
  | y :: rs, S, o, j + 1, st, hj, hS, h => by
    have hne : (o == o + (j + 1)) = false := by simp
    simp only [foldS, hne, Bool.or_false, List.getElem_cons_succ]
    have ih := foldS_add rs S (o + 1) j (cond (S o) (y.app st) st) (by simpa using hj) (by rw [show o + 1 + j = o + (j + 1) by omega]; exact hS) (fun k hk hlt hS' => by
      have := h (k + 1) (by simpa using hk) (by omega) (by rw [show o + (k + 1) = o + 1 + k by omega]; exact hS')
      simpa using this)
    rw [← ih]
    exact foldS_congr _ _ _ _ _ (fun k hk => by rw [show o + 1 + j = o + (j + 1) by omega])

theorem setDst_len (t : List V) (d : Option Nat) (v : V) : (setDst t d v).length = t.length := by cases d <;> simp [setDst]
theorem foldS_len : ∀ (rs : List Rec) (S : Nat → Bool) (o : Nat) (st : St), (foldS rs S o st).t.length = st.t.length ∧ (foldS rs S o st).h.length = st.h.length
  | [], _, _, _ => ⟨rfl, rfl⟩
  | y :: rs, S, o, st => by
    obtain ⟨h1, h2⟩ := foldS_len rs S (o + 1) (cond (S o) (y.app st) st)
    simp only [foldS]
    rw [h1, h2]
    cases S o
    · exact ⟨rfl, rfl⟩
    · exact ⟨setDst_len .., applyW_len ..⟩

theorem setDst_agree {t t2 : List V} (hl : t2.length = t.length) (d : Option Nat) (v : V) (i : Nat) (h : d = some i ∨ t2.getD i .undef = t.getD i .undef) : (setDst t2 d v).getD i .undef = (setDst t d v).getD i .undef := by
  cases d with
  | none =>
    rcases h with h | h
    · cases h
    · exact h
  | some d =>
    simp only [setDst, List.getD_eq_getElem?_getD, List.getElem?_set]
    by_cases e : d = i
    · subst e; simp [hl]
    · rcases h with h | h
      · exact absurd (Option.some.inj h) e
      · simp only [e, if_false]
        simpa [List.getD_eq_getElem?_getD] using h
theorem setDst_keeps {t : List V} (d : Option Nat) (v : V) (i : Nat) (h : d ≠ some i) : (setDst t d v).getD i .undef = t.getD i .undef := by
  cases d with
  | none => rfl
  | some d =>
    have : d ≠ i := fun e => h (by rw [e])
    simp [setDst, List.getD_eq_getElem?_getD, List.getElem?_set_ne this]
theorem foldS_t (i : Nat) : ∀ (rs : List Rec) (S S' : Nat → Bool) (o : Nat) (st st' : St), st'.t.length = st.t.length → st'.t.getD i .undef = st.t.getD i .undef → (∀ k (hk : k < rs.length), S (o + k) ≠ S' (o + k) → rs[k].d ≠ some i) →
    (foldS rs S' o st').t.getD i .undef = (foldS rs S o st).t.getD i .undef
  | [], _, _, _, _, _, _, h, _ => h
  | y :: rs, S, S', o, st, st', hl, h, hd => by
    simp only [foldS]
    refine foldS_t i rs S S' (o + 1) _ _ ?_ ?_ (fun k hk hne => by
      have := hd (k + 1) (by simpa using hk) (by rw [show o + (k + 1) = o + 1 + k by omega]; exact hne)
      simpa using this)
    · cases S o <;> cases S' o <;> simp [Rec.app, setDst_len, hl]
    · have h0 := hd 0 (by simp)
      simp only [Nat.add_zero, List.getElem_cons_zero] at h0
      cases e : S o <;> cases e' : S' o <;> simp only [cond_true, cond_false, Rec.app]
      · exact h
      · rw [setDst_keeps _ _ _ (h0 (by rw [e, e']; simp))]; exact h
      · rw [setDst_keeps _ _ _ (h0 (by rw [e, e']; simp))]; exact h
      · exact setDst_agree hl _ _ _ (.inr h)

theorem applyW_keeps : ∀ (W : List (Nat × Ob)) (h : List Ob) (x : Nat), (∀ q ∈ W, q.1 ≠ x) → (applyW h W).getD x .dead = h.getD x .dead
  | [], _, _, _ => rfl
  | (id, o) :: W, h, x, hd => by
    rw [applyW, applyW_keeps W _ x (fun q hq => hd q (by simp [hq]))]
    have : id ≠ x := hd (id, o) (by simp)
    simp [List.getD_eq_getElem?_getD, List.getElem?_set_ne this]
theorem applyW_agree : ∀ (W : List (Nat × Ob)) (h h2 : List Ob) (x : Nat), h2.length = h.length → h2.getD x .dead = h.getD x .dead → (applyW h2 W).getD x .dead = (applyW h W).getD x .dead
  | [], _, _, _, _, e => e
  | (id, o) :: W, h, h2, x, hl, e => applyW_agree W _ _ x (by simp [hl]) (set_agree hl id o e)
theorem foldS_h (x : Nat) : ∀ (rs : List Rec) (S S' : Nat → Bool) (o : Nat) (st st' : St), st'.h.length = st.h.length → st'.h.getD x .dead = st.h.getD x .dead → (∀ k (hk : k < rs.length), S (o + k) ≠ S' (o + k) → ∀ q ∈ rs[k].W, q.1 ≠ x) →
    (foldS rs S' o st').h.getD x .dead = (foldS rs S o st).h.getD x .dead
  | [], _, _, _, _, _, _, h, _ => h
  | y :: rs, S, S', o, st, st', hl, h, hd => by
    simp only [foldS]
    refine foldS_h x rs S S' (o + 1) _ _ ?_ ?_ (fun k hk hne => by
      have := hd (k + 1) (by simpa using hk) (by rw [show o + (k + 1) = o + 1 + k by omega]; exact hne)
      simpa using this)
    · cases S o <;> cases S' o <;> simp [Rec.app, applyW_len, hl]
    · have h0 := hd 0 (by simp)
      simp only [Nat.add_zero, List.getElem_cons_zero] at h0
      cases e : S o <;> cases e' : S' o <;> simp only [cond_true, cond_false, Rec.app]
      · exact h
      · rw [applyW_keeps _ _ _ (h0 (by rw [e, e']; simp))]; exact h
      · rw [applyW_keeps _ _ _ (h0 (by rw [e, e']; simp))]; exact h
      · exact applyW_agree _ _ _ _ hl h
end Go.Proofs.EV
set_option linter.unusedVariables false
set_option linter.unusedSimpArgs false
set_option linter.unusedSectionVars false
namespace Go.Proofs.EV
open Go Go.RowKit
variable [Dr]

section
variable {C : Cfg}

/-- Is an operation carried out: what its guard says. -/
inductive Gd (ops : List Oper) (o : Oper) (t : List V) : Bool → Prop where
  | none (h : o.guard = none) : Gd ops o t true
  | some (g : Nat) (want b : Bool) (d : Nat) (h : o.guard = some (g, want)) (hd : (ops[g]?).bind (·.dst) = some d) (ht : t.getD d .undef = .one true (.bool b)) : Gd ops o t (b == want)
  | skip (g : Nat) (want : Bool) (d : Nat) (h : o.guard = some (g, want)) (hd : (ops[g]?).bind (·.dst) = some d) (ht : t.getD d .undef = .tup []) : Gd ops o t false

structure Fact (C : Cfg) (ops : List Oper) (o : Oper) (s : Nat) (st : St) (x : Rec) (l : Lg) : Prop where
  d : x.d = o.dst
  ws : ∀ q ∈ x.W, q.1 ∈ l.w
  step : (Gd ops o st.t true ∧ ∀ t2 : List V, (∀ d ∈ looks ops o, t2.getD d .undef = st.t.getD d .undef) → ∀ h2 : List Ob, h2.length = st.h.length → (∀ y ∈ l.r, h2.getD y .dead = st.h.getD y .dead) →
      ∀ (R2 : Type) (c2 : V → List Ob → Option R2), (opHM C o.op o.type (St.val C t2) s).run h2 c2 = c2 x.v (applyW h2 x.W)) ∨ (Gd ops o st.t false ∧ x.v = .tup [] ∧ x.W = [])

theorem set_same {t : List V} {d : Nat} {v : V} (h : t.getD d .undef = v) : t.set d v = t := by
  subst h
  apply List.ext_getElem
  · simp
  · intro i h1 h2
    rw [List.getElem_set]
    split
    · rename_i e; subst e; rw [getD_of_lt h2]
    · rfl

def Canon {R : Type} (C : Cfg) (ops : List Oper) (k : St → List Lg → Option R) (r : R) (l : List Oper) (s : Nat) (st : St) (lg : List Lg) : Prop :=
  ∃ (recs : List Rec) (lgs : List Lg), recs.length = l.length ∧ lgs.length = l.length ∧ k (foldS recs (fun _ => true) 0 st) (lg ++ lgs) = some r ∧
      ∀ i (hi : i < l.length) (hr : i < recs.length) (hg : i < lgs.length), Fact C ops l[i] (s + needs C (l.take i)) (foldS (recs.take i) (fun _ => true) 0 st) recs[i] lgs[i]

theorem canon {R : Type} {ops : List Oper} {k : St → List Lg → Option R} {r : R} : ∀ (l : List Oper) (s : Nat) (st : St) (lg : List Lg), evOpsL C ops l s st lg k = some r →
    Canon C ops k r l s st lg
  | [], s, st, lg, h => ⟨[], [], rfl, rfl, by simpa [evOpsL, foldS] using h, fun i hi => by simp at hi⟩
  | o :: os, s, st, lg, h => by
    have next : ∀ (x : Rec) (l : Lg), Fact C ops o s st x l → evOpsL C ops os (s + need C o.op o.type) (x.app st) (lg ++ [l]) k = some r → Canon C ops k r (o :: os) s st lg := by
      intro x l hx hr
      obtain ⟨recs, lgs, h1, h2, h3, h4⟩ := canon os _ _ _ hr
      refine ⟨x :: recs, l :: lgs, by simp [h1], by simp [h2], ?_, fun i hi hr hg => ?_⟩
      · simp only [foldS, cond_true]
        rw [foldS_congr recs (fun _ => true) (fun _ => true) (0 + 1) _ (fun _ _ => rfl)]
        have e : foldS recs (fun _ => true) (0 + 1) (x.app st) = foldS recs (fun _ => true) 0 (x.app st) := shift recs 1 0 _
        rw [e]
        simpa using h3
      · cases i with
        | zero => simpa [needs, foldS] using hx
        | succ i =>
          have := h4 i (by simpa using hi) (by simpa using hr) (by simpa using hg)
          simp only [List.getElem_cons_succ, List.take_succ_cons, foldS, cond_true, needs]
          rw [shift (recs.take i) (0 + 1) 0]
          rw [← Nat.add_assoc]
          exact this
    have go : ∀ (hg : Gd ops o st.t true), ((opHM C o.op o.type (St.val C st.t) s).runL st.h [] [] fun v h rs ws => evOpsL C ops os (s + need C o.op o.type) ⟨setDst st.t o.dst v, h⟩ (lg ++ [⟨rs, ws⟩]) k) = some r → Canon C ops k r (o :: os) s st lg := by
      intro hg hr
      obtain ⟨v, W, rs', ws', q1, q2, q3, q4, q5⟩ := runL_frame _ _ _ _ _ r hr
      refine next ⟨o.dst, v, W⟩ ⟨rs', ws'⟩ ⟨rfl, q4, .inl ⟨hg, fun t2 ht h2 hl hy R2 c2 => ?_⟩⟩ q1
      rw [opHM_congr (ρ' := St.val C st.t) o.op o.type s (fun x hx => ?_)]
      · exact q5 h2 hl hy R2 c2
      · cases x with
        | tmp i => exact ht i (by
            simp only [looks]
            exact List.mem_append_left _ (List.mem_filterMap.2 ⟨.tmp i, by simpa using hx, rfl⟩))
        | _ => rfl
    have skip : ∀ (hg : Gd ops o st.t false), evOpsL C ops os (s + need C o.op o.type) ⟨setDst st.t o.dst (.tup []), st.h⟩ (lg ++ [⟨[], []⟩]) k = some r → Canon C ops k r (o :: os) s st lg := by
      intro hg hr
      exact next ⟨o.dst, .tup [], []⟩ ⟨[], []⟩ ⟨rfl, fun q hq => by simp at hq, .inr ⟨hg, rfl, rfl⟩⟩ hr
    unfold evOpsL at h
    dsimp only at h
    split at h
    · rename_i hg
      exact go (.none hg) h
    · rename_i g want hg
      split at h
      · rename_i d hd
        split at h
        · rename_i b hv
          cases want with
          | true =>
            cases b with
            | true =>
              have e : st.t.set d (vbool true) = st.t := set_same hv
              simp only [cond_true, e] at h
              exact go (.some g true true d hg hd hv) h
            | false =>
              have e : st.t.set d (vbool false) = st.t := set_same hv
              simp only [cond_false, e] at h
              exact skip (.some g true false d hg hd hv) h
          | false =>
            cases b with
            | true =>
              have e : st.t.set d (vbool true) = st.t := set_same hv
              simp only [cond_true, e] at h
              exact skip (.some g false true d hg hd hv) h
            | false =>
              have e : st.t.set d (vbool false) = st.t := set_same hv
              simp only [cond_false, e] at h
              exact go (.some g false false d hg hd hv) h
        · rename_i hv
          exact skip (.skip g want d hg hd hv) h
        · cases h
      · cases h
where
  shift : ∀ (rs : List Rec) (a b : Nat) (st : St), foldS rs (fun _ => true) a st = foldS rs (fun _ => true) b st
  | [], _, _, _ => rfl
  | x :: rs, a, b, st => by simp only [foldS, cond_true]; exact shift rs (a + 1) (b + 1) _

theorem foldS_take : ∀ (rs : List Rec) (i o : Nat) (st : St), foldS (rs.take i) (fun _ => true) o st = foldS rs (fun k => decide (k < o + i)) o st
  | [], i, o, st => by simp [foldS]
  | x :: rs, 0, o, st => by
    have : ∀ (rs : List Rec) (p : Nat) (st : St), o ≤ p → foldS rs (fun k => decide (k < o + 0)) p st = st := by
      intro rs
      induction rs with
      | nil => intros; rfl
      | cons y rs ih =>
        intro p st hp
        have : decide (p < o + 0) = false := by simp; omega
        simp only [foldS, this, cond_false]
        exact ih (p + 1) st (by omega)
    rw [this _ _ _ (Nat.le_refl o)]
    rfl
  | x :: rs, i + 1, o, st => by
    have h0 : decide (o < o + (i + 1)) = true := by simp
    simp only [List.take_succ_cons, foldS, h0, cond_true]
    rw [foldS_take rs i (o + 1) _]
    exact foldS_congr _ _ _ _ _ (fun k hk => by rw [show o + 1 + i = o + (i + 1) by omega])
end
end Go.Proofs.EV
set_option linter.unusedVariables false
set_option linter.unusedSimpArgs false
set_option linter.unusedSectionVars false
namespace Go.Proofs.EV
open Go Go.RowKit
variable [Dr]

section
variable {P : Program} {base : Nat} {w : World} {L : Lks} {C : Cfg}

theorem trans_pre : ∀ (l : List Oper) (acc : List (List Nat)) (k : Nat), k < acc.length → (trans l acc).getD k [] = acc.getD k []
  | [], _, _, _ => rfl
  | o :: os, acc, k, h => by
    rw [trans, trans_pre os _ k (by simp; omega)]
    simp [List.getD_eq_getElem?_getD, List.getElem?_append_left h]
theorem trans_at : ∀ (l : List Oper) (acc : List (List Nat)) (i : Nat) (hi : i < l.length), (∀ e ∈ deps l[i], e < acc.length + i) →
    (trans l acc).getD (acc.length + i) [] = deps l[i] ++ (deps l[i]).flatMap fun e => (trans l acc).getD e []
  | o :: os, acc, 0, hi, h => by
    have e0 : (trans (o :: os) acc).getD (acc.length + 0) [] = deps o ++ (deps o).flatMap fun e => acc.getD e [] := by
      rw [trans, trans_pre os _ _ (by simp)]
      simp [List.getD_eq_getElem?_getD]
    rw [e0]
    simp only [List.getElem_cons_zero] at h ⊢
    congr 1
    simp only [List.flatMap]
    congr 1
    refine List.map_congr_left fun e he => ?_
    have hlt := h e he
    rw [trans_pre (o :: os) acc e (by omega)]
  | o :: os, acc, i + 1, hi, h => by
    have := trans_at os (acc ++ [deps o ++ (deps o).flatMap fun e => acc.getD e []]) i (by simpa using hi) (fun e he => by
      have := h e (by simpa using he)
      simp; omega)
    simp only [List.length_append, List.length_cons, List.length_nil] at this
    rw [show acc.length + (i + 1) = acc.length + (0 + 1) + i by omega]
    simpa [trans] using this

/-- What is done is closed. -/
theorem trans_closed {ops : List Oper} (hlt : ∀ i (hi : i < ops.length), ∀ e ∈ deps ops[i], e < i) {S : Nat → Bool} (hS : ∀ i (hi : i < ops.length), S i = true → ∀ e ∈ deps ops[i], S e = true) : ∀ (j : Nat), j < ops.length → S j = true → ∀ i ∈ (trans ops []).getD j [], S i = true := by
  intro j
  induction j using Nat.strongRecOn with
  | ind j ih =>
    intro hj hSj i hi
    have e := trans_at ops [] j hj (fun e he => by simpa using hlt j hj e he)
    simp only [List.length_nil, Nat.zero_add] at e
    rw [e] at hi
    rcases List.mem_append.1 hi with h | h
    · exact hS j hj hSj i h
    · obtain ⟨d, h1, h2⟩ := List.mem_flatMap.1 h
      have h3 := hlt j hj d h1
      exact ih d h3 (by omega) (hS j hj hSj d h1) i h2

theorem disj_spec {a b : List Nat} (h : disj a b = true) : ∀ x ∈ a, x ∉ b := fun x hx hb => by
  have := List.all_eq_true.1 h x hx
  simp at this
  exact this hb

theorem gd_wanted {ops : Array Oper} {o : Oper} {t : List V} {b : Bool} {tm : Array Value} {ok : Nat → Prop} (hg : Gd ops.toList o t b) (ht : ∀ i, VRel w ok base L (t.getD i .undef) (tm.getD i undef)) : Region.wanted o (yielded ops tm) = b := by
  cases hg with
  | none h => simp [Region.wanted, h]
  | some g want b d h hd hv =>
    have hd' : (ops[g]?).bind (·.dst) = some d := by simpa using hd
    have hv' := ht d
    rw [hv] at hv'
    have hb := hv'.bool_inv
    have hget : tm[d]? = some (.bool b) := by
      rw [Array.getD_eq_getD_getElem?] at hb
      cases e : tm[d]? with
      | none => rw [e] at hb; cases hb
      | some x => rw [e] at hb; simpa using hb
    have hy : yielded ops tm g = some b := by simp [yielded, hd', hget]
    simp [Region.wanted, h, hy]
  | skip g want d h hd hv =>
    have hd' : (ops[g]?).bind (·.dst) = some d := by simpa using hd
    have hv' := ht d
    rw [hv] at hv'
    have hnb : yielded ops tm g = none := by
      rw [Array.getD_eq_getD_getElem?] at hv'
      cases e : tm[d]? with
      | none => simp [yielded, hd', e]
      | some x =>
        rw [e] at hv'
        cases hv' with
        | tup _ arr hl hx => simp [yielded, hd', e]
    simp [Region.wanted, h, hnb]

theorem gd_congr {ops : List Oper} {o : Oper} {t t2 : List V} {b : Bool} (hg : Gd ops o t b) (h : ∀ d ∈ looks ops o, t2.getD d .undef = t.getD d .undef) : Gd ops o t2 b := by
  have hm : ∀ g want d, o.guard = some (g, want) → (ops[g]?).bind (·.dst) = some d → d ∈ looks ops o := fun g want d h1 h2 => by
    simp only [looks, h1, h2]
    exact List.mem_append_right _ (by simp)
  cases hg with
  | none h => exact .none h
  | some g want b d h1 hd hv => exact .some g want b d h1 hd (by rw [h d (hm g want d h1 hd)]; exact hv)
  | skip g want d h1 hd hv => exact .skip g want d h1 hd (by rw [h d (hm g want d h1 hd)]; exact hv)

theorem needs_take {l : List Oper} {i : Nat} (hi : i < l.length) : needs C (l.take i) + need C l[i].op l[i].type ≤ needs C l := by
  induction l generalizing i with
  | nil => simp at hi
  | cons o os ih =>
    cases i with
    | zero => simp [needs]
    | succ i =>
      have := ih (i := i) (by simpa using hi)
      simp only [List.take_succ_cons, needs, List.getElem_cons_succ]
      omega
theorem needs_lt {l : List Oper} {i j : Nat} (hij : i < j) (hj : j < l.length) : needs C (l.take i) + need C (l[i]'(by omega)).op (l[i]'(by omega)).type ≤ needs C (l.take j) := by
  have h1 : i < (l.take j).length := by simp; omega
  have := needs_take (C := C) h1
  rw [List.take_take, Nat.min_eq_left (by omega)] at this
  simpa using this

theorem okW_heap {w' : World} {H : List Ob} (hw : w'.heap = w.heap) : okW w' L H = okW w L H := by
  funext b
  exact propext ⟨fun h => ⟨by rw [← hw]; exact h.lt, h.no, h.nh⟩, fun h => ⟨by rw [hw]; exact h.lt, h.no, h.nh⟩⟩
theorem HRel.world {w' : World} {H : List Ob} (h : HRel w base L H) (hw : w'.heap = w.heap) : HRel w' base L H := by
  have hok : okW w' L H = okW w L H := okW_heap hw
  exact ⟨fun id hl => by
    obtain ⟨lk, h1, h2⟩ := h.ob id hl
    refine ⟨lk, h1, ?_⟩
    rw [hok]
    exact h2.lift (fun b hb => ⟨hb, by rw [hw]⟩) (fun _ _ h => h) (fun b _ => by rw [hw]), fun id lk b hl h1 h2 => by rw [hw]; exact h.rng id lk b hl h1 h2, h.inj, h.out, h.nh, fun b hb => by rw [hw]; exact h.hlt b hb⟩
theorem SR.world {w' : World} {st : St} {a : Act} (h : SR C base w L st a) (hw : w'.heap = w.heap) : SR C base w' L st a := by
  have hok : okW w' L st.h = okW w L st.h := okW_heap hw
  refine ⟨h.sz, fun i => ?_, h.h.world hw, fun g => ?_, h.d, by rw [hw]; exact h.b, h.nb⟩
  · rw [hok]; exact (h.t i).lift (fun b hb => ⟨hb, by rw [hw]⟩) (fun _ _ h => h)
  · rw [hok]; exact (h.g g).lift (fun b hb => ⟨hb, by rw [hw]⟩)
theorem SR.more {st : St} {a : Act} (h : SR C base w L st a) (n : Nat) : SR C base w L ⟨st.t, st.h ++ List.replicate n .dead⟩ a := by
  obtain ⟨hm, hok⟩ := h.h.more n
  exact ⟨h.sz, fun i => (h.t i).lift (fun b hb => ⟨(hok b).2 hb, rfl⟩) (fun _ _ h => h), hm, fun g => (h.g g).lift (fun b hb => ⟨(hok b).2 hb, rfl⟩), h.d, h.b, by have := h.nb; simp; omega⟩

structure Apt (ops : List Oper) (lg : List Lg) (a b : Oper) (la lb : Lg) : Prop where
  ab : ∀ x, a.dst = some x → x ∉ looks ops b
  dd : ∀ x, a.dst = some x → b.dst ≠ some x
  ba : ∀ x, b.dst = some x → x ∉ looks ops a
  ww : ∀ x ∈ la.w, x ∉ lb.w
  wr : ∀ x ∈ la.w, x ∉ lb.r
  rw : ∀ x ∈ lb.w, x ∉ la.r
theorem apart_spec {ops : List Oper} {lg : List Lg} {i j : Nat} (hi : i < ops.length) (hj : j < ops.length) (hi' : i < lg.length) (hj' : j < lg.length) (h : apartOps ops lg i j = true) : Apt ops lg ops[i] ops[j] lg[i] lg[j] := by
  unfold apartOps at h
  rw [List.getElem?_eq_getElem hi, List.getElem?_eq_getElem hj, List.getElem?_eq_getElem hi', List.getElem?_eq_getElem hj'] at h
  simp only [Bool.and_eq_true] at h
  obtain ⟨⟨⟨⟨⟨h1, h2⟩, h3⟩, h4⟩, h5⟩, h6⟩ := h
  exact ⟨fun x e => disj_spec h1 x (by simp [e]), fun x e e' => disj_spec h2 x (by simp [e]) (by simp [e']), fun x e => disj_spec h3 x (by simp [e]), disj_spec h4, disj_spec h5, disj_spec h6⟩

/-- A region whose order is drawn. -/
theorem draw_ok (hC : CfgOk P C) (hM : MOk P C) (hmix : P.follows .mixedOrders = true) : DrawOk P C := by
  intro R base id w0 L0 st0 a0 ops k r Q hr hS0 hk
  unfold evDraw at hr
  obtain ⟨recs, lgs, n1, n2, n3, n4⟩ := canon _ _ _ _ hr
  simp only [List.nil_append] at n3
  cases hokd : okDraw ops.toList lgs with
  | false => rw [hokd] at n3; cases n3
  | true =>
  rw [hokd] at n3
  simp only [cond_true] at n3
  simp only [okDraw, Bool.and_eq_true] at hokd
  obtain ⟨hd1, hd2⟩ := hokd
  have hn : ops.toList.length = ops.size := by simp
  have hlt : ∀ i (hi : i < ops.toList.length), ∀ e ∈ deps ops.toList[i], e < i := by
    intro i hi e he
    have := List.all_eq_true.1 hd1 (ops.toList[i], i) (by rw [List.mem_zipIdx_iff_getElem?]; simp [hi])
    have := List.all_eq_true.1 this e he
    simpa using this
  have hpair : ∀ i j, i < j → j < ops.toList.length → ((trans ops.toList []).getD j []).contains i = true ∨ apartOps ops.toList lgs i j = true := by
    intro i j hij hj
    have h1 := List.all_eq_true.1 hd2 j (by simpa using hj)
    have h2 := List.all_eq_true.1 h1 i (by simpa using hij)
    simpa using h2
  have hl1 : recs.length = ops.size := by omega
  have hl2 : lgs.length = ops.size := by omega
  let st1 : St := ⟨st0.t, st0.h ++ List.replicate (needs C ops.toList) .dead⟩
  have key : ∀ (fuel : Nat) (U : List Nat) (listed : Array Bool) (w : World) (L : Lks) (a : Act), U.length ≤ fuel → listed.size = ops.size → (∀ i, i < ops.size → listed.getD i false = false → i ∈ U) →
      (∀ i (hi : i < ops.toList.length), listed.getD i false = true → ∀ e ∈ deps ops.toList[i], listed.getD e false = true) →
      (∀ i (hi : i < ops.toList.length), listed.getD i false = false → ∀ id, st0.h.length + needs C (ops.toList.take i) ≤ id → id < st0.h.length + needs C (ops.toList.take i) + need C ops.toList[i].op ops.toList[i].type → L id = none) →
      SR C base w L (foldS recs (fun i => listed.getD i false) 0 st1) a → Fr C.nb base w0 L0 st0.h w L (foldS recs (fun i => listed.getD i false) 0 st1).h → wpAny P .any ops Q fuel listed a w := by
    intro fuel
    induction fuel with
    | zero =>
      intro U listed w L a hU hsz hun hcl hfr hS hbel
      have hU0 : U = [] := List.length_eq_zero_iff.1 (by omega)
      have hall : ∀ i, i < ops.size → listed.getD i false = true := fun i hi => by
        cases e : listed.getD i false with
        | true => rfl
        | false => have := hun i hi e; rw [hU0] at this; simp at this
      refine ⟨?_, ?_⟩
      · rw [List.eq_nil_iff_forall_not_mem]
        intro j hj
        obtain ⟨h1, o, h2, _⟩ := mem_ready.1 hj
        have hj' : j < ops.size := (Array.getElem?_eq_some_iff.1 h2).1
        have := hall j hj'
        simp [hsz, hj'] at h1 this
        rw [h1] at this; cases this
      · have hco := foldS_congr recs (fun _ => true) (fun i => listed.getD i false) 0 st1 (fun i hi => by rw [Nat.zero_add]; exact (hall i (by omega)).symm)
        refine hk _ a w L n3 ?_ (by rw [← hco] at hbel; exact hbel)
        rw [foldS_congr recs (fun _ => true) (fun i => listed.getD i false) 0 st1 (fun i hi => by rw [Nat.zero_add]; exact (hall i (by omega)).symm)]
        exact hS
    | succ fuel ih =>
      intro U listed w L a hU hsz hun hcl hfr hS hbel
      have hgd : ∀ j (d : Bool), j < ops.size → listed.getD j d = listed.getD j false := fun j d hj => by simp [hsz, hj]
      have depm : ∀ (o : Oper) (e : Edge), e ∈ o.after → Region.binds .any e = true → e.on ∈ deps o := fun o e he hb => by
        simp only [deps]
        exact List.mem_map.2 ⟨e, List.mem_filter.2 ⟨by simpa using he, hb⟩, rfl⟩
      refine ⟨fun hnil => ?_, fun j hj => ?_⟩
      · have hall : ∀ i, i < ops.size → listed.getD i false = true := by
          intro i
          induction i using Nat.strongRecOn with
          | ind i ihi =>
            intro hi
            cases e : listed.getD i false with
            | true => rfl
            | false =>
              exfalso
              have hm : i ∈ Region.ready .any ops listed := mem_ready.2 ⟨by rw [hgd i true hi]; exact e, ops[i], Array.getElem?_eq_getElem hi, fun ed hed hb => by
                have h1 := hlt i (by omega) ed.on (depm _ ed (by simpa using hed) hb)
                exact ihi ed.on h1 (by omega)⟩
              rw [hnil] at hm; cases hm
        have hco := foldS_congr recs (fun _ => true) (fun i => listed.getD i false) 0 st1 (fun i hi => by rw [Nat.zero_add]; exact (hall i (by omega)).symm)
        refine hk _ a w L n3 ?_ (by rw [← hco] at hbel; exact hbel)
        rw [foldS_congr recs (fun _ => true) (fun i => listed.getD i false) 0 st1 (fun i hi => by rw [Nat.zero_add]; exact (hall i (by omega)).symm)]
        exact hS
      · obtain ⟨h1, o, h2, h3⟩ := mem_ready.1 hj
        obtain ⟨hjn, ho⟩ := Array.getElem?_eq_some_iff.1 h2
        have hjl : j < ops.toList.length := by omega
        have hoj : ops.toList[j] = o := by simpa using ho
        rw [hgd j true hjn] at h1
        have hdepj : ∀ e ∈ deps ops.toList[j], listed.getD e false = true := by
          intro e he
          rw [hoj] at he
          simp only [deps] at he
          obtain ⟨ed, hed, rfl⟩ := List.mem_map.1 he
          obtain ⟨hed1, hed2⟩ := List.mem_filter.1 hed
          exact h3 ed (by simpa using hed1) hed2
        have hS' : ∀ i, (listed.setIfInBounds j true).getD i false = (listed.getD i false || i == j) := by
          intro i
          by_cases hij : i = j
          · subst hij; simp [hsz, hjn]
          · rw [getD_set_ne false (Ne.symm hij)]; simp [hij]
        have hcl' : ∀ i (hi : i < ops.toList.length), (listed.getD i false || i == j) = true → ∀ e ∈ deps ops.toList[i], (listed.getD e false || e == j) = true := by
          intro i hi h e he
          rw [Bool.or_eq_true] at h ⊢
          rcases h with h | h
          · exact .inl (hcl i hi h e he)
          · have : i = j := by simpa using h
            subst this
            exact .inl (hdepj e he)
        -- what is not ordered with j
        have hap : ∀ k (hk1 : k < ops.toList.length), (k < j ∧ listed.getD k false = false) ∨ (j < k ∧ listed.getD k false = true) →
            (∀ x, ops.toList[k].dst = some x → x ∉ looks ops.toList ops.toList[j]) ∧ (∀ x, ops.toList[j].dst = some x → ops.toList[k].dst ≠ some x) ∧ (∀ x ∈ (lgs[k]'(by omega)).w, x ∉ (lgs[j]'(by omega)).r) ∧ (∀ x ∈ (lgs[j]'(by omega)).w, x ∉ (lgs[k]'(by omega)).w) := by
          intro k hk1 hc
          rcases hc with ⟨hkj, hku⟩ | ⟨hkj, hkl⟩
          · have hnt : ((trans ops.toList []).getD j []).contains k = false := by
              cases e : ((trans ops.toList []).getD j []).contains k with
              | false => rfl
              | true =>
                have := trans_closed hlt hcl' j hjl (by simp) k (by simpa using e)
                rw [hku] at this
                simp at this
                omega
            have h := (hpair k j hkj hjl).resolve_left (by rw [hnt]; simp)
            have A := apart_spec hk1 hjl (by omega) (by omega) h
            exact ⟨A.ab, fun x e e' => A.dd x e' e, A.wr, fun x h h' => A.ww x h' h⟩
          · have hnt : ((trans ops.toList []).getD k []).contains j = false := by
              cases e : ((trans ops.toList []).getD k []).contains j with
              | false => rfl
              | true =>
                have := trans_closed (S := fun i => listed.getD i false) hlt hcl k hk1 hkl j (by simpa using e)
                rw [h1] at this; cases this
            have h := (hpair j k hkj hk1).resolve_left (by rw [hnt]; simp)
            have A := apart_spec hjl hk1 (by omega) (by omega) h
            exact ⟨A.ba, A.dd, A.rw, A.ww⟩
        have F : ∀ k (hk1 : k < ops.toList.length), Fact C ops.toList ops.toList[k] (st0.h.length + needs C (ops.toList.take k)) (foldS (recs.take k) (fun _ => true) 0 st1) (recs[k]'(by omega)) (lgs[k]'(by omega)) := fun k hk1 => n4 k hk1 (by omega) (by omega)
        have Fj := F j hjl
        rw [foldS_take, hoj] at Fj
        simp only [Nat.zero_add] at Fj
        have side : ∀ k, decide (k < j) ≠ listed.getD k false → (k < j ∧ listed.getD k false = false) ∨ (j < k ∧ listed.getD k false = true) := by
          intro k hne
          rcases Nat.lt_trichotomy k j with h | h | h
          · left; refine ⟨h, ?_⟩
            cases e : listed.getD k false with
            | false => rfl
            | true => rw [e] at hne; simp [h] at hne
          · subst h; rw [h1] at hne; simp at hne
          · right; refine ⟨h, ?_⟩
            cases e : listed.getD k false with
            | true => rfl
            | false => rw [e] at hne; simp at hne; omega
        have agT : ∀ d ∈ looks ops.toList o, (foldS recs (fun i => listed.getD i false) 0 st1).t.getD d .undef = (foldS recs (fun k => decide (k < j)) 0 st1).t.getD d .undef := by
          intro d hd
          refine foldS_t d recs _ _ 0 st1 st1 rfl rfl fun k hk1 hne => ?_
          rw [Nat.zero_add] at hne
          have hk2 : k < ops.toList.length := by omega
          rw [(F k hk2).d]
          intro e
          have A := (hap k hk2 (side k hne)).1 d e
          rw [hoj] at A
          exact A hd
        have agH : ∀ y ∈ (lgs[j]'(by omega)).r, (foldS recs (fun i => listed.getD i false) 0 st1).h.getD y .dead = (foldS recs (fun k => decide (k < j)) 0 st1).h.getD y .dead := by
          intro y hy
          refine foldS_h y recs _ _ 0 st1 st1 rfl rfl fun k hk1 hne q hq e => ?_
          rw [Nat.zero_add] at hne
          have hk2 : k < ops.toList.length := by omega
          have A := (hap k hk2 (side k hne)).2.2.1 q.1 ((F k hk2).ws q hq)
          rw [e] at A
          exact A hy
        have hadd := foldS_add recs (fun i => listed.getD i false) 0 j st1 (by omega) (by rw [Nat.zero_add]; exact h1) (fun k hk1 hjk hSk => by
          rw [Nat.zero_add] at hSk
          have hk2 : k < ops.toList.length := by omega
          have A := hap k hk2 (.inr ⟨hjk, hSk⟩)
          refine ⟨fun d hd e => ?_, fun p hp q hq e => ?_⟩
          · rw [(F j hjl).d] at hd
            rw [(F k hk2).d] at e
            exact A.2.1 d hd e
          · have h5 := A.2.2.2 p.1 ((F j hjl).ws p hp)
            rw [e] at h5
            exact h5 ((F k hk2).ws q hq))
        have hfold : foldS recs (fun i => (listed.setIfInBounds j true).getD i false) 0 st1 = recs[j].app (foldS recs (fun i => listed.getD i false) 0 st1) := by
          rw [← hadd]
          exact foldS_congr _ _ _ _ _ (fun k hk1 => by rw [hS' (0 + k), Nat.zero_add, Nat.zero_add])
        have hlenS := foldS_len recs (fun i => listed.getD i false) 0 st1
        have hlenC := foldS_len recs (fun k => decide (k < j)) 0 st1
        -- what holds behind
        have behind : ∀ (w1 : World) (L1 : Lks) (a1 : Act), Fr C.nb base w L (foldS recs (fun i => listed.getD i false) 0 st1).h w1 L1 (recs[j].app (foldS recs (fun i => listed.getD i false) 0 st1)).h → (∀ id, (id < st0.h.length + needs C (ops.toList.take j) ∨ st0.h.length + needs C (ops.toList.take j) + need C o.op o.type ≤ id) → L1 id = L id) →
            SR C base w1 L1 (recs[j].app (foldS recs (fun i => listed.getD i false) 0 st1)) a1 → wpAny P .any ops Q fuel (listed.setIfInBounds j true) a1 w1 := by
          intro w1 L1 a1 hb1 hL1 hS1
          refine ih (U.erase j) _ w1 L1 a1 ?_ (by simp [hsz]) (fun i hi hu => ?_) (fun i hi h e he => ?_) (fun i hi hu id g1 g2 => ?_) (by rw [hfold]; exact hS1) (by rw [hfold]; exact hbel.trans hb1)
          · have hmem : j ∈ U := hun j hjn h1
            have := List.length_erase_of_mem hmem
            have hpos : 0 < U.length := List.length_pos_of_mem hmem
            omega
          · rw [hS', Bool.or_eq_false_iff] at hu
            have hij : i ≠ j := by simpa using hu.2
            exact (List.mem_erase_of_ne hij).2 (hun i hi hu.1)
          · rw [hS'] at h ⊢
            exact hcl' i hi h e he
          · rw [hS', Bool.or_eq_false_iff] at hu
            have hij : i ≠ j := by simpa using hu.2
            rw [hL1 id ?_]
            · exact hfr i hi hu.1 id g1 g2
            · rcases Nat.lt_or_gt_of_ne hij with h | h
              · have := needs_lt (C := C) h hjl
                left; omega
              · have := needs_lt (C := C) h hi
                rw [hoj] at this
                right; omega
        unfold wpOp
        rw [h2]
        dsimp only
        have hgdw : ∀ b, Gd ops.toList o (foldS recs (fun k => decide (k < j)) 0 st1).t b → Region.wanted o (yielded ops a.tmps) = b := fun b hb => gd_wanted (gd_congr hb agT) hS.t
        rcases Fj.step with ⟨f1, f2⟩ | ⟨f1, f2, f3⟩
        · rw [hgdw true f1]
          simp only [if_true]
          left
          have hrun := f2 (foldS recs (fun i => listed.getD i false) 0 st1).t agT (foldS recs (fun i => listed.getD i false) 0 st1).h (by rw [hlenS.2, hlenC.2]) agH (V × List Ob) (fun v h => some (v, h))
          have hnt := needs_take (C := C) hjl
          rw [hoj] at hnt
          refine op_wp hC hM hS.h hS.b hS.g (ρ := St.val C (foldS recs (fun i => listed.getD i false) 0 st1).t) (fun x => hS.val x) (by rw [hlenS.2]; simp only [st1, List.length_append, List.length_replicate]; omega) (fun id g1 g2 => hfr j hjl h1 id g1 (by rw [hoj]; exact g2)) hrun ?_
          intro v H' vc w' L' hc hx hH' hv
          simp only [Option.some.injEq, Prod.mk.injEq] at hc
          obtain ⟨rfl, rfl⟩ := hc
          refine behind w' L' _ (hx.fr (Nat.le_trans hS0.nb (Nat.le_add_right _ _))) hx.only ?_
          obtain ⟨p1, p2⟩ := put_rel hS.sz (fun i => (hS.t i).lift hx.ok hx.le) hv o.dst
          have hd : recs[j].d = o.dst := Fj.d
          refine ⟨by simp only [Rec.app, hd]; exact p1, fun i => by simp only [Rec.app, hd]; exact p2 i, hH', fun g => (hS.g g).lift hx.ok, by cases o.dst <;> exact hS.d, Nat.le_trans hS.b hx.below.size, by have := hx.len; have := hS.nb; simp only [Rec.app]; omega⟩
        · rw [hgdw false f1]
          simp only [Bool.false_eq_true, if_false]
          refine behind w L _ (by rw [show (recs[j].app (foldS recs (fun i => listed.getD i false) 0 st1)).h = (foldS recs (fun i => listed.getD i false) 0 st1).h from by simp only [Rec.app, f3, applyW]]; exact Fr.refl ..) (fun _ _ => rfl) ?_
          have hd : recs[j].d = o.dst := Fj.d
          have := hS.put tup0_rel o.dst
          simp only [Rec.app, hd, f2, f3, applyW]
          exact this
  have hfalse : ∀ i, (Array.replicate ops.size false).getD i false = false := fun i => by
    simp only [Array.getD_eq_getD_getElem?]
    by_cases hi : i < ops.size
    · simp [hi]
    · simp [hi]
  have hnone : ∀ (rs : List Rec) (o : Nat) (st : St), foldS rs (fun i => (Array.replicate ops.size false).getD i false) o st = st := by
    intro rs
    induction rs with
    | nil => intros; rfl
    | cons x rs ih =>
      intro o st
      simp only [foldS, hfalse, cond_false]
      have := ih (o + 1) st
      simpa only [hfalse] using this
  refine wp_region_any hmix (key ops.size (List.range ops.size) (Array.replicate ops.size false) _ L0 a0 (by simp) (by simp) (fun i hi _ => by simpa using hi) (fun i hi h => by rw [hfalse] at h; cases h) (fun i hi _ id g1 _ => hS0.h.out id (by omega)) ?_ ?_)
  · rw [hnone]
    exact (hS0.more _).world rfl
  · rw [hnone]
    refine ⟨⟨rfl, rfl, rfl, Nat.le_refl _, fun _ _ => rfl, fun _ => Nat.le_succ _⟩, fun b hb => ⟨?_, rfl⟩, fun _ _ => rfl, rfl, fun _ _ _ => rfl⟩
    have h0 : okW w0 L0 st1.h b := ((hS0.h.more _).2 b).2 hb
    exact ⟨h0.lt, h0.no, h0.nh⟩
end
end Go.Proofs.EV
