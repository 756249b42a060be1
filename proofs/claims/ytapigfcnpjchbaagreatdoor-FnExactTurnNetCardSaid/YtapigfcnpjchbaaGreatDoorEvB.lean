import Derived.DeepKeys
import Derived.MapKept
import Derived.Calls
import Derived.Tactics
import Derived.Orders
import Derived.LoopN
import Derived.Test.YtapigfcnpjchbaaGreatDoorEvA
set_option linter.unusedVariables false
set_option linter.unusedSimpArgs false
set_option linter.unusedSectionVars false
namespace Go.Proofs.EV
open Go Go.RowKit
variable [Dr]

section
variable {P : Program} {base s m : Nat} {w : World} {L : Lks} {H : List Ob} {C : Cfg} {sm : Sem Value}

/-- Parts, their values. -/
inductive Ps (R : V → Value → Prop) : List (Nat × V) → List (Nat × Value) → Prop where
  | nil : Ps R [] []
  | cons (i : Nat) {x : V} {v : Value} {xs : List (Nat × V)} {vs : List (Nat × Value)} (h : R x v) (t : Ps R xs vs) : Ps R ((i, x) :: xs) ((i, v) :: vs)

theorem zipIdx_setL (off : Nat) : ∀ (l : List Value) (k : Nat) (cs : Array Value), (l.zipIdx k).foldl (fun cs (p : Value × Nat) => cs.setIfInBounds (off + p.2) p.1) cs = setL cs (off + k) l
  | [], _, _ => rfl
  | v :: l, k, cs => by
    simp only [List.zipIdx_cons, List.foldl_cons, setL]
    rw [zipIdx_setL off l (k + 1)]
    rfl
theorem fold_setL (off : Nat) (a : Array Value) (cs : Array Value) : a.zipIdx.foldl (fun cs (c, j) => cs.setIfInBounds (off + j) c) cs = setL cs off a.toList := by
  rw [← Array.foldl_toList, Array.toList_zipIdx]
  exact zipIdx_setL off a.toList 0 cs

theorem CsRel.splice {ok : Nat → Prop} {cs xs : List V} {arr va : Array Value} (h : CsRel w ok base L cs arr) (hx : CsRel w ok base L xs va) {off : Nat} (hle : off + xs.length ≤ cs.length) : CsRel w ok base L (EV.splice cs off xs) (setL arr off va.toList) := by
  have hvl : va.toList.length = xs.length := by simp [hx.1]
  refine ⟨by rw [setL_size, splice_len _ _ _ hle, h.1], fun i hi => ?_⟩
  rw [splice_len _ _ _ hle] at hi
  rw [splice_get _ _ _ _ hle, Array.getD_eq_getD_getElem?]
  by_cases hin : off ≤ i ∧ i < off + xs.length
  · rw [if_pos hin]
    have e2 := setL_in va.toList arr off (i - off) (by omega) (by rw [hvl, h.1]; omega)
    rw [show off + (i - off) = i by omega] at e2
    rw [e2]
    have := hx.2 (i - off) (by omega)
    simpa [Array.getD_eq_getD_getElem?] using this
  · rw [if_neg hin, setL_out _ _ _ _ (by omega)]
    have := h.2 i (by omega)
    simpa [Array.getD_eq_getD_getElem?] using this

theorem fill_ok {ok : Nat → Prop} {place : Nat → Option (Nat × Nat)} {offs : Nat → Nat} {n : Nat} : ∀ (ps : List (Nat × V)) (vs : List (Nat × Value)) (hp : Ps (VRel w ok base L) ps vs) (cs : List V) (arr : Array Value) (h : CsRel w ok base L cs arr) (hn : cs.length = n)
    (hpl : ∀ p ∈ ps, 0 < (cellsOf p.2).length ∧ place p.1 = some (offs p.1, (cellsOf p.2).length) ∧ offs p.1 + (cellsOf p.2).length ≤ n),
    ∃ arr', Instr.fill place arr vs = some arr' ∧ CsRel w ok base L (setParts (ps.map fun p => (offs p.1, cellsOf p.2)) cs) arr'
  | _, _, .nil, cs, arr, h, hn, hpl => ⟨arr, rfl, h⟩
  | _, _, .cons (x := x) (v := v) (xs := ps) (vs := vs) i hx t, cs, arr, h, hn, hpl => by
    obtain ⟨(h0 : 0 < (cellsOf x).length), (h1 : place i = some (offs i, (cellsOf x).length)), (h2 : offs i + (cellsOf x).length ≤ n)⟩ := hpl (i, x) (by simp)
    have hc := hx.cells h0
    have hs := h.splice hc (off := offs i) (by omega)
    obtain ⟨arr', k1, k2⟩ := fill_ok ps vs t (EV.splice cs (offs i) (cellsOf x)) _ hs (by rw [splice_len _ _ _ (by omega)]; exact hn) (fun p hp => hpl p (by simp [hp]))
    refine ⟨arr', ?_, k2⟩
    simp only [Instr.fill, h1]
    rw [if_neg (by have := h.1; have := hc.1; simp; omega), fold_setL]
    exact k1

theorem mapM_fields (f : Field → Nat) : ∀ (l : List Field) (h : ∀ fd ∈ l, (sizeOf fd.type).run P w = .ok (f fd) w), (l.mapM fun fd => do pure (fd.offset, ← sizeOf fd.type) : Sem (List (Nat × Nat))).run P w = .ok (l.map fun fd => (fd.offset, f fd)) w
  | [], _ => rfl
  | fd :: l, h => by
    have ih := mapM_fields f l (fun fd hfd => h fd (by simp [hfd]))
    rw [List.mapM_cons]
    simp only [Sem.run_bind, h fd (by simp), Result.andThen_ok, Sem.run_pure, ih, List.map_cons]

theorem build_ok (hH : HRel w base L H) (hC : CfgOk P C) (T : TypeId) {ps : List (Nat × V)} {vs : List (Nat × Value)} (hp : Ps (VRel w (okW w L H) base L) ps vs) :
    OpOk P base s m w L H (buildHM C T ps) (Instr.build T vs.toArray) := by
  unfold buildHM
  dsimp only
  split
  · rename_i fs hk
    have hT := (hC T).1 (by rw [hk]; trivial)
    have hu := hT.k
    rw [hk] at hu
    obtain ⟨fields, u1, u2, u3⟩ := hu
    obtain ⟨i, z, i1, i2, i3, i4, i5, i6, _⟩ := hT.i
    split
    · rename_i hall
      have hz : CsRel w (okW w L H) base L ((C.ty T).lk.map zeroV) z.cells := zeros_rel (T := T) i5
      let szf : Field → Nat := fun fd => match P.info? fd.type with | some i => i.size | none => 0
      have hszf : ∀ fd ∈ fields.toList, (sizeOf fd.type).run P w = .ok (szf fd) w := fun fd hfd => by
        obtain ⟨i, q1, _⟩ := u3 fd hfd
        simp [sizeOf, typeInfo, q1, szf]
      have hfs : ∀ j, j < fs.length → ∃ fd, fields.toList[j]? = some fd ∧ fs.getD j (0, 0) = (fd.offset, fd.type) := by
        intro j hj
        have hj' : j < fields.toList.length := by rw [← u2] at hj; simpa using hj
        refine ⟨fields.toList[j], List.getElem?_eq_getElem hj', ?_⟩
        rw [getD_of_lt hj]
        simp only [← u2]
        simp
      have hplaces := mapM_fields szf fields.toList hszf
      let places : Array (Nat × Nat) := (fields.toList.map fun fd => (fd.offset, szf fd)).toArray
      have hm : (fields.mapM fun f => do pure (f.offset, ← sizeOf f.type) : Sem (Array (Nat × Nat))).run P w = .ok places w := by
        rw [Array.mapM_eq_mapM_toList]
        show (((fields.toList.mapM fun f => do pure (f.offset, ← sizeOf f.type) : Sem (List (Nat × Nat))) >>= fun l => pure l.toArray) : Sem (Array (Nat × Nat))).run P w = _
        rw [Sem.run_bind, hplaces]; rfl
      have hpl : ∀ p ∈ ps, 0 < (cellsOf p.2).length ∧ places[p.1]? = some ((fs.getD p.1 (0, 0)).1, (cellsOf p.2).length) ∧ (fs.getD p.1 (0, 0)).1 + (cellsOf p.2).length ≤ (C.ty T).lk.length := by
        intro p hpm
        have := List.all_eq_true.1 hall p hpm
        simp only [Bool.and_eq_true, decide_eq_true_eq] at this
        obtain ⟨⟨⟨q1, q2⟩, q3⟩, q4⟩ := this
        obtain ⟨fd, f1, f2⟩ := hfs p.1 q1
        refine ⟨q2, ?_, q4⟩
        rw [f2] at q3 ⊢
        have q3' : (cellsOf p.2).length = (C.ty fd.type).size := q3
        have hkn : (C.ty fd.type).size ≠ 0 := by omega
        obtain ⟨i', j1, j2⟩ := info_size hC (known_of_pos hC hkn)
        have : szf fd = (cellsOf p.2).length := by simp only [szf, j1]; rw [j2, q3]
        simp [places, f1, this]
      obtain ⟨arr', k1, k2⟩ := fill_ok (place := (places[·]?)) (offs := fun i => (fs.getD i (0, 0)).1) (n := (C.ty T).lk.length) ps vs hp _ _ hz (by simp) hpl
      have k2' : VRel w (okW w L H) base L (.agg (setParts (ps.map fun (i, v) => ((fs.getD i (0, 0)).1, cellsOf v)) ((C.ty T).lk.map zeroV))) (.agg arr') := .agg _ _ k2.1 k2.2
      refine .ret hH ?_ k2'
      simp only [Instr.build, Sem.run_bind, zeroValue, typeInfo, i1, i4, run_underlying u1 w, Result.andThen_ok, Sem.run_pure, run_program]
      rw [hm]
      simp only [Result.andThen_ok]
      rw [k1]
      rfl
    · exact .fail
  · rename_i n e hk
    have hT := (hC T).1 (by rw [hk]; trivial)
    have hu := hT.k
    rw [hk] at hu
    obtain ⟨i, z, i1, i2, i3, i4, i5, i6, _⟩ := hT.i
    obtain ⟨ei, e1, e2⟩ := hT.arr n e hk
    split
    · rename_i hall
      obtain ⟨hpos, hall⟩ := hall
      have hz : CsRel w (okW w L H) base L ((C.ty T).lk.map zeroV) z.cells := zeros_rel (T := T) i5
      obtain ⟨i', j1, j2⟩ := info_size hC (known_of_pos hC (T := e) (by omega))
      rw [e1] at j1; cases j1
      have hpl : ∀ p ∈ ps, 0 < (cellsOf p.2).length ∧ (fun i => some (i * (C.ty e).size, (C.ty e).size)) p.1 = some (p.1 * (C.ty e).size, (cellsOf p.2).length) ∧ p.1 * (C.ty e).size + (cellsOf p.2).length ≤ (C.ty T).lk.length := by
        intro p hpm
        have := List.all_eq_true.1 hall p hpm
        simp only [Bool.and_eq_true, decide_eq_true_eq] at this
        obtain ⟨q1, q2⟩ := this
        have q3 : (p.1 + 1) * (C.ty e).size ≤ n * (C.ty e).size := Nat.mul_le_mul_right _ q1
        rw [Nat.add_mul] at q3
        have q4 : (C.ty T).lk.length = n * (C.ty e).size := by rw [← i6, e2, j2]
        exact ⟨by omega, by rw [q2], by omega⟩
      obtain ⟨arr', k1, k2⟩ := fill_ok (place := fun i => some (i * (C.ty e).size, (C.ty e).size)) (offs := fun i => i * (C.ty e).size) (n := (C.ty T).lk.length) ps vs hp _ _ hz (by simp) hpl
      have k2' : VRel w (okW w L H) base L (.agg (setParts (ps.map fun (i, v) => (i * (C.ty e).size, cellsOf v)) ((C.ty T).lk.map zeroV))) (.agg arr') := .agg _ _ k2.1 k2.2
      refine .ret hH ?_ k2'
      have hse : (sizeOf e).run P w = .ok (C.ty e).size w := by simp [sizeOf, typeInfo, e1, j2]
      simp only [Instr.build, Sem.run_bind, zeroValue, typeInfo, i1, i4, run_underlying hu w, Result.andThen_ok, Sem.run_pure, run_program, hse]
      rw [k1]
      rfl
    · exact .fail
  · exact .fail

/-! ### A row out of parts -/
theorem cellD_set (es : List (List D)) (i : Nat) (r : List D) (i' j : Nat) (hi : i' < es.length) : cellD (es.set i r) i' j = if i' = i then r.getD j .nilp else cellD es i' j := by
  unfold cellD
  by_cases h : i' = i
  · subst h
    simp [List.getD_eq_getElem?_getD, List.getElem?_set, hi]
  · simp [List.getD_eq_getElem?_getD, List.getElem?_set, h, Ne.symm h]

theorem fillRow_ok {ok : Nat → Prop} {n sz : Nat} : ∀ (ds : List (Nat × List D)) (vs : List (Nat × Value)) (hl : ds.length = vs.length)
    (hd : ∀ (q : Nat) (d : Nat × List D) (v : Nat × Value), ds[q]? = some d → vs[q]? = some v → d.1 = v.1 ∧ d.1 < n ∧ v.2.cells.size = sz ∧ ∀ j, j < sz → CRel w ok (d.2.getD j .nilp) (v.2.cells.getD j undef))
    (es : List (List D)) (arr : Array Value) (hn : es.length = n) (ha : arr.size = n * sz) (h : ∀ i j, i < n → j < sz → ∃ v, arr[i * sz + j]? = some v ∧ CRel w ok (cellD es i j) v),
    ∃ arr', Instr.fill (fun i => some (i * sz, sz)) arr vs = some arr' ∧ arr'.size = n * sz ∧ (ds.foldl (fun es p => es.set p.1 p.2) es).length = n ∧
      ∀ i j, i < n → j < sz → ∃ v, arr'[i * sz + j]? = some v ∧ CRel w ok (cellD (ds.foldl (fun es p => es.set p.1 p.2) es) i j) v
  | [], [], _, _, es, arr, hn, ha, h => ⟨arr, rfl, ha, hn, h⟩
  | (i, d) :: ds, (i', v) :: vs, hl, hd, es, arr, hn, ha, h => by
    obtain ⟨(q1 : i = i'), (q2 : i < n), (q3 : v.cells.size = sz), q4⟩ := hd 0 (i, d) (i', v) rfl rfl
    subst q1
    have hin : (i + 1) * sz ≤ n * sz := Nat.mul_le_mul_right _ q2
    rw [Nat.add_mul] at hin
    have hvl : v.cells.toList.length = sz := by simp [q3]
    obtain ⟨arr', k1, k2, k3, k4⟩ := fillRow_ok ds vs (by simpa using hl) (fun q d v h1 h2 => hd (q + 1) d v h1 h2) (es.set i d) (setL arr (i * sz) v.cells.toList) (by simp [hn]) (by rw [setL_size, ha]) (fun a j hi hj => by
      rw [cellD_set _ _ _ _ _ (by rw [hn]; exact hi)]
      by_cases e : a = i
      · subst e
        rw [if_pos rfl, setL_in _ _ _ _ (by rw [hvl]; exact hj) (by rw [hvl, ha]; omega)]
        refine ⟨v.cells.getD j undef, ?_, q4 j hj⟩
        rw [agetD_of_lt (by omega)]
        simp [q3, hj]
      · rw [if_neg e]
        obtain ⟨u, e1, e2⟩ := h a j hi hj
        refine ⟨u, ?_, e2⟩
        rw [setL_out]
        · exact e1
        · rw [hvl]
          rcases Nat.lt_or_gt_of_ne e with h | h
          · have : (a + 1) * sz ≤ i * sz := Nat.mul_le_mul_right _ h
            rw [Nat.add_mul] at this; omega
          · have : (i + 1) * sz ≤ a * sz := Nat.mul_le_mul_right _ h
            rw [Nat.add_mul] at this; omega)
    refine ⟨arr', ?_, k2, k3, k4⟩
    simp only [Instr.fill]
    rw [if_neg (by simp [q3, ha]; omega), fold_setL]
    exact k1

theorem Ps.mono {R R' : V → Value → Prop} (hr : ∀ x v, R x v → R' x v) {ps : List (Nat × V)} {vs : List (Nat × Value)} (h : Ps R ps vs) : Ps R' ps vs := by
  induction h with
  | nil => exact .nil
  | cons i h t ih => exact .cons i (hr _ _ h) ih

/-- Many parts frozen. -/
theorem freezeParts_ok {ps : List (Nat × V)} {vs : List (Nat × Value)} : ∀ {H : List Ob} (hH : HRel w base L H) (hp : Ps (VRel w (okW w L H) base L) ps vs) (hc : ∀ p ∈ ps, 0 < (cellsOf p.2).length) {k : List (Nat × List D) → HM V}
    (h : ∀ ds H', Frz base s m w L H H' → ds.length = vs.length → (∀ (q : Nat) (d : Nat × List D) (v : Nat × Value), ds[q]? = some d → vs[q]? = some v → d.1 = v.1 ∧ (∃ p ∈ ps, p.1 = d.1 ∧ v.2.cells.size = (cellsOf p.2).length) ∧ ∀ j, j < v.2.cells.size → CRel w (okS (okW w L H') base true) (d.2.getD j .nilp) (v.2.cells.getD j undef)) → OpOk P base s m w L H' (k ds) sm),
    OpOk P base s m w L H (mapHM (fun (p : Nat × V) k => mapHM freeze (cellsOf p.2) fun ds => k (p.1, ds)) ps k) sm := by
  induction ps generalizing vs with
  | nil =>
    intro H hH hp hc k h
    cases hp with
    | nil => exact h [] H ⟨hH, Ext.refl ..⟩ rfl (fun q d v h1 => by simp at h1)
  | cons p ps ih =>
    intro H hH hp hc k h
    cases hp with
    | cons i hx t =>
      rename_i x v vs
      have hcx : 0 < (cellsOf x).length := hc (i, x) (by simp)
      have hxc := hx.cells hcx
      refine freezes_ok (cellsOf x) hH v.cells.toList (by simp [hxc.1]) (fun q hq => ?_) fun d H' hf hlen hds => ?_
      · have := hxc.2 q hq
        simpa [List.getD_eq_getElem?_getD, Array.getD_eq_getD_getElem?] using this
      · have t' : Ps (VRel w (okW w L H') base L) ps vs := t.mono fun _ _ h => hf.x.v h
        refine ih hf.h t' (fun p hp => hc p (by simp [hp])) fun ds H'' hf' hl hrel => ?_
        refine h ((i, d) :: ds) H'' (hf.trans hf') (by simp [hl]) fun q d' v' h1 h2 => ?_
        cases q with
        | zero =>
          simp at h1 h2
          subst h1 h2
          refine ⟨rfl, ⟨(i, x), by simp, rfl, hxc.1⟩, fun j hj => ?_⟩
          have hj' : j < v.cells.size := hj
          have := (hds j (by rw [hlen, ← hxc.1]; exact hj')).mono hf'.ok
          rw [getD_of_lt (l := v.cells.toList) (by simpa using hj')] at this
          show CRel w _ (d.getD j .nilp) (v.cells.getD j undef)
          rw [agetD_of_lt hj']
          simpa using this
        | succ q =>
          obtain ⟨r1, ⟨p, r2, r3⟩, r4⟩ := hrel q d' v' (by simpa using h1) (by simpa using h2)
          exact ⟨r1, ⟨p, by simp [r2], r3⟩, r4⟩

theorem Ps.len {R : V → Value → Prop} {ps : List (Nat × V)} {vs : List (Nat × Value)} (h : Ps R ps vs) : ps.length = vs.length := by
  induction h with
  | nil => rfl
  | cons i h t ih => simp [ih]

theorem buildSlice_ok (hH : HRel w base L H) (hC : CfgOk P C) (hs : s < H.length) (hm : 0 < m) (hL : L s = none) (hb : base ≤ w.heap.size) (T : TypeId) (n : Nat) {ps : List (Nat × V)} {vs : List (Nat × Value)} (hp : Ps (VRel w (okW w L H) base L) ps vs) :
    OpOk P base s m w L H (buildSliceHM C T n ps s) (Instr.buildSlice T n vs.toArray) := by
  unfold buildSliceHM
  split
  · rename_i e hk
    have hu := ((hC T).1 (by rw [hk]; trivial)).k
    rw [hk] at hu
    dsimp only
    split
    · rename_i hsz
      split
      · rename_i hall
        obtain ⟨hpos, hall⟩ := hall
        have hall' : ∀ p ∈ ps, p.1 < n ∧ (cellsOf p.2).length = (C.ty e).size := fun p hpm => by
          have := List.all_eq_true.1 hall p hpm
          simpa only [Bool.and_eq_true, decide_eq_true_eq] using this
        have hTe := (hC e).1 (known_of_pos hC (by omega))
        obtain ⟨i, z, i1, i2, i3, i4, i5, i6, _⟩ := hTe.i
        have hzs : z.cells.size = (C.ty e).size := by rw [← Array.length_toList, i5]; simp [i6]
        refine freezeParts_ok hH hp (fun p hpm => by rw [(hall' p hpm).2]; exact hpos) fun ds H' hf hl hrel => ?_
        have hfill := fillRow_ok (w := w) (ok := okS (okW w L H') base true) (n := n) (sz := (C.ty e).size) ds vs hl (fun q d v h1 h2 => by
            obtain ⟨r1, ⟨p, r2, r3, r4⟩, r5⟩ := hrel q d v h1 h2
            obtain ⟨k1, k2⟩ := hall' p r2
            exact ⟨r1, by omega, by omega, fun j hj => r5 j (by omega)⟩) (List.replicate n ((C.ty e).lk.map zeroD)) (madeCells z.cells (n * (C.ty e).size)) (by simp) (size_madeCells _ _) (fun i' j hi hj => by
            have hlt := mul_lt hi hj
            have hlt' : (i' * (C.ty e).size + j) % z.cells.size < z.cells.size := by rw [hzs]; exact Nat.mod_lt _ hpos
            refine ⟨z.cells.getD j undef, ?_, ?_⟩
            · simp only [madeCells, Array.getElem?_map]
              rw [Array.getElem?_eq_getElem (by simpa using hlt)]
              simp only [Option.map_some, Array.getElem_range]
              rw [getElem!_pos z.cells _ hlt', agetD_of_lt (by omega)]
              congr 1
              simp only [hzs]
              congr 1
              rw [Nat.mul_comm, Nat.mul_add_mod, Nat.mod_eq_of_lt hj]
            · have e1 : cellD (List.replicate n ((C.ty e).lk.map zeroD)) i' j = zeroD ((C.ty e).lk[j]'(by omega)) := by
                unfold cellD
                have h9 : (List.replicate n ((C.ty e).lk.map zeroD)).getD i' [] = (C.ty e).lk.map zeroD := by rw [getD_of_lt (by simpa using hi)]; simp
                rw [h9, getD_of_lt (by simp; omega)]
                simp
              have e2 : z.cells.getD j undef = zeroVal ((C.ty e).lk[j]'(by omega)) := by
                rw [agetD_of_lt (by omega)]
                have h1 : z.cells.toList[j]'(by simp; omega) = ((C.ty e).lk.map zeroVal)[j]'(by simp; omega) := by simp only [i5]
                simpa using h1
              rw [e1, e2]
              exact zero_rel _)
        obtain ⟨arr', k1, k2, k3, k4⟩ := hfill
        have hrun : (Instr.buildSlice T n vs.toArray).run P w = .ok (.slice (some ⟨w.heap.size, 0, none⟩) n n) (w.alloc (.cells arr' e)) := by
          have hsn : ¬ (16777216 < n * (C.ty e).size) := by omega
          have hse := hTe.size (w := w)
          by_cases hn0 : n * (C.ty e).size = 0
          · have hm0 : madeCells z.cells (n * (C.ty e).size) = (Array.range (n * (C.ty e).size)).map ((#[] : Array Value)[· % (#[] : Array Value).size]!) := by
              rw [hn0, Array.eq_empty_of_size_eq_zero (size_madeCells z.cells 0)]
              exact (Array.eq_empty_of_size_eq_zero (by simp)).symm
            rw [hm0] at k1
            simp [Instr.buildSlice, run_underlying hu w, hse, hn0, hsn, newRow] at k1 ⊢
            simp [k1]
          · have k1' : Instr.fill (fun i => some (i * (C.ty e).size, (C.ty e).size)) ((Array.range (n * (C.ty e).size)).map (z.cells[· % z.cells.size]!)) vs = some arr' := k1
            simp [Instr.buildSlice, run_underlying hu w, hse, hn0, hsn, newRow, zeroValue, typeInfo, i1, i4, k1']
        have key := newRow_ok (s := s) (m := m) hf.h (by rw [hf.x.len]; exact hs) hm hL hb (w' := w.alloc (.cells arr' e)) rfl ((Below.refl base w).alloc hb _) false (sz := (C.ty e).size) (cap := n) (es := ds.foldl (fun es p => es.set p.1 p.2) (List.replicate n ((C.ty e).lk.map zeroD))) hpos k2 (by omega) (fun i' j hi hj => k4 i' j (by omega) hj)
        exact .made hrun key.1 key.2 (.rw_of upd_s (by simp [k3])) (fun _ _ => rfl)
      · exact .fail
    · exact .fail
  · exact .fail
end
end Go.Proofs.EV
set_option linter.unusedVariables false
set_option linter.unusedSimpArgs false
set_option linter.unusedSectionVars false
namespace Go.Proofs.EV
open Go Go.RowKit
variable [Dr]

section
variable {P : Program} {base s m : Nat} {w : World} {L : Lks} {H : List Ob} {C : Cfg} {sm : Sem Value}

theorem TyOk.some {T : TypeId} {t : TI} (h : TyOk P T t) (hk : known t.k) : ∃ d, P.underlying T = some d ∧ (∀ e, t.k = .slice e → d = .slice e) ∧ (t.k = .string → d = .string) := by
  have hu := h.k
  cases e : t.k <;> rw [e] at hu hk <;> simp only at hu <;> try exact ⟨_, hu, fun _ h => by cases h <;> rfl, fun h => by cases h <;> rfl⟩
  case struct => obtain ⟨f, h1, _⟩ := hu; exact ⟨_, h1, (fun _ h => by cases h), (fun h => by cases h)⟩
  case func => obtain ⟨a, b, c, h1⟩ := hu; exact ⟨_, h1, (fun _ h => by cases h), (fun h => by cases h)⟩
  case iface => obtain ⟨a, h1⟩ := hu; exact ⟨_, h1, (fun _ h => by cases h), (fun h => by cases h)⟩
  case other => exact hk.elim

theorem rowStr_some : ∀ (es : List (List D)) (l : List UInt8), rowStr? es = some l → l.length = es.length ∧ ∃ ns : List Int, ns.length = es.length ∧ l = ns.map (fun n => UInt8.ofNat n.toNat) ∧ ∀ i, i < es.length → cellD es i 0 = .int .u8 (ns.getD i 0)
  | [], l, h => by
    simp only [rowStr?, Option.some.injEq] at h; subst h
    exact ⟨rfl, [], rfl, rfl, fun i hi => by simp at hi⟩
  | e :: es, l, h => by
    simp only [rowStr?, Option.bind_eq_some_iff, Option.some.injEq] at h
    obtain ⟨n, h1, r, h2, rfl⟩ := h
    obtain ⟨k1, ns, k2, k3, k4⟩ := rowStr_some es r h2
    have hc : e.getD 0 .nilp = .int .u8 n := by
      cases h5 : e.getD 0 .nilp <;> rw [h5] at h1 <;> simp only [D.int?] at h1 <;> try cases h1
      split at h1
      · rename_i hk; cases h1; rw [hk]
      · cases h1
    refine ⟨by simp [k1], n :: ns, by simp [k2], by simp [k3], fun i hi => ?_⟩
    cases i with
    | zero => simpa [cellD] using hc
    | succ i =>
      have := k4 i (by simpa using hi)
      simpa [cellD] using this

theorem push_fold : ∀ (ns : List Int) (b : ByteArray), (ns.foldl (fun r n => r.push (UInt8.ofNat n.toNat)) b).data = b.data ++ (ns.map fun n => UInt8.ofNat n.toNat).toArray
  | [], b => by simp
  | n :: ns, b => by
    rw [List.foldl_cons, push_fold ns]
    simp [ByteArray.push]

theorem push_modify {α : Type} (a : Array α) (x : α) (f : α → α) : (a.push x).modify a.size f = a.push (f x) := by
  apply Array.ext
  · simp
  · intro i h1 h2
    simp only [Array.getElem_modify, Array.getElem_push]
    by_cases h : i = a.size
    · subst h; simp
    · have hlt : i < a.size := by simp at h2; omega
      simp [hlt, Ne.symm h]

/-- A new row, part of what lies behind it frozen. -/
theorem newRowF_ok (hH : HRel w base L H) (hs : s < H.length) (hm : 0 < m) (hL : L s = none) (hb : base ≤ w.heap.size) {w' : World} {arr : Array Value} {T : TypeId} {f : Nat × Nat} (hf : arr.size ≤ f.1) (hw : w'.heap = w.heap.push (.cells arr T f)) (hbel : Below base w w')
    (ar : Bool) {sz cap : Nat} {es : List (List D)} (hsz : 0 < sz) (hc : arr.size = cap * sz) (hn : es.length ≤ cap)
    (hcs : ∀ i j, i < es.length → j < sz → ∃ v, arr[i * sz + j]? = some v ∧ CRel w (okS (okW w L H) base true) (cellD es i j) v) :
    HRel w' base (upd L s ⟨some w.heap.size, sz, cap, es.length⟩) (H.set s (.row ar sz es)) ∧ Ext base s m w L H w' (upd L s ⟨some w.heap.size, sz, cap, es.length⟩) (H.set s (.row ar sz es)) := by
  have hl := newLift hH hL hw (.row ar sz es) (lk := ⟨some w.heap.size, sz, cap, es.length⟩) rfl
  have hg : w'.heap[w.heap.size]? = some (.cells arr T f) := by rw [hw]; simp
  refine HRel.new hH hs hm hL hb hw hbel rfl rfl ⟨rfl, rfl, hsz, arr, T, f, hg, (by rw [hc]; exact Nat.le_refl _), hn, fun o ho => ?_, fun i j hi hj => ?_⟩
  · simp only [World.frozen?, hg]
    simp; omega
  · obtain ⟨v, e1, e2⟩ := hcs i j hi hj
    exact ⟨v, e1, e2.lift (okS_lift hl.1 base true)⟩

theorem conv_ok (hH : HRel w base L H) (hC : CfgOk P C) (hs : s < H.length) (hm : 0 < m) (hL : L s = none) (hb : base ≤ w.heap.size) (S T : TypeId) {x : V} {vx : Value} (hx : VRel w (okW w L H) base L x vx) :
    OpOk P base s m w L H (convHM C S T x s) (convert S T vx) := by
  unfold convHM
  split
  · exact .fail
  rename_i hS0
  have hkS := known_of_pos hC hS0
  obtain ⟨dS, hS, hS1, hS2⟩ := ((hC S).1 hkS).some hkS
  split
  · rename_i k hk
    have hu := ((hC T).1 (by rw [hk]; trivial)).k
    rw [hk] at hu
    split
    · rw [hx.int_inv]
      refine .ret hH ?_ (vint_rel _ _)
      simp only [convert, Sem.run_bind, run_underlying hS w, run_underlying hu w, Result.andThen_ok]
      rfl
    · exact .fail
  · rename_i hk
    have hu := ((hC T).1 (by rw [hk]; trivial)).k
    rw [hk] at hu
    split
    · rw [hx.str_inv]
      refine .ret hH ?_ (vstr_rel _)
      simp only [convert, Sem.run_bind, run_underlying hS w, run_underlying hu w, Result.andThen_ok]
      rfl
    · split
      · rename_i e hkS'
        have hdS := hS1 e hkS'
        subst hdS
        split
        · rename_i hke
          have hue := ((hC e).1 (by rw [hke]; trivial)).k
          rw [hke] at hue
          refine rows_ok hH hx fun fr sz es a c hvx hrel => ?_
          subst hvx
          have hconv := run_convert_bytes_string (P := P) w S T e a es.length c hS hue hu
          split
          · rename_i hsz
            subst hsz
            refine .str fun str hstr => ?_
            obtain ⟨l, h1, rfl⟩ := Option.map_eq_some_iff.1 hstr
            obtain ⟨k1, ns, k2, k3, k4⟩ := rowStr_some es l h1
            refine .ret hH ?_ (vstr_rel _)
            rw [hconv]
            by_cases hne : es = []
            · subst hne
              have hn0 : ns = [] := List.length_eq_zero_iff.1 k2
              subst hn0
              subst k3
              cases a with
              | none => rfl
              | some a =>
                have := run_bytesToString (P := P) w a 0 c [] (by simpa using run_loadCells_list (P := P) w a [] (by simp))
                exact this
            · obtain ⟨b, off, cv, rfl, g1, g2⟩ := hrel hne
              have hload : (loadCells ⟨b, off, none⟩ es.length).run P w = .ok (ns.map (Value.int .u8)).toArray w := by
                rw [run_loadCells w _ es.length (fun i => .int .u8 (ns.getD i 0)) (fun i hi => by
                  rw [add_plain]
                  have h5 := g1 i 0 hi (by omega)
                  have h6 := g2 i 0 hi (by omega)
                  rw [k4 i hi] at h6
                  cases h7 : cv i 0 with
                  | int q z =>
                    rw [h7] at h6 h5
                    cases h6
                    simpa using h5
                  | _ => rw [h7] at h6; cases h6)]
                congr 2
                apply List.ext_getElem
                · simp [k2]
                · intro i h1 h2
                  simp at h1
                  simp [k2, h1]
              have := run_bytesToString (P := P) w ⟨b, off, none⟩ es.length c ns hload
              rw [this]
              congr 2
              apply ByteArray.ext
              rw [push_fold, k3]
              simp
          · split
            · refine .ret hH ?_ (vstr_rel _)
              rw [hconv]
              cases a with
              | none => rfl
              | some a => exact run_bytesToString (P := P) w a 0 c [] (by simpa using run_loadCells_list (P := P) w a [] (by simp))
            · exact .fail
        · exact .fail
      · exact .fail
  · rename_i e hk
    have hu := ((hC T).1 (by rw [hk]; trivial)).k
    rw [hk] at hu
    split
    · rename_i hkS'
      have hdS := hS2 hkS'
      subst hdS
      split
      · rename_i fr str
        split
        · rename_i hke
          have hue := ((hC e).1 (by rw [hke]; trivial)).k
          rw [hke] at hue
          rw [hx.str_inv]
          refine .gd fun hle => ?_
          have hle : str.size ≤ LIM := of_decide_eq_true hle
          let cap := grownCap w str.size 0 e
          have hcap : str.size ≤ cap := le_grownCap w hle e
          let arr : Array Value := (str.data.map fun b => Value.int .u8 b.toNat) ++ Array.replicate (cap - str.size) (.int .u8 0)
          have hasz : arr.size = cap := by simp [arr]; show str.data.size + (cap - str.size) = cap; have : str.data.size = str.size := rfl; omega
          have hA : (w.drew.alloc (.cells arr e (0, 0))).heap = w.heap.push (.cells arr e (0, 0)) := rfl
          have hrun : (convert S T (.string str)).run P w = .ok (.slice (some ⟨w.heap.size, 0, none⟩) str.size cap) ((w.drew.alloc (.cells arr e (0, 0))).freeze ⟨w.heap.size, arr.size, none⟩ 1) := by
            have hsh : (w.drew.alloc (.cells arr e (0, 0))).shape? w.heap.size = some (e, arr.size) := by simp [World.shape?, hA]
            have h1 : (convert S T (.string str)).run P w = (Conv.stringToBytes e str).run P w := by simp [convert, run_underlying hS w, run_underlying hu w, run_underlying hue w]
            rw [h1]
            unfold Conv.stringToBytes
            rw [Sem.run_bind, run_choose_drew]
            simp only [Question.forced, Bool.false_eq_true, if_false, Result.andThen_ok]
            show ((do let a ← newRow e arr; markStringish a; pure (.slice (some a) str.size cap)) : Sem Value).run P w.drew = _
            simp only [newRow, Sem.run_bind, run_newObj_alloc, Result.andThen_ok, Sem.run_pure, markStringish, run_shape]
            rw [show w.drew.heap.size = w.heap.size from rfl, hsh]
            rfl
          have hheap : ((w.drew.alloc (.cells arr e (0, 0))).freeze ⟨w.heap.size, arr.size, none⟩ 1).heap = w.heap.push (.cells arr e (arr.size, arr.size + 1)) := by
            simp only [World.freeze]
            rw [if_neg (by omega)]
            rw [hA, push_modify]
            simp
          have key := newRowF_ok (s := s) (m := m) hH hs hm hL hb (f := (arr.size, arr.size + 1)) (Nat.le_refl _) hheap (below_push hb rfl rfl rfl hheap) false (sz := 1) (cap := cap) (es := strRow str) (by omega) (by omega) (by simp [strRow]; exact hcap) (fun i j hi hj => by
            have hj0 : j = 0 := by omega
            subst hj0
            have hi' : i < str.data.toList.length := by simpa [strRow] using hi
            have e1 : cellD (strRow str) i 0 = .int .u8 (str.data.toList[i]).toNat := by
              unfold cellD
              rw [getD_of_lt hi]
              simp [strRow]
            rw [e1]
            refine ⟨.int .u8 (str.data.toList[i]).toNat, ?_, .int _ _⟩
            simp only [Nat.mul_one, Nat.add_zero, arr]
            rw [Array.getElem?_append_left (by simpa using hi')]
            have hi2 : i < str.data.size := by simpa using hi'
            simp [hi2]
            exact ⟨_, Array.getElem?_eq_getElem hi2, rfl⟩)
          exact .made hrun key.1 key.2 (.rw_of upd_s (by simp [strRow])) (fun _ _ => rfl)
        · exact .fail
      · exact .fail
    · exact .fail
  · exact .fail
end
end Go.Proofs.EV
set_option linter.unusedVariables false
set_option linter.unusedSimpArgs false
/-! Maps, and slices that are cleared. -/
set_option linter.unusedSectionVars false
namespace Go.Proofs.EV
open Go Go.RowKit
variable [Dr]

section
variable {P : Program} {base s m : Nat} {w : World} {L : Lks} {H : List Ob} {C : Cfg} {sm : Sem Value}

theorem keyEq_split : ∀ (n : Nat) (xs ys : List D) (b : Bool), keyEq xs ys = some b → ∃ b1 b2, keyEq (xs.take n) (ys.take n) = some b1 ∧ keyEq (xs.drop n) (ys.drop n) = some b2 ∧ b = (b1 && b2)
  | 0, xs, ys, b, h => ⟨true, b, by simp [keyEq], by simpa using h, by simp⟩
  | n + 1, [], [], b, h => ⟨true, true, by simp [keyEq], by simp [keyEq], by simp [keyEq] at h; simp [h]⟩
  | n + 1, [], y :: ys, b, h => by simp [keyEq] at h
  | n + 1, x :: xs, [], b, h => by simp [keyEq] at h
  | n + 1, x :: xs, y :: ys, b, h => by
    simp only [keyEq, Option.bind_eq_some_iff, Option.some.injEq] at h
    obtain ⟨b0, h1, c, h2, rfl⟩ := h
    obtain ⟨b1, b2, k1, k2, rfl⟩ := keyEq_split n xs ys c h2
    exact ⟨b0 && b1, b2, by simp [keyEq, h1, k1], by simpa using k2, by cases b0 <;> simp⟩

theorem keyEq_one {x y : D} {b : Bool} (h : keyEq [x] [y] = some b) : eqD x y = some b := by
  simp only [keyEq, Option.bind_eq_some_iff, Option.some.injEq] at h
  obtain ⟨b0, h1, c, h2, rfl⟩ := h
  cases h2
  simpa using h1

theorem eqD_rel {ok : Nat → Prop} {x y : D} {vx vy : Value} {b : Bool} (h : eqD x y = some b) (hx : CRel w ok x vx) (hy : CRel w ok y vy) :
    (∃ k a c, vx = .int k a ∧ vy = .int k c ∧ b = (a == c)) ∨ (∃ a c, vx = .bool a ∧ vy = .bool c ∧ b = (a == c)) ∨ (∃ a c, vx = .string a ∧ vy = .string c ∧ b = (a == c)) := by
  unfold eqD at h
  split at h
  · split at h
    · rename_i hk
      subst hk
      cases hx; cases hy; cases h
      exact .inl ⟨_, _, _, rfl, rfl, rfl⟩
    · cases h
  · cases hx; cases hy; cases h
    exact .inr (.inl ⟨_, _, rfl, rfl, rfl⟩)
  · cases hx; cases hy
    simp only [Option.some.injEq] at h
    refine .inr (.inr ⟨_, _, rfl, rfl, ?_⟩)
    rw [← h, beq_toListBytes]; rfl
  · cases h

/-- Cells as deep values. -/
def DsRel (w : World) (ok : Nat → Prop) (ds : List D) (arr : Array Value) : Prop := arr.size = ds.length ∧ ∀ i, i < ds.length → CRel w ok (ds.getD i .nilp) (arr.getD i undef)

theorem DsRel.sub {ok : Nat → Prop} {ds : List D} {arr : Array Value} (h : DsRel w ok ds arr) {o n : Nat} (hn : o + n ≤ ds.length) : DsRel w ok ((ds.drop o).take n) (arr.extract o (o + n)) := by
  have h1 := h.1
  refine ⟨by simp; omega, fun i hi => ?_⟩
  have hi' : i < n := by simp at hi; omega
  have := h.2 (o + i) (by omega)
  rw [getD_of_lt (by omega), agetD_of_lt (by omega)] at this
  rw [getD_of_lt hi, agetD_of_lt (by simp; omega)]
  simpa using this

theorem valOf_leaf {t : TI} (h : isAgg t.k = false) (arr : Array Value) : valOf t arr = arr.getD 0 undef := by simp [valOf, h]
theorem valOf_agg {t : TI} (h : isAgg t.k = true) (arr : Array Value) : valOf t arr = .agg arr := by simp [valOf, h]
theorem valOf_part {T : TypeId} {t : TI} (hT : TyOk P T t) {arr : Array Value} {o : Nat} (ho : o + t.size ≤ arr.size) : valOf t (arr.extract o (o + t.size)) = if isAgg t.k then .agg (arr.extract o (o + t.size)) else arr.getD o undef := by
  unfold valOf
  cases e : isAgg t.k with
  | true => rfl
  | false =>
    have h1 := hT.one e
    have h2 : 0 < (arr.extract o (o + t.size)).size := by simp; omega
    have h3 : o < arr.size := by omega
    simp only [Bool.false_eq_true, if_false]
    rw [agetD_of_lt h2, agetD_of_lt h3]
    simp

theorem keyTy_known {d : Nat} {T : TypeId} (h : keyTy C d T = true) : (match (C.ty T).k with | .other => False | _ => True) := by
  cases d with
  | zero => simp [keyTy] at h
  | succ d => unfold keyTy at h; cases e : (C.ty T).k <;> simp_all

theorem eqFields_keys {D0 : Nat} {xa ya : Array Value} {ok : Nat → Prop} {xs ys : List D} (hC : CfgOk P C) {d : Nat}
    (ih : ∀ (T : TypeId) (xs ys : List D) (xa ya : Array Value) (b : Bool), keyTy C d T = true → kfit C d T xs = true → xs.length = (C.ty T).size → ys.length = (C.ty T).size → DsRel w ok xs xa → DsRel w ok ys ya → keyEq xs ys = some b → (Op.equalIn D0 T (valOf (C.ty T) xa) (valOf (C.ty T) ya)).run P w = .ok b w)
    (hx : DsRel w ok xs xa) (hy : DsRel w ok ys ya) (hxy : xs.length = ys.length) :
    ∀ (fs : List Field) (o : Nat) (b : Bool), (∀ f ∈ fs, f.name ≠ "_") → contig C o (fs.map fun f => (f.offset, f.type)) xs.length = true → (∀ f ∈ fs, keyTy C d f.type = true ∧ kfit C d f.type ((xs.drop f.offset).take (C.ty f.type).size) = true) → keyEq (xs.drop o) (ys.drop o) = some b → o ≤ xs.length → (Op.eqFields D0 xa ya fs).run P w = .ok b w
  | [], o, b, _, hc, _, h, _ => by
    simp only [List.map_nil, contig, decide_eq_true_eq] at hc
    subst hc
    have e2 : ys.drop xs.length = [] := by rw [hxy]; simp
    rw [e2] at h
    simp [keyEq] at h
    subst h
    rfl
  | f :: fs, o, b, hn, hc, hk, h, ho => by
    simp only [List.map_cons, contig, Bool.and_eq_true, decide_eq_true_eq] at hc
    obtain ⟨e1, hc⟩ := hc
    obtain ⟨hkt, hkf⟩ := hk f (by simp)
    have hkn := keyTy_known hkt
    have hT := (hC f.type).1 hkn
    have hle : o + (C.ty f.type).size ≤ xs.length := by
      have : ∀ (l : List (Nat × TypeId)) (o : Nat), contig C o l xs.length = true → o ≤ xs.length := by
        intro l
        induction l with
        | nil => intro o h; simp [contig] at h; omega
        | cons g l ih2 =>
          intro o h
          simp only [contig, Bool.and_eq_true] at h
          have := ih2 _ h.2
          omega
      exact this _ _ hc
    obtain ⟨b1, b2, k1, k2, rfl⟩ := keyEq_split (C.ty f.type).size _ _ _ h
    rw [List.drop_drop, List.drop_drop] at k2
    rw [e1] at hkf
    have r1 := ih f.type _ _ _ _ b1 hkt hkf (by simp; omega) (by simp; omega) (hx.sub hle) (hy.sub (by omega)) k1
    rw [valOf_part hT (by rw [hx.1]; exact hle), valOf_part hT (by rw [hy.1]; omega)] at r1
    have r2 := eqFields_keys hC ih hx hy hxy fs (o + (C.ty f.type).size) b2 (fun g hg => hn g (by simp [hg])) hc (fun g hg => hk g (by simp [hg])) k2 hle
    have p1 := part_ok (P := P) (w := w) hT hkn (arr := xa) (o := f.offset) (by rw [hx.1, e1]; exact hle)
    have p2 := part_ok (P := P) (w := w) hT hkn (arr := ya) (o := f.offset) (by rw [hy.1, e1]; omega)
    rw [e1] at p1 p2
    rw [Op.eqFields]
    simp only [if_pos (hn f (by simp)), Sem.run_bind, e1, p1, p2, r1, Result.andThen_ok]
    cases b1
    · simp
    · simpa using r2

theorem eqItems_keys {D0 : Nat} {xa ya : Array Value} {ok : Nat → Prop} {xs ys : List D} (hC : CfgOk P C) {d : Nat} {e : TypeId}
    (ih : ∀ (T : TypeId) (xs ys : List D) (xa ya : Array Value) (b : Bool), keyTy C d T = true → kfit C d T xs = true → xs.length = (C.ty T).size → ys.length = (C.ty T).size → DsRel w ok xs xa → DsRel w ok ys ya → keyEq xs ys = some b → (Op.equalIn D0 T (valOf (C.ty T) xa) (valOf (C.ty T) ya)).run P w = .ok b w)
    (hx : DsRel w ok xs xa) (hy : DsRel w ok ys ya) (hxy : xs.length = ys.length) (hkt : keyTy C d e = true) :
    ∀ (n o : Nat) (b : Bool), xs.length = (o + n) * (C.ty e).size → (∀ i, i < o + n → kfit C d e ((xs.drop (i * (C.ty e).size)).take (C.ty e).size) = true) → keyEq (xs.drop (o * (C.ty e).size)) (ys.drop (o * (C.ty e).size)) = some b →
      (Op.eqItems D0 e (C.ty e).size xa ya (List.range' o n)).run P w = .ok b w
  | 0, o, b, hl, _, h => by
    rw [Nat.add_zero] at hl
    rw [← hl] at h
    have e2 : ys.drop xs.length = [] := by rw [hxy]; simp
    rw [e2] at h
    simp [keyEq] at h
    subst h
    rfl
  | n + 1, o, b, hl, hf, h => by
    have hkn := keyTy_known hkt
    have hT := (hC e).1 hkn
    have hsum : (o + (n + 1)) * (C.ty e).size = o * (C.ty e).size + (C.ty e).size + n * (C.ty e).size := by
      rw [Nat.add_mul, Nat.add_mul]; omega
    have hle : o * (C.ty e).size + (C.ty e).size ≤ xs.length := by omega
    obtain ⟨b1, b2, k1, k2, rfl⟩ := keyEq_split (C.ty e).size _ _ _ h
    rw [List.drop_drop, List.drop_drop] at k2
    have r1 := ih e _ _ _ _ b1 hkt (hf o (by omega)) (by simp; omega) (by simp; omega) (hx.sub hle) (hy.sub (by omega)) k1
    rw [valOf_part hT (by rw [hx.1]; exact hle), valOf_part hT (by rw [hy.1]; omega)] at r1
    have e3 : o * (C.ty e).size + (C.ty e).size = (o + 1) * (C.ty e).size := by rw [Nat.add_mul]; omega
    have r2 := eqItems_keys hC ih hx hy hxy hkt n (o + 1) b2 (by rw [hl]; congr 1; omega) (fun i hi => hf i (by omega)) (by rw [← e3]; exact k2)
    have p1 := part_ok (P := P) (w := w) hT hkn (arr := xa) (o := o * (C.ty e).size) (by rw [hx.1]; exact hle)
    have p2 := part_ok (P := P) (w := w) hT hkn (arr := ya) (o := o * (C.ty e).size) (by rw [hy.1]; omega)
    rw [List.range'_succ, Op.eqItems]
    simp only [Sem.run_bind, p1, p2, r1, Result.andThen_ok]
    cases b1
    · simp
    · simpa using r2

theorem keyEq_sound (hC : CfgOk P C) {ok : Nat → Prop} : ∀ (d : Nat) (T : TypeId) (xs ys : List D) (xa ya : Array Value) (b : Bool) (D : Nat), d ≤ D → keyTy C d T = true → kfit C d T xs = true → xs.length = (C.ty T).size → ys.length = (C.ty T).size →
    DsRel w ok xs xa → DsRel w ok ys ya → keyEq xs ys = some b → (Op.equalIn D T (valOf (C.ty T) xa) (valOf (C.ty T) ya)).run P w = .ok b w
  | 0, T, xs, ys, xa, ya, b, D, _, h, _, _, _, _, _, _ => by simp [keyTy] at h
  | d + 1, T, xs, ys, xa, ya, b, D, hD, h, hf, hxl, hyl, hx, hy, hb => by
    obtain ⟨D, rfl⟩ : ∃ D', D = D' + 1 := ⟨D - 1, by omega⟩
    have hkn := keyTy_known h
    have hT := (hC T).1 hkn
    have one : ∀ x, xs = [x] → ∃ y, ys = [y] ∧ CRel w ok x (xa.getD 0 undef) ∧ CRel w ok y (ya.getD 0 undef) := by
      intro x e
      subst e
      match ys with
      | [y] => exact ⟨y, rfl, by simpa using hx.2 0 (by simp), by simpa using hy.2 0 (by simp)⟩
      | [] => simp at hxl hyl; omega
      | y :: y' :: ys => simp at hxl hyl; omega
    have hu := hT.k
    have ih := fun T xs ys xa ya b h1 h2 h3 h4 h5 h6 h7 => keyEq_sound hC (ok := ok) d T xs ys xa ya b D (by omega) h1 h2 h3 h4 h5 h6 h7
    unfold keyTy at h
    unfold kfit at hf
    split at h
    · rename_i k hk
      rw [hk] at hu hf
      have e : isAgg (C.ty T).k = false := by rw [hk]; rfl
      dsimp only at hf
      split at hf
      · rename_i k' n
        obtain ⟨y, rfl, r1, r2⟩ := one _ rfl
        rw [valOf_leaf e, valOf_leaf e]
        rcases eqD_rel (keyEq_one hb) r1 r2 with ⟨k', a, c, e1, e2, rfl⟩ | ⟨a, c, e1, e2, rfl⟩ | ⟨a, c, e1, e2, rfl⟩
        · rw [e1, e2, run_equalIn_int w D T k' k a c hu]
        · rw [e1] at r1; cases r1
        · rw [e1] at r1; cases r1
      · cases hf
    · rename_i hk
      rw [hk] at hu hf
      have e : isAgg (C.ty T).k = false := by rw [hk]; rfl
      dsimp only at hf
      split at hf
      · obtain ⟨y, rfl, r1, r2⟩ := one _ rfl
        rw [valOf_leaf e, valOf_leaf e]
        rcases eqD_rel (keyEq_one hb) r1 r2 with ⟨k', a, c, e1, e2, rfl⟩ | ⟨a, c, e1, e2, rfl⟩ | ⟨a, c, e1, e2, rfl⟩
        · rw [e1] at r1; cases r1
        · rw [e1, e2, run_equalIn_bool' w D T a c hu]
        · rw [e1] at r1; cases r1
      · cases hf
    · rename_i hk
      rw [hk] at hu hf
      have e : isAgg (C.ty T).k = false := by rw [hk]; rfl
      dsimp only at hf
      split at hf
      · obtain ⟨y, rfl, r1, r2⟩ := one _ rfl
        rw [valOf_leaf e, valOf_leaf e]
        rcases eqD_rel (keyEq_one hb) r1 r2 with ⟨k', a, c, e1, e2, rfl⟩ | ⟨a, c, e1, e2, rfl⟩ | ⟨a, c, e1, e2, rfl⟩
        · rw [e1] at r1; cases r1
        · rw [e1] at r1; cases r1
        · rw [e1, e2, run_equalIn_string w D T a c hu, beq_toListBytes]
      · cases hf
    · rename_i fs hk
      rw [hk] at hu hf
      simp only [Bool.and_eq_true, decide_eq_true_eq] at h
      obtain ⟨⟨⟨h1, h2⟩, h3⟩, h4⟩ := h
      have e : isAgg (C.ty T).k = true := by rw [hk]; rfl
      obtain ⟨fields, u1, u2, u3⟩ := hu
      have hf' : P.fieldsOf T = fields := by simp [Program.fieldsOf, u1]
      rw [valOf_agg e, valOf_agg e, run_equalIn_struct w D T xa ya (by rw [hf']; exact u1) (hT.e h1).1, hf']
      refine eqFields_keys hC ih hx hy (by omega) fields.toList 0 b (fun f hfm => by obtain ⟨_, _, _, hn⟩ := u3 f hfm; exact hn) (by rw [u2, hxl]; exact h3) (fun f hfm => ?_) (by simpa using hb) (Nat.zero_le _)
      have hm : (f.offset, f.type) ∈ fs := by rw [← u2]; exact List.mem_map_of_mem hfm
      exact ⟨by simpa using List.all_eq_true.1 h4 _ hm, by simpa using List.all_eq_true.1 hf _ hm⟩
    · rename_i n e0 hk
      rw [hk] at hu hf
      simp only [Bool.and_eq_true, decide_eq_true_eq] at h
      obtain ⟨⟨h1, h2⟩, h3⟩ := h
      have e : isAgg (C.ty T).k = true := by rw [hk]; rfl
      have hTe := (hC e0).1 (keyTy_known h3)
      obtain ⟨i, z, i1, i2, _⟩ := hTe.i
      have hco : P.cellsOf e0 = (C.ty e0).size := by simp [Program.cellsOf, i1, i2]
      rw [valOf_agg e, valOf_agg e, run_equalIn_array w D xa ya hu i1, hco, List.range_eq_range']
      refine eqItems_keys hC ih hx hy (by omega) h3 n 0 b (by rw [hxl, h2, Nat.zero_add]) (fun i hi => ?_) (by simpa using hb)
      have := List.all_eq_true.1 hf i (by simp; omega)
      simpa using this
    · cases h
end
end Go.Proofs.EV
set_option linter.unusedVariables false
set_option linter.unusedSimpArgs false
set_option linter.unusedSectionVars false
namespace Go.Proofs.EV
open Go Go.RowKit
variable [Dr]

section
variable {P : Program} {base s m : Nat} {w : World} {L : Lks} {H : List Ob} {C : Cfg} {sm : Sem Value}

/-! ### Keys are of types that can be compared -/
theorem check_run (hC : CfgOk P C) (em : Bool) : ∀ (d : Nat) (T : TypeId) (xa : Array Value) (D : Nat), d ≤ D → keyTy C d T = true → xa.size = (C.ty T).size → (Instr.checkKey em D T (valOf (C.ty T) xa)).run P w = .ok () w
  | 0, T, xa, D, _, h, _ => by simp [keyTy] at h
  | d + 1, T, xa, D, hD, h, hx => by
    obtain ⟨D, rfl⟩ : ∃ D', D = D' + 1 := ⟨D - 1, by omega⟩
    have hkn := keyTy_known h
    have hT := (hC T).1 hkn
    have hu := hT.k
    unfold keyTy at h
    split at h
    · rename_i k hk
      rw [hk] at hu
      rw [Instr.checkKey, Sem.run_bind, run_underlying hu]
      rfl
    · rename_i hk
      rw [hk] at hu
      rw [Instr.checkKey, Sem.run_bind, run_underlying hu]
      rfl
    · rename_i hk
      rw [hk] at hu
      rw [Instr.checkKey, Sem.run_bind, run_underlying hu]
      rfl
    · rename_i fs hk
      rw [hk] at hu
      simp only [Bool.and_eq_true, decide_eq_true_eq] at h
      obtain ⟨⟨⟨h1, h2⟩, h3⟩, h4⟩ := h
      have e : isAgg (C.ty T).k = true := by rw [hk]; rfl
      obtain ⟨fields, u1, u2, u3⟩ := hu
      rw [valOf_agg e, Instr.checkKey]
      simp only [Sem.run_bind, run_underlying u1, Result.andThen_ok]
      rw [← Array.forIn_toList]
      have key : ∀ (l : List Field) (o : Nat), (∀ f ∈ l, f.name ≠ "_") → contig C o (l.map fun f => (f.offset, f.type)) xa.size = true → (∀ f ∈ l, keyTy C d f.type = true) →
          Sem.run P (forIn l PUnit.unit fun f _ =>
            if f.name ≠ "_" then (do
              let x ← part f.type xa f.offset
              Instr.checkKey em D f.type x
              pure (ForInStep.yield PUnit.unit))
            else pure (ForInStep.yield PUnit.unit)) w = .ok PUnit.unit w := by
        intro l
        induction l with
        | nil => intros; rfl
        | cons f l ih =>
          intro o hn hc hk'
          simp only [List.map_cons, contig, Bool.and_eq_true, decide_eq_true_eq] at hc
          obtain ⟨e1, hc⟩ := hc
          have hkt := hk' f (by simp)
          have hkn' := keyTy_known hkt
          have hT' := (hC f.type).1 hkn'
          have hle : o + (C.ty f.type).size ≤ xa.size := by
            have : ∀ (l : List (Nat × TypeId)) (o : Nat), contig C o l xa.size = true → o ≤ xa.size := by
              intro l
              induction l with
              | nil => intro o h; simp [contig] at h; omega
              | cons g l ih2 =>
                intro o h
                simp only [contig, Bool.and_eq_true] at h
                have := ih2 _ h.2
                omega
            exact this _ _ hc
          have p1 := part_ok (P := P) (w := w) hT' hkn' (arr := xa) (o := f.offset) (by rw [e1]; exact hle)
          rw [e1] at p1
          have p2 := check_run hC em d f.type (xa.extract o (o + (C.ty f.type).size)) D (by omega) hkt (by simp; omega)
          rw [valOf_part hT' hle] at p2
          have hn0 := hn f (by simp)
          rw [List.forIn_cons]
          simp only [if_pos hn0, Sem.run_bind, e1, p1, p2, Result.andThen_ok, Sem.run_pure]
          exact ih _ (fun g hg => hn g (by simp [hg])) hc (fun g hg => hk' g (by simp [hg]))
      have := key _ 0 (fun f hfm => by obtain ⟨_, _, _, hn⟩ := u3 f hfm; exact hn) (by rw [u2, hx]; exact h3) (fun f hfm => by
        have hm : (f.offset, f.type) ∈ fs := by rw [← u2]; exact List.mem_map_of_mem hfm
        simpa using List.all_eq_true.1 h4 _ hm)
      rw [this]; rfl
    · rename_i n e0 hk
      rw [hk] at hu
      simp only [Bool.and_eq_true, decide_eq_true_eq] at h
      obtain ⟨⟨h1, h2⟩, h3⟩ := h
      have e : isAgg (C.ty T).k = true := by rw [hk]; rfl
      have hkn' := keyTy_known h3
      have hTe := (hC e0).1 hkn'
      rw [valOf_agg e, Instr.checkKey]
      simp only [Sem.run_bind, run_underlying hu, Result.andThen_ok]
      simp only [Std.Legacy.Range.forIn_eq_forIn_range', Std.Legacy.Range.size, Nat.sub_zero, Nat.add_one_sub_one, Nat.div_one]
      have hlt : ∀ i ∈ List.range' 0 n, i < n := fun i hi => by simp at hi; exact hi
      generalize List.range' 0 n = is at hlt
      induction is with
      | nil => rfl
      | cons j is ih =>
        have hj := hlt j (by simp)
        have hle : j * (C.ty e0).size + (C.ty e0).size ≤ xa.size := by
          have : (j + 1) * (C.ty e0).size ≤ n * (C.ty e0).size := Nat.mul_le_mul_right _ hj
          rw [Nat.add_mul] at this
          rw [hx, h2]; omega
        have p1 := part_ok (P := P) (w := w) hTe hkn' (arr := xa) (o := j * (C.ty e0).size) hle
        have p2 := check_run hC em d e0 (xa.extract (j * (C.ty e0).size) (j * (C.ty e0).size + (C.ty e0).size)) D (by omega) h3 (by simp; omega)
        rw [valOf_part hTe hle] at p2
        rw [List.forIn_cons]
        simp only [Sem.run_bind, hTe.size, p1, p2, Result.andThen_ok, Sem.run_pure]
        exact ih (fun y hy => hlt y (by simp [hy]))
    · cases h

/-! ### Where a key stands -/
def mpFind (k : List D) : List (List D × List D) → Option (Option Nat)
  | [] => some none
  | e :: es => (keyEq k e.1).bind fun b => cond b (some (some 0)) ((mpFind k es).map (·.map (· + 1)))
theorem mpFind_lt {k : List D} : ∀ {es : List (List D × List D)} {i : Nat}, mpFind k es = some (some i) → i < es.length ∧ keyEq k (es.getD i ([], [])).1 = some true
  | [], i, h => by simp [mpFind] at h
  | e :: es, i, h => by
    simp only [mpFind, Option.bind_eq_some_iff] at h
    obtain ⟨b, h1, h2⟩ := h
    cases b with
    | true =>
      simp only [cond_true, Option.some.injEq] at h2
      subst h2
      exact ⟨by simp, by simpa using h1⟩
    | false =>
      simp only [cond_false] at h2
      obtain ⟨o, h3, h4⟩ := Option.map_eq_some_iff.1 h2
      cases o with
      | none => simp at h4
      | some j =>
        simp only [Option.map_some, Option.some.injEq] at h4
        subst h4
        obtain ⟨q1, q2⟩ := mpFind_lt h3
        exact ⟨by simp; omega, by simpa using q2⟩
theorem mpGet_find {k : List D} : ∀ {es : List (List D × List D)}, mpGet k es = (mpFind k es).map fun o => o.map fun i => (es.getD i ([], [])).2
  | [] => rfl
  | e :: es => by
    simp only [mpGet, mpFind, mpGet_find]
    cases keyEq k e.1 with
    | none => rfl
    | some b =>
      cases b with
      | true => simp
      | false =>
        simp only [Option.bind_some, cond_false, Option.map_map]
        congr 1
        funext o
        cases o <;> simp
theorem mpSet_find {k v : List D} : ∀ {es : List (List D × List D)}, mpSet k v es = (mpFind k es).map fun o => match o with | none => es ++ [(k, v)] | some i => es.set i (k, v)
  | [] => rfl
  | e :: es => by
    simp only [mpSet, mpFind, mpSet_find]
    cases keyEq k e.1 with
    | none => rfl
    | some b =>
      cases b with
      | true => simp
      | false =>
        simp only [Option.bind_some, cond_false, Option.map_map]
        congr 1
        funext o
        cases o <;> simp

/-- A map's entries. -/
structure EnRel (w : World) (ok : Nat → Prop) (ds : List (List D × List D)) (es : List MapEntry) : Prop where
  len : es.length = ds.length
  k : ∀ i, i < ds.length → aggB (es.getD i default).key = decide ((ds.getD i ([], [])).1.length ≠ 1) ∧ DsRel w ok (ds.getD i ([], [])).1 (es.getD i default).key.cells
  v : ∀ i, i < ds.length → aggB (es.getD i default).val = decide ((ds.getD i ([], [])).2.length ≠ 1) ∧ DsRel w ok (ds.getD i ([], [])).2 (es.getD i default).val.cells

theorem EnRel.tail {ok : Nat → Prop} {d : List D × List D} {ds : List (List D × List D)} {e : MapEntry} {es : List MapEntry} (h : EnRel w ok (d :: ds) (e :: es)) : EnRel w ok ds es :=
  ⟨by simpa using h.len, fun i hi => by simpa using h.k (i + 1) (by simpa using hi), fun i hi => by simpa using h.v (i + 1) (by simpa using hi)⟩

theorem cells_valOf {t : TI} {v : Value} (h : aggB v = isAgg t.k) : valOf t v.cells = v := by
  cases e : isAgg t.k with
  | true =>
    rw [e] at h
    rw [valOf_agg e]
    cases v <;> first | rfl | cases h
  | false =>
    rw [e] at h
    rw [valOf_leaf e]
    cases v <;> first | rfl | cases h

theorem keyEq_len : ∀ {xs ys : List D} {b : Bool}, keyEq xs ys = some b → xs.length = ys.length
  | [], [], _, _ => rfl
  | [], _ :: _, _, h => by simp [keyEq] at h
  | _ :: _, [], _, h => by simp [keyEq] at h
  | x :: xs, y :: ys, b, h => by
    simp only [keyEq, Option.bind_eq_some_iff] at h
    obtain ⟨_, _, c, h2, _⟩ := h
    simp [keyEq_len h2]

theorem keyTy_one (hC : CfgOk P C) {d : Nat} {T : TypeId} (h : keyTy C d T = true) : decide ((C.ty T).size ≠ 1) = isAgg (C.ty T).k := by
  have hT := (hC T).1 (keyTy_known h)
  cases d with
  | zero => simp [keyTy] at h
  | succ d =>
    unfold keyTy at h
    split at h
    · rename_i hk; have := hT.one (by rw [hk]; rfl); rw [hk]; simp [this, isAgg]
    · rename_i hk; have := hT.one (by rw [hk]; rfl); rw [hk]; simp [this, isAgg]
    · rename_i hk; have := hT.one (by rw [hk]; rfl); rw [hk]; simp [this, isAgg]
    · rename_i hk; simp only [Bool.and_eq_true, decide_eq_true_eq] at h; rw [hk]; simp [isAgg, h.1.1.2]
    · rename_i hk; simp only [Bool.and_eq_true, decide_eq_true_eq] at h; rw [hk]; simp [isAgg, h.1.1]
    · cases h

theorem asking_run (hC : CfgOk P C) {ok : Nat → Prop} {kt : TypeId} (hk : keyTy C 20 kt = true) {kd : List D} (hf : kfit C 20 kt kd = true) (hl : kd.length = (C.ty kt).size) {kc : Value} (hkc : aggB kc = isAgg (C.ty kt).k) (hkr : DsRel w ok kd kc.cells) :
    ∀ (ds : List (List D × List D)) (es : List MapEntry) (i : Nat) (r : Option Nat), EnRel w ok ds es → mpFind kd ds = some r →
      (Instr.findAsking kt kc es i).run P w = .ok (r.map fun j => (i + j, (es.getD j default).val)) w
  | [], es, i, r, hr, h => by
    have : es = [] := List.length_eq_zero_iff.1 (by simpa using hr.len)
    subst this
    simp only [mpFind, Option.some.injEq] at h
    subst h
    rfl
  | d :: ds, [], i, r, hr, h => by have := hr.len; simp at this
  | d :: ds, e :: es, i, r, hr, h => by
    simp only [mpFind, Option.bind_eq_some_iff] at h
    obtain ⟨b, h1, h2⟩ := h
    obtain ⟨g1, g2⟩ := hr.k 0 (by simp)
    simp only [List.getD_cons_zero] at g1 g2
    have hle := keyEq_len h1
    have hag : aggB e.key = isAgg (C.ty kt).k := by rw [g1, ← hle, hl]; exact keyTy_one hC hk
    have heq := keyEq_sound hC (ok := ok) 20 kt kd d.1 kc.cells e.key.cells b 10000 (by omega) hk hf hl (by omega) hkr g2 h1
    rw [cells_valOf hkc, cells_valOf hag] at heq
    rw [Instr.findAsking]
    simp only [Sem.run_bind, Op.equal, Op.maxDepth, heq, Result.andThen_ok]
    cases b with
    | true =>
      simp only [cond_true, Option.some.injEq] at h2
      subst h2
      simp
    | false =>
      simp only [cond_false, Option.map_eq_some_iff] at h2
      obtain ⟨o, h3, rfl⟩ := h2
      have := asking_run hC hk hf hl hkc hkr ds es (i + 1) o hr.tail h3
      simp only [Bool.false_eq_true, if_false, this]
      cases o with
      | none => rfl
      | some j => simp; omega

theorem now_spec {ok : Nat → Prop} {kd : List D} {kc : Value} (hkc : aggB kc = decide (kd.length ≠ 1)) (hkr : DsRel w ok kd kc.cells) (td : TypeDesc) :
    ∀ (ds : List (List D × List D)) (es : List MapEntry) (i : Nat) (r : Option Nat) (q : Option (Nat × Value)), EnRel w ok ds es → mpFind kd ds = some r → Instr.findNow td kc es i = some q → q = r.map fun j => (i + j, (es.getD j default).val)
  | [], es, i, r, q, hr, h, hq => by
    have : es = [] := List.length_eq_zero_iff.1 (by simpa using hr.len)
    subst this
    simp only [mpFind, Option.some.injEq] at h
    subst h
    simpa [Instr.findNow] using hq.symm
  | d :: ds, [], i, r, q, hr, h, hq => by have := hr.len; simp at this
  | d :: ds, e :: es, i, r, q, hr, h, hq => by
    simp only [mpFind, Option.bind_eq_some_iff] at h
    obtain ⟨b, h1, h2⟩ := h
    obtain ⟨g1, g2⟩ := hr.k 0 (by simp)
    simp only [List.getD_cons_zero] at g1 g2
    have hle := keyEq_len h1
    have hnow : Instr.sameNow td kc e.key = none ∨ Instr.sameNow td kc e.key = some b := by
      by_cases h1' : kd.length = 1
      · match kd, h1' with
        | [x], _ =>
        match hd : d.1, (by rw [← hle]; rfl : d.1.length = 1) with
        | [y], _ =>
        rw [hd] at h1 g1 g2
        have a1 : aggB kc = false := by rw [hkc]; simp
        have a2 : aggB e.key = false := by rw [g1]; simp
        have c1 : kc.cells.getD 0 undef = kc := by cases kc <;> first | rfl | cases a1
        have c2 : e.key.cells.getD 0 undef = e.key := by cases ek : e.key <;> first | rfl | (rw [ek] at a2; cases a2)
        have r1 := hkr.2 0 (by simp)
        have r2 := g2.2 0 (by simp)
        rw [c1] at r1
        rw [c2] at r2
        simp only [List.getD_cons_zero] at r1 r2
        rcases eqD_rel (keyEq_one h1) r1 r2 with ⟨k', a, c, e1, e2, rfl⟩ | ⟨a, c, e1, e2, rfl⟩ | ⟨a, c, e1, e2, rfl⟩
        · rw [e1, e2]; cases td <;> simp [Instr.sameNow]
        · rw [e1, e2]; cases td <;> simp [Instr.sameNow]
        · rw [e1, e2]; cases td <;> simp [Instr.sameNow]
      · left
        have a1 : aggB kc = true := by rw [hkc]; simpa using h1'
        cases kc <;> first | (simp [aggB] at a1; done) | (cases td <;> simp [Instr.sameNow])
    rw [Instr.findNow] at hq
    rcases hnow with hn | hn
    · rw [hn] at hq; cases hq
    · rw [hn] at hq
      cases b with
      | true =>
        simp only [Option.some.injEq] at hq
        simp only [cond_true, Option.some.injEq] at h2
        subst h2
        simp [← hq]
      | false =>
        simp only [cond_false, Option.map_eq_some_iff] at h2
        obtain ⟨o, h3, rfl⟩ := h2
        have := now_spec hkc hkr td ds es (i + 1) o q hr.tail h3 hq
        rw [this]
        cases o with
        | none => rfl
        | some j => simp; omega

theorem find_run (hC : CfgOk P C) {ok : Nat → Prop} {kt : TypeId} (hk : keyTy C 20 kt = true) {kd : List D} (hf : kfit C 20 kt kd = true) (hl : kd.length = (C.ty kt).size) {kc : Value} (hkc : aggB kc = isAgg (C.ty kt).k) (hkr : DsRel w ok kd kc.cells)
    {ds : List (List D × List D)} {es : List MapEntry} {r : Option Nat} (hr : EnRel w ok ds es) (h : mpFind kd ds = some r) :
    (Instr.findKey kt kc es).run P w = .ok (r.map fun j => (j, (es.getD j default).val)) w := by
  have hT := (hC kt).1 (keyTy_known hk)
  obtain ⟨i, z, i1, _⟩ := hT.i
  obtain ⟨td, htd⟩ : ∃ td, P.underlying kt = some td := by
    have hu := hT.k
    cases e : (C.ty kt).k <;> rw [e] at hu <;> first | exact ⟨_, hu⟩ | (obtain ⟨f, hf, _⟩ := hu; exact ⟨_, hf⟩) | (obtain ⟨_, _, _, hf⟩ := hu; exact ⟨_, hf⟩) | (obtain ⟨_, hf⟩ := hu; exact ⟨_, hf⟩) | (have := keyTy_known hk; rw [e] at this; exact this.elim)
  rw [Instr.findKey]
  simp only [Sem.run_bind, run_underlying htd, Result.andThen_ok]
  have h1 := asking_run hC hk hf hl hkc hkr ds es 0 r hr h
  simp only [Nat.zero_add] at h1
  split
  · rename_i q hq
    have := now_spec (by rw [hkc, hl]; exact (keyTy_one hC hk).symm) hkr td ds es 0 r q hr h hq
    simp only [Nat.zero_add] at this
    rw [this]; rfl
  · exact h1
end
end Go.Proofs.EV
set_option linter.unusedVariables false
set_option linter.unusedSimpArgs false
set_option linter.unusedSectionVars false
namespace Go.Proofs.EV
open Go Go.RowKit
variable [Dr]

section
variable {P : Program} {base s m : Nat} {w : World} {L : Lks} {H : List Ob} {C : Cfg} {sm : Sem Value}

theorem setB_below {b : Nat} (hb : base ≤ b) (o : Obj) : Below base w { w with heap := w.heap.setIfInBounds b o } :=
  ⟨rfl, rfl, rfl, by simp, fun k hk => by simp [Array.getElem?_setIfInBounds]; omega, fun _ => Nat.le_refl _⟩

theorem EnRel.lift {w' : World} {ok ok' : Nat → Prop} (h : ∀ b, ok b → ok' b ∧ w'.heap[b]? = w.heap[b]?) {ds : List (List D × List D)} {es : List MapEntry} (hr : EnRel w ok ds es) : EnRel w' ok' ds es :=
  ⟨hr.len, fun i hi => ⟨(hr.k i hi).1, (hr.k i hi).2.1, fun j hj => ((hr.k i hi).2.2 j hj).lift h⟩, fun i hi => ⟨(hr.v i hi).1, (hr.v i hi).2.1, fun j hj => ((hr.v i hi).2.2 j hj).lift h⟩⟩

theorem aget_toList (es : Array MapEntry) (i : Nat) : es.toList.getD i default = es.getD i default := by
  simp [List.getD_eq_getElem?_getD, Array.getD_eq_getD_getElem?]

/-- A map of one's own. -/
theorem HRel.mp (hH : HRel w base L H) {id : Nat} {ds : List (List D × List D)} {lk : Lk} {b : Nat} (e : obj H id = .mp ds) (hl : L id = some lk) (hb : lk.b = some b) :
    ∃ (clock : Nat) (es : Array MapEntry), w.heap[b]? = some (.map es clock) ∧ EnRel w (okS (okW w L H) base true) ds es.toList := by
  obtain ⟨lk', h1, h2⟩ := hH.ob id (by rw [e]; rfl)
  rw [hl] at h1; cases h1
  rw [e] at h2
  obtain ⟨r, clock, es, g0, g1, g2, g3, g4, g4a, g4b, g5, g6⟩ := h2
  rw [hb] at g0; cases g0
  exact ⟨clock, es, g1, by simpa using g2, fun i hi => by rw [aget_toList]; exact ⟨g4a i hi, g3 i hi, fun j hj => g4 i j hi hj⟩, fun i hi => by rw [aget_toList]; exact ⟨g4b i hi, g5 i hi, fun j hj => g6 i j hi hj⟩⟩
theorem mp_ob {ok : Nat → Prop} {ds : List (List D × List D)} {lk : Lk} {b : Nat} (hb : lk.b = some b) {clock : Nat} {es : Array MapEntry} (h1 : w.heap[b]? = some (.map es clock)) (h2 : EnRel w (okS ok base true) ds es.toList) : ObRel w ok base L lk (.mp ds) :=
  ⟨b, clock, es, hb, h1, by simpa using h2.len, fun i hi => by have := (h2.k i hi).2.1; rwa [aget_toList] at this, fun i j hi hj => by have := (h2.k i hi).2.2 j hj; rwa [aget_toList] at this,
    fun i hi => by have := (h2.k i hi).1; rwa [aget_toList] at this, fun i hi => by have := (h2.v i hi).1; rwa [aget_toList] at this,
    fun i hi => by have := (h2.v i hi).2.1; rwa [aget_toList] at this, fun i j hi hj => by have := (h2.v i hi).2.2 j hj; rwa [aget_toList] at this⟩

theorem makeMap_ok (hH : HRel w base L H) (hC : CfgOk P C) (hs : s < H.length) (hm : 0 < m) (hL : L s = none) (hb : base ≤ w.heap.size) (T : TypeId) :
    OpOk P base s m w L H (makeMapHM C T s) (Instr.makeMap T none) := by
  unfold makeMapHM
  split
  · have hg : (w.alloc (.map #[] 0)).heap[w.heap.size]? = some (.map #[] 0) := by
      show (w.heap.push _)[w.heap.size]? = _
      simp
    have key := HRel.new (s := s) (m := m) hH hs hm hL hb (w' := w.alloc (.map #[] 0)) (o := .map #[] 0) rfl (below_push hb rfl rfl rfl rfl) (lk := ⟨some w.heap.size, 0, 0, 0⟩) (ob := .mp []) rfl rfl
      (mp_ob rfl hg ⟨rfl, fun i hi => by simp at hi, fun i hi => by simp at hi⟩)
    exact .made (vc := .map (some w.heap.size)) rfl key.1 key.2 (.rm s _ _ upd_s rfl) (fun _ _ => rfl)
  · exact .fail

theorem sameBits_cells {ok : Nat → Prop} {x y : D} {vx vy : Value} (h : eqD x y = some true) (hx : CRel w ok x vx) (hy : CRel w ok y vy) (n : Nat) : Instr.sameBits n vy vx = true := by
  rcases eqD_rel h hx hy with ⟨k, a, c, rfl, rfl, e⟩ | ⟨a, c, rfl, rfl, e⟩ | ⟨a, c, rfl, rfl, e⟩
  · have : a = c := by simpa using e.symm
    subst this; simp [Instr.sameBits]
  · have : a = c := by simpa using e.symm
    subst this; simp [Instr.sameBits]
  · rw [beq_toListBytes] at e
    rw [Instr.sameBits, beq_toListBytes]
    have : a.toList = c.toList := by simpa using e.symm
    simp [this]

theorem keyEq_get : ∀ {xs ys : List D} (i : Nat), keyEq xs ys = some true → i < xs.length → eqD (xs.getD i .nilp) (ys.getD i .nilp) = some true
  | [], _, i, _, hi => by simp at hi
  | x :: xs, [], i, h, hi => by simp [keyEq] at h
  | x :: xs, y :: ys, i, h, hi => by
    simp only [keyEq, Option.bind_eq_some_iff, Option.some.injEq] at h
    obtain ⟨b, h1, c, h2, h3⟩ := h
    rw [Bool.and_eq_true] at h3
    obtain ⟨rfl, rfl⟩ := h3
    cases i with
    | zero => simpa using h1
    | succ i => simpa using keyEq_get i h2 (by simpa using hi)

theorem same_key {ok : Nat → Prop} {xs ys : List D} {vx vy : Value} (h : keyEq xs ys = some true) (ax : aggB vx = decide (xs.length ≠ 1)) (ay : aggB vy = decide (ys.length ≠ 1)) (hx : DsRel w ok xs vx.cells) (hy : DsRel w ok ys vy.cells) : Instr.sameBits 10000 vy vx = true := by
  have hl := keyEq_len h
  by_cases h1 : xs.length = 1
  · have a1 : aggB vx = false := by rw [ax]; simpa using h1
    have a2 : aggB vy = false := by rw [ay]; simp; omega
    have c1 : vx.cells.getD 0 undef = vx := by cases vx <;> first | rfl | cases a1
    have c2 : vy.cells.getD 0 undef = vy := by cases vy <;> first | rfl | cases a2
    have r1 := hx.2 0 (by omega)
    have r2 := hy.2 0 (by omega)
    rw [c1] at r1
    rw [c2] at r2
    exact sameBits_cells (keyEq_get 0 h (by omega)) r1 r2 _
  · have a1 : aggB vx = true := by rw [ax]; simpa using h1
    have a2 : aggB vy = true := by rw [ay]; simp; omega
    cases vx <;> simp [aggB] at a1
    cases vy <;> simp [aggB] at a2
    rename_i a b
    have e1 : a.size = xs.length := hx.1
    have e2 : b.size = ys.length := hy.1
    rw [Instr.sameBits]
    simp only [Bool.and_eq_true, beq_iff_eq]
    refine ⟨by omega, List.all_eq_true.2 fun p hp => ?_⟩
    obtain ⟨i, hi, e⟩ := List.getElem_of_mem hp
    simp at hi
    have r1 := hx.2 i (by omega)
    have r2 := hy.2 i (by omega)
    have k1 : (Value.agg a).cells.getD i undef = a[i]'(by omega) := by rw [agetD_of_lt (by show i < a.size; omega)]; rfl
    have k2 : (Value.agg b).cells.getD i undef = b[i]'(by omega) := by rw [agetD_of_lt (by show i < b.size; omega)]; rfl
    rw [k1] at r1
    rw [k2] at r2
    have := sameBits_cells (keyEq_get i h (by omega)) r1 r2 9999
    rw [← e]
    simpa using this

theorem aggV_rel {ok : Nat → Prop} {x : V} {v : Value} (h : VRel w ok base L x v) (hx : 0 < (cellsOf x).length) : aggB v = aggV x := by
  cases h <;> first | rfl | (simp [cellsOf] at hx; done) | skip
  rename_i d hd
  cases hd <;> rfl

theorem EnRel.set {ok : Nat → Prop} {ds : List (List D × List D)} {es : List MapEntry} (h : EnRel w ok ds es) (i : Nat) {kd vd : List D} {e : MapEntry} (hk : aggB e.key = decide (kd.length ≠ 1) ∧ DsRel w ok kd e.key.cells) (hv : aggB e.val = decide (vd.length ≠ 1) ∧ DsRel w ok vd e.val.cells) :
    EnRel w ok (ds.set i (kd, vd)) (es.set i e) := by
  have hl := h.len
  refine ⟨by simp [hl], fun j hj => ?_, fun j hj => ?_⟩
  · simp at hj
    by_cases e1 : i = j
    · subst e1
      rw [getD_of_lt (by simp; omega), getD_of_lt (by simp; omega)]
      simpa using hk
    · have := h.k j hj
      rw [getD_of_lt hj, getD_of_lt (by omega)] at this
      rw [getD_of_lt (by simp; omega), getD_of_lt (by simp; omega)]
      simpa [List.getElem_set_ne e1] using this
  · simp at hj
    by_cases e1 : i = j
    · subst e1
      rw [getD_of_lt (by simp; omega), getD_of_lt (by simp; omega)]
      simpa using hv
    · have := h.v j hj
      rw [getD_of_lt hj, getD_of_lt (by omega)] at this
      rw [getD_of_lt (by simp; omega), getD_of_lt (by simp; omega)]
      simpa [List.getElem_set_ne e1] using this
theorem EnRel.push {ok : Nat → Prop} {ds : List (List D × List D)} {es : List MapEntry} (h : EnRel w ok ds es) {kd vd : List D} {e : MapEntry} (hk : aggB e.key = decide (kd.length ≠ 1) ∧ DsRel w ok kd e.key.cells) (hv : aggB e.val = decide (vd.length ≠ 1) ∧ DsRel w ok vd e.val.cells) :
    EnRel w ok (ds ++ [(kd, vd)]) (es ++ [e]) := by
  have hl := h.len
  refine ⟨by simp [hl], fun j hj => ?_, fun j hj => ?_⟩
  · simp at hj
    by_cases e1 : j < ds.length
    · have := h.k j e1
      rw [getD_of_lt e1, getD_of_lt (by omega)] at this
      rw [getD_of_lt (by simp; omega), getD_of_lt (by simp; omega)]
      simpa [List.getElem_append_left e1, List.getElem_append_left (show j < es.length by omega)] using this
    · have : j = ds.length := by omega
      subst this
      have e2 : (es ++ [e]).getD ds.length default = e := by rw [← hl]; simp [List.getD_eq_getElem?_getD]
      rw [getD_of_lt (l := ds ++ [(kd, vd)]) (by simp), e2]
      simpa using hk
  · simp at hj
    by_cases e1 : j < ds.length
    · have := h.v j e1
      rw [getD_of_lt e1, getD_of_lt (by omega)] at this
      rw [getD_of_lt (by simp; omega), getD_of_lt (by simp; omega)]
      simpa [List.getElem_append_left e1, List.getElem_append_left (show j < es.length by omega)] using this
    · have : j = ds.length := by omega
      subst this
      have e2 : (es ++ [e]).getD ds.length default = e := by rw [← hl]; simp [List.getD_eq_getElem?_getD]
      rw [getD_of_lt (l := ds ++ [(kd, vd)]) (by simp), e2]
      simpa using hv

theorem modify_toList (es : Array MapEntry) (i : Nat) (f : MapEntry → MapEntry) : (es.modify i f).toList = es.toList.set i (f (es.getD i default)) := by
  apply List.ext_getElem?
  intro j
  simp only [Array.getElem?_toList, Array.getElem?_modify, List.getElem?_set, Array.getD_eq_getD_getElem?]
  by_cases e : i = j
  · subst e
    by_cases hlt : i < es.size
    · simp [hlt]
    · simp [hlt]
  · simp [e]

theorem OpOk.cnd {b : Bool} {p q : HM V} (h1 : b = true → OpOk P base s m w L H p sm) (h2 : b = false → OpOk P base s m w L H q sm) : OpOk P base s m w L H (cond b p q) sm := by
  cases b with
  | true => exact h1 rfl
  | false => exact h2 rfl

theorem cells_rel {x : V} {v : Value} (h : VRel w (okW w L H) base L x v) (hx : 0 < (cellsOf x).length) : (cellsOf x).length = v.cells.toList.length ∧ ∀ i, i < (cellsOf x).length → VRel w (okW w L H) base L ((cellsOf x).getD i .undef) (v.cells.toList.getD i undef) := by
  obtain ⟨h1, h2⟩ := h.cells hx
  refine ⟨by simpa using h1.symm, fun i hi => ?_⟩
  have := h2 i hi
  simpa [List.getD_eq_getElem?_getD, Array.getD_eq_getD_getElem?] using this

theorem mapUpdate_run (hC : CfgOk P C) {ok : Nat → Prop} {T kt et : TypeId} (hu : P.underlying T = some (.map kt et)) (hk : keyTy C 20 kt = true) {kd vd : List D} (hf : kfit C 20 kt kd = true) (hl : kd.length = (C.ty kt).size) {kc vc : Value} (hkc : aggB kc = isAgg (C.ty kt).k) (hkr : DsRel w ok kd kc.cells)
    {ds ds' : List (List D × List D)} {b clock : Nat} {es : Array MapEntry} (hg : w.heap[b]? = some (.map es clock)) (hr : EnRel w ok ds es.toList) (hs : mpSet kd vd ds = some ds') (hvc : aggB vc = decide (vd.length ≠ 1) ∧ DsRel w ok vd vc.cells) :
    ∃ es' clock', (Instr.mapUpdate T (.map (some b)) kc vc).run P w = .ok () { w with heap := w.heap.setIfInBounds b (.map es' clock') } ∧ EnRel w ok ds' es'.toList := by
  have hT := (hC kt).1 (keyTy_known hk)
  have hkc' : aggB kc = decide (kd.length ≠ 1) := by rw [hkc, hl, keyTy_one hC hk]
  have hch : (Instr.checkKey false 10000 kt kc).run P w = .ok () w := by
    have := check_run (P := P) (w := w) hC false 20 kt kc.cells 10000 (by omega) hk (by rw [hkr.1, hl])
    rwa [cells_valOf hkc] at this
  rw [mpSet_find, Option.map_eq_some_iff] at hs
  obtain ⟨o, ho, rfl⟩ := hs
  have hfk := find_run (w := w) hC hk hf hl hkc hkr hr ho
  cases o with
  | none =>
    refine ⟨es.push { key := kc, val := vc, born := clock }, clock + 1, ?_, ?_⟩
    · simp only [Instr.mapUpdate, Sem.run_bind, run_underlying hu, MapKept.run_getObj_map hg, hch, hfk, Result.andThen_ok, Option.map_none, MapKept.run_setObj_map _ hg]
    · simpa using hr.push (e := { key := kc, val := vc, born := clock }) ⟨hkc', hkr⟩ hvc
  | some i =>
    obtain ⟨hi, hke⟩ := mpFind_lt ho
    have hsz : i < es.size := by have := hr.len; simp at this; omega
    have hold := hr.k i hi
    rw [aget_toList] at hold
    have hsame : Instr.sameBits 10000 (es.getD i default).key kc = true := same_key hke hkc' hold.1 hkr hold.2
    have hst : (Instr.keyThatStays (((es[i]?).map (·.key)).getD kc) kc).run P w = .ok kc w := by
      have e1 : ((es[i]?).map (·.key)).getD kc = (es.getD i default).key := by simp [hsz, Array.getD]
      rw [e1, Instr.keyThatStays, hsame]
      rfl
    refine ⟨es.modify i fun e => { e with key := kc, val := vc }, clock, ?_, ?_⟩
    · simp only [Instr.mapUpdate, Sem.run_bind, run_underlying hu, MapKept.run_getObj_map hg, hch, hfk, Result.andThen_ok, Option.map_some, hst, MapKept.run_setObj_map _ hg]
    · rw [modify_toList]
      exact hr.set i (e := { key := kc, val := vc, born := (es.getD i default).born }) ⟨hkc', hkr⟩ hvc

theorem DsRel.of_list {ok : Nat → Prop} {ds : List D} {v : Value} (hl : ds.length = v.cells.toList.length) (h : ∀ i, i < ds.length → CRel w ok (ds.getD i .nilp) (v.cells.toList.getD i undef)) : DsRel w ok ds v.cells :=
  ⟨by simpa using hl.symm, fun i hi => by simpa [List.getD_eq_getElem?_getD, Array.getD_eq_getD_getElem?] using h i hi⟩

theorem mapUpdate_ok (hH : HRel w base L H) (hC : CfgOk P C) (T : TypeId) {x k v : V} {vx vk vv : Value} (hx : VRel w (okW w L H) base L x vx) (hk : VRel w (okW w L H) base L k vk) (hv : VRel w (okW w L H) base L v vv) :
    OpOk P base s m w L H (mapUpdateHM C T x k v) (do Instr.mapUpdate T vx vk vv; pure (.tuple #[])) := by
  unfold mapUpdateHM
  split
  · rename_i kt et id hkT
    have hu := ((hC T).1 (by rw [hkT]; trivial)).k
    rw [hkT] at hu
    refine .cnd (fun hc => ?_) (fun _ => .fail)
    simp only [Bool.and_eq_true, beq_iff_eq, decide_eq_true_eq] at hc
    obtain ⟨hkt, hvt, hak, hav, hkl, hvl⟩ := hc
    simp only [valTy, Bool.and_eq_true, Bool.or_eq_true, Bool.not_eq_true', decide_eq_true_eq] at hvt
    have hTk := (hC kt).1 (keyTy_known hkt)
    have hpk := hTk.pos
    have hTv := (hC et).1 (known_of_pos hC hvt.1)
    have hk0 : 0 < (cellsOf k).length := by omega
    have hv0 : 0 < (cellsOf v).length := by omega
    obtain ⟨kl, kr⟩ := cells_rel hk hk0
    obtain ⟨vl, vr⟩ := cells_rel hv hv0
    have ak : aggB vk = isAgg (C.ty kt).k := by rw [aggV_rel hk hk0, hak]
    have av : aggB vv = decide ((C.ty et).size ≠ 1) := by
      rw [aggV_rel hv hv0, hav]
      cases e : isAgg (C.ty et).k with
      | true =>
        rw [e] at hvt
        simp at hvt
        simpa using hvt.2
      | false => simp [hTv.one e]
    refine freezes_ok (cellsOf k) hH _ kl kr fun kd H1 hf1 hkd hkr => ?_
    refine .of (H1 := H1) (Ext.refl ..) (fun _ _ => rfl) ?_
    refine freezes_ok (cellsOf v) hf1.h _ vl (fun i hi => hf1.x.v (vr i hi)) fun vd H2 hf2 hvd hvr => ?_
    refine .cnd (fun hfit => ?_) (fun _ => .fail)
    have hf := hf1.trans hf2
    refine .get ?_
    cases e : obj H2 id with
    | mp ds =>
      refine .mps fun ds' hds' => ?_
      have hx2 := hf.x.v hx
      cases hx2 with
      | rm _ lk b hl hb =>
        obtain ⟨clock, es, hg, hr⟩ := hf.h.mp e hl hb
        have hlv : live (obj H2 id) = true := by rw [e]; rfl
        have hkd' : DsRel w (okS (okW w L H2) base true) kd vk.cells := .of_list (by omega) fun i hi => (hkr i hi).mono hf2.ok
        have hvd' : DsRel w (okS (okW w L H2) base true) vd vv.cells := .of_list (by omega) hvr
        obtain ⟨es', clock', hrun, hr'⟩ := mapUpdate_run hC hu hkt hfit (by omega) ak hkd' hg hr hds' ⟨by rw [av, hvd, hvl], hvd'⟩
        have hbase := (hf.h.rng id lk b hlv hl hb).1
        have hlift := updLift hf.h hl hb hlv (w' := { w with heap := w.heap.setIfInBounds b (.map es' clock') }) (by simp) (fun b' hb' => by simp [Array.getElem?_setIfInBounds, Ne.symm hb']) (.mp ds')
        have hlt := (hf.h.rng id lk b hlv hl hb).2
        have key := HRel.upd (s := s) (m := m) hf.h hl hb hlv (w' := { w with heap := w.heap.setIfInBounds b (.map es' clock') }) (by simp) (fun b' hb' => by simp [Array.getElem?_setIfInBounds, Ne.symm hb']) (setB_below hbase _) (ob := .mp ds') rfl
          (mp_ob hb (clock := clock') (es := es') (by simp [hlt]) (hr'.lift (okS_lift hlift base true)))
        refine .made (vc := .tuple #[]) ?_ key.1 key.2 tup0_rel (fun _ _ => rfl)
        rw [Sem.run_bind, hrun]
        rfl
    | box _ => exact .fail
    | row _ _ _ => exact .fail
    | iter _ _ => exact .fail
    | nest _ _ _ => exact .fail
    | dead => exact .fail
  · exact .fail

theorem lookup_run (hC : CfgOk P C) {ok : Nat → Prop} {T kt et : TypeId} (hu : P.underlying T = some (.map kt et)) (hk : keyTy C 20 kt = true) (hve : (C.ty et).size ≠ 0) {kd : List D} (hf : kfit C 20 kt kd = true) (hl : kd.length = (C.ty kt).size) {kc : Value} (hkc : aggB kc = isAgg (C.ty kt).k) (hkr : DsRel w ok kd kc.cells)
    {ds : List (List D × List D)} {mv : Value} {es : Array MapEntry} (hg : (mv = .map none ∧ es = #[]) ∨ ∃ b clock, mv = .map (some b) ∧ w.heap[b]? = some (.map es clock)) (hr : EnRel w ok ds es.toList) {r : Option (List D)} (hs : mpGet kd ds = some r) (c : Bool) :
    ∃ v, (Instr.lookup T mv kc c).run P w = .ok (if c then .tuple #[v, .bool r.isSome] else v) w ∧ DsRel w ok (r.getD ((C.ty et).lk.map zeroD)) v.cells ∧ (aggB v = decide ((r.getD ((C.ty et).lk.map zeroD)).length ≠ 1) ∨ (r = none ∧ aggB v = isAgg (C.ty et).k)) := by
  have hT := (hC kt).1 (keyTy_known hk)
  have hTe := (hC et).1 (known_of_pos hC hve)
  rw [mpGet_find, Option.map_eq_some_iff] at hs
  obtain ⟨o, ho, rfl⟩ := hs
  have hfk := find_run (w := w) hC hk hf hl hkc hkr hr ho
  have hch : (Instr.checkKey es.isEmpty 10000 kt kc).run P w = .ok () w := by
    have := check_run (P := P) (w := w) hC es.isEmpty 20 kt kc.cells 10000 (by omega) hk (by rw [hkr.1, hl])
    rwa [cells_valOf hkc] at this
  have hgo : ∀ v ok, ((do
      Instr.checkKey es.isEmpty 10000 kt kc
      let (v, ok) ← match ← Instr.findKey kt kc es.toList with
        | some (_, v) => pure (v, true)
        | none => pure (← zeroValue et, false)
      pure (if c then .tuple #[v, .bool ok] else v)) : Sem Value).run P w = .ok (if c then .tuple #[v, .bool ok] else v) w →
      (Instr.lookup T mv kc c).run P w = .ok (if c then .tuple #[v, .bool ok] else v) w := by
    intro v ok h
    rw [← h]
    rcases hg with ⟨rfl, rfl⟩ | ⟨b, clock, rfl, hg⟩
    · unfold Instr.lookup
      rw [Sem.run_bind, run_underlying hu]
      rfl
    · unfold Instr.lookup
      rw [Sem.run_bind, run_underlying hu]
      simp only [Result.andThen_ok]
      rw [Sem.run_bind, MapKept.run_getObj_map hg]
      rfl
  obtain ⟨i, z, i1, i2, i3, i4, i5, i6, _⟩ := hTe.i
  have hz : (zeroValue et).run P w = .ok z w := by simp [zeroValue, typeInfo, i1, i4]
  cases o with
  | none =>
    refine ⟨z, ?_, ?_, .inr ⟨rfl, hTe.za i z i1 i4⟩⟩
    · refine hgo z false ?_
      simp only [Result.andThen_ok, Sem.run_bind, hch, hfk, Option.map_none, hz]
      cases c <;> rfl
    · refine ⟨by rw [← Array.length_toList, i5]; simp, fun j hj => ?_⟩
      simp at hj
      have e1 : z.cells.getD j undef = (z.cells.toList).getD j undef := by simp [List.getD_eq_getElem?_getD, Array.getD_eq_getD_getElem?]
      rw [e1, i5]
      simp only [Option.map_none, Option.getD_none]
      rw [getD_of_lt (by simpa using hj), getD_of_lt (by simpa using hj)]
      simpa using zero_rel _
  | some j =>
    obtain ⟨hj, _⟩ := mpFind_lt ho
    have hv := hr.v j hj
    refine ⟨(es.toList.getD j default).val, ?_, hv.2, .inl hv.1⟩
    refine hgo (es.toList.getD j default).val true ?_
    simp only [Result.andThen_ok, Sem.run_bind, hch, hfk, Option.map_some]
    cases c <;> rfl
end
end Go.Proofs.EV
set_option linter.unusedVariables false
set_option linter.unusedSimpArgs false
set_option linter.unusedSectionVars false
namespace Go.Proofs.EV
open Go Go.RowKit
variable [Dr]

section
variable {P : Program} {base s m : Nat} {w : World} {L : Lks} {H : List Ob} {C : Cfg} {sm : Sem Value}

theorem found_ok (hH : HRel w base L H) (hC : CfgOk P C) {T kt et : TypeId} (hu : P.underlying T = some (.map kt et)) {k : V} {vk mv : Value} (hk : VRel w (okW w L H) base L k vk) (c fr : Bool) {ds : List (List D × List D)} {es : Array MapEntry}
    (hg : (mv = .map none ∧ es = #[]) ∨ ∃ b clock, mv = .map (some b) ∧ w.heap[b]? = some (.map es clock)) (hr : EnRel w (okS (okW w L H) base fr) ds es.toList) :
    OpOk P base s m w L H (foundHM C kt et k c fr ds) (Instr.lookup T mv vk c) := by
  unfold foundHM
  refine .cnd (fun hc => ?_) (fun _ => .fail)
  simp only [Bool.and_eq_true, beq_iff_eq, decide_eq_true_eq] at hc
  obtain ⟨hkt, hvt, hak, hkl⟩ := hc
  simp only [valTy, Bool.and_eq_true, Bool.or_eq_true, Bool.not_eq_true', decide_eq_true_eq] at hvt
  have hTk := (hC kt).1 (keyTy_known hkt)
  have hpk := hTk.pos
  have hTv := (hC et).1 (known_of_pos hC hvt.1)
  have hk0 : 0 < (cellsOf k).length := by omega
  obtain ⟨kl, kr⟩ := cells_rel hk hk0
  have ak : aggB vk = isAgg (C.ty kt).k := by rw [aggV_rel hk hk0, hak]
  refine freezes_ok (cellsOf k) hH _ kl kr fun kd H1 hf1 hkd hkr => ?_
  refine .cnd (fun hfit => ?_) (fun _ => .fail)
  refine .od fun r hget => ?_
  have hm1 : ∀ b, okS (okW w L H) base fr b → okS (okW w L H1) base fr b := fun b hb => ⟨(hf1.x.ok b hb.1).1, hb.2⟩
  -- the two kinds of what is read
  have key : ∀ (ok : Nat → Prop) (hok : ∀ b, okS (okW w L H1) base true b → ok b) (hok2 : ∀ b, okS (okW w L H1) base fr b → ok b), ∃ v, (Instr.lookup T mv vk c).run P w = .ok (if c then .tuple #[v, .bool r.isSome] else v) w ∧ DsRel w ok (r.getD ((C.ty et).lk.map zeroD)) v.cells ∧ (aggB v = decide ((r.getD ((C.ty et).lk.map zeroD)).length ≠ 1) ∨ (r = none ∧ aggB v = isAgg (C.ty et).k)) := by
    intro ok hok hok2
    have hkd' : DsRel w ok kd vk.cells := .of_list (by omega) fun i hi => (hkr i hi).mono hok
    exact lookup_run hC hu hkt hvt.1 hfit (by omega) ak hkd' hg (hr.lift fun b hb => ⟨hok2 b (hm1 b hb), rfl⟩) hget c
  obtain ⟨v, hrun, hrel, hagg⟩ := key (okS (okW w L H1) base false) (fun b hb => ⟨hb.1, fun h => by cases h⟩) (fun b hb => ⟨hb.1, fun h => by cases h⟩)
  have hrel2 : fr = true → DsRel w (okS (okW w L H1) base true) (r.getD ((C.ty et).lk.map zeroD)) v.cells := by
    intro hfr
    subst hfr
    obtain ⟨v', h1, h2, _⟩ := key (okS (okW w L H1) base true) (fun b hb => hb) (fun b hb => hb)
    rw [hrun] at h1
    have : v = v' := by
      simp only [Result.ok.injEq] at h1
      cases c with
      | true => simpa using h1
      | false => simpa using h1
    rw [this]; exact h2
  have hlk : (C.ty et).lk.length = (C.ty et).size := hTv.len.symm
  refine .gd fun hlen => ?_
  have hlen := of_decide_eq_true hlen
  by_cases htriv : True
  · have av : aggB v = isAgg (C.ty et).k := by
      rcases hagg with h | ⟨_, h⟩
      · rw [h, hlen]
        cases e : isAgg (C.ty et).k with
        | true =>
          rw [e] at hvt
          simp at hvt
          simpa using hvt.2
        | false => simp [hTv.one e]
      · exact h
    have hrow : ∀ jj, jj < (C.ty et).lk.length → CRel w (okS (okW w L H1) base fr) (cellD [r.getD ((C.ty et).lk.map zeroD)] 0 (0 + jj)) (v.cells.getD (0 + jj) undef) := by
      intro jj hj
      rw [Nat.zero_add]
      have e1 : cellD [r.getD ((C.ty et).lk.map zeroD)] 0 jj = (r.getD ((C.ty et).lk.map zeroD)).getD jj .nilp := rfl
      rw [e1]
      cases hfr : fr with
      | true => exact (hrel2 hfr).2 jj (by omega)
      | false => exact hrel.2 jj (by omega)
    refine leafs_ok (fun j => v.cells.getD j undef) (C.ty et).lk 0 hrow fun xs hxl _ hxs => ?_
    have hcs : CsRel w (okW w L H1) base L xs v.cells := ⟨by rw [hrel.1]; omega, fun j hj => by have := hxs j hj; rwa [Nat.zero_add] at this⟩
    have hmk := mkVal_ok hTv hcs (by omega)
    rw [cells_valOf av] at hmk
    refine .ret hf1.h (hrun.trans ?_) (vc := if c then .tuple #[v, .bool r.isSome] else v) ?_
    · rfl
    · cases c with
      | true =>
        refine .tup _ _ rfl fun i hi => ?_
        match i, hi with
        | 0, _ => exact hmk
        | 1, _ => exact vbool_rel _
      | false => exact hmk
  · exact absurd trivial htriv

theorem lookup_ok (hH : HRel w base L H) (hC : CfgOk P C) (T : TypeId) {x k : V} {vx vk : Value} (hx : VRel w (okW w L H) base L x vx) (hk : VRel w (okW w L H) base L k vk) (c : Bool) :
    OpOk P base s m w L H (lookupHM C T x k c) (Instr.lookup T vx vk c) := by
  unfold lookupHM
  split
  · rename_i kt et hkT
    have hu := ((hC T).1 (by rw [hkT]; trivial)).k
    rw [hkT] at hu
    split
    · rename_i id
      refine .get ?_
      cases e : obj H id with
      | mp ds =>
        cases hx with
        | rm _ lk b hl hb =>
          obtain ⟨clock, es, hg, hr⟩ := hH.mp e hl hb
          exact found_ok hH hC hu hk c true (.inr ⟨b, clock, rfl, hg⟩) hr
      | box _ => exact .fail
      | row _ _ _ => exact .fail
      | iter _ _ => exact .fail
      | nest _ _ _ => exact .fail
      | dead => exact .fail
    · rename_i fr ds
      cases hx with
      | one _ _ _ hd =>
      cases hd with
      | mp _ b clock es hok h0 hl hk0 hkk hks hvs hv0 hv =>
        exact found_ok hH hC hu hk c fr (.inr ⟨b, clock, rfl, h0⟩) ⟨by simpa using hl, fun i hi => by rw [aget_toList]; exact ⟨hks i hi, hk0 i hi, fun j hj => hkk i j hi hj⟩, fun i hi => by rw [aget_toList]; exact ⟨hvs i hi, hv0 i hi, fun j hj => hv i j hi hj⟩⟩
    · cases hx with
      | one _ _ _ hd =>
      cases hd
      exact found_ok hH hC hu hk c _ (.inl ⟨rfl, rfl⟩) ⟨rfl, fun i hi => by simp at hi, fun i hi => by simp at hi⟩
    · exact .fail
  · exact .fail

theorem clear_ok (hH : HRel w base L H) (hC : CfgOk P C) (ts : Array TypeId) (ty : TypeId) {x : V} {vx : Value} (hx : VRel w (okW w L H) base L x vx) (ht : 0 < ts.size) :
    OpOk P base s m w L H (clearHM C (ts.toList.getD 0 0) x) (Builtin.clear_ ts ty #[vx]) := by
  have e0 : ts[0]? = some (ts.toList.getD 0 0) := by
    rw [getD_of_lt (by simpa using ht)]; simp [ht]
  generalize ts.toList.getD 0 0 = T at e0 ⊢
  unfold clearHM
  split
  · rename_i e1 hk
    have hu := ((hC T).1 (by rw [hk]; trivial)).k
    rw [hk] at hu
    split
    · exact .fail
    rename_i hs0
    have hTe := (hC e1).1 (known_of_pos hC hs0)
    split
    · cases hx with
      | nils => exact .ret hH (by simp [Builtin.clear_, e0, run_underlying hu w]) tup0_rel
    · rename_i id off len
      refine .get ?_
      cases e : obj H id with
      | row arr sz es =>
        dsimp only
        split
        · rename_i hsz
          cases hx with
          | rs _ _ _ lk a c hl hn hc ha ha0 hcc =>
          obtain ⟨g1, g2, g3, g4⟩ := hH.row e hl
          rcases Nat.eq_zero_or_pos len with rfl | hpos
          · have hsp : splice es off (List.replicate 0 ((C.ty e1).lk.map zeroD)) = es := by simp [splice]
            rw [hsp]
            have hrun : (Builtin.clear_ ts ty #[.slice a 0 c]).run P w = .ok (.tuple #[]) w := by
              cases a <;> simp [Builtin.clear_, e0, run_underlying hu w]
            have hset : H.set id (.row arr sz es) = H := by
              rw [← e]
              apply List.ext_getElem?
              intro j
              rw [List.getElem?_set]
              split
              · rename_i h
                subst h
                have := live_lt (H := H) (id := id) (by rw [e]; rfl)
                simp [this, obj, List.getD_eq_getElem?_getD]
              · rfl
            refine ⟨fun R k r hr => ?_⟩
            have hr' : k (.tup []) (H.set id (.row arr sz es)) = some r := hr
            rw [hset] at hr'
            exact ⟨_, _, _, _, _, hr', hrun, Ext.refl .., hH, tup0_rel⟩
          · obtain ⟨b, eb, rfl⟩ := ha hpos
            obtain ⟨z, z1, z2⟩ := hTe.zero (w := w)
            have hzs : z.cells.size = sz := by rw [← Array.length_toList, z2, List.length_map, ← hTe.len, hsz]
            have hzl : (Builtin.zeroCells z.cells len).toList.length = len * sz := by simp [Builtin.zeroCells, hzs]
            have hzg : ∀ i j, i < len → j < sz → (Builtin.zeroCells z.cells len).toList.getD (i * sz + j) undef = zeroVal ((C.ty e1).lk.getD j .bool) := by
              intro i j hi hj
              have hlt := mul_lt (n := len) hi hj
              have hlk : (C.ty e1).lk.length = sz := by rw [← hTe.len, hsz]
              rw [getD_of_lt (by rw [hzl]; exact hlt)]
              simp only [Builtin.zeroCells, Array.toList_map, Array.toList_range, List.getElem_map, List.getElem_range, hzs]
              have hm : (i * sz + j) % sz = j := by rw [Nat.add_comm, Nat.add_mul_mod_self_right]; exact Nat.mod_eq_of_lt hj
              rw [hm]
              have e2 : z.cells[j]! = z.cells.toList.getD j default := by simp [List.getD_eq_getElem?_getD, getElem!_def]; cases z.cells[j]? <;> rfl
              rw [e2, z2, getD_of_lt (by simpa [hlk] using hj), getD_of_lt (by simpa [hlk] using hj)]
              simp
            have hlk : (C.ty e1).lk.length = sz := by rw [← hTe.len, hsz]
            have hle : off + len ≤ es.length := by omega
            have key := rowStore_ok (P := P) (s := s) (m := m) hH (es' := splice es off (List.replicate len ((C.ty e1).lk.map zeroD))) e hl eb (o := off * sz) (vs := (Builtin.zeroCells z.cells len).toList) (by rw [splice_len _ _ _ (by simpa using hle)])
              (by rw [hzl, ← Nat.add_mul]; exact Nat.mul_le_mul_right _ hle)
              (fun v hv => by
                obtain ⟨i, hi, e3⟩ := List.getElem_of_mem hv
                rw [hzl] at hi
                have hp : 0 < sz := g3
                have h3 := hzg (i / sz) (i % sz) (by rw [Nat.div_lt_iff_lt_mul hp]; exact hi) (Nat.mod_lt _ hp)
                rw [Nat.mul_comm, Nat.div_add_mod] at h3
                rw [getD_of_lt (by rw [hzl]; exact hi), e3] at h3
                rw [h3]
                exact (zero_rel (w := w) (ok := fun _ => True) _).one)
              (fun i j hi hj => by
                have hsp := splice_get es off (List.replicate len ((C.ty e1).lk.map zeroD)) ([] : List D) (by simpa using hle) i
                simp only [List.length_replicate] at hsp
                rw [hzl]
                by_cases hin : off ≤ i ∧ i < off + len
                · left
                  have hlt := mul_lt (n := len) (i := i - off) (by omega) hj
                  refine ⟨(i - off) * sz + j, hlt, ?_, ?_⟩
                  · have : i = off + (i - off) := by omega
                    rw [this, Nat.add_mul]; simp; omega
                  · rw [hzg (i - off) j (by omega) hj]
                    unfold cellD
                    rw [hsp, if_pos hin, getD_of_lt (l := List.replicate len ((C.ty e1).lk.map zeroD)) (i := i - off) (by simp; omega)]
                    simp only [List.getElem_replicate]
                    rw [getD_of_lt (by simpa [hlk] using hj), getD_of_lt (by simpa [hlk] using hj)]
                    simpa using zero_rel _
                · right
                  refine ⟨?_, ?_⟩
                  · rw [← Nat.add_mul]
                    rcases Nat.lt_or_ge i off with h | h
                    · left; exact mul_lt (n := off) h hj
                    · right
                      have : (off + len) * sz ≤ i * sz := Nat.mul_le_mul_right _ (by omega)
                      omega
                  · unfold cellD
                    rw [hsp, if_neg hin])
            refine .made (vc := .tuple #[]) ?_ key.2.1 key.2.2 tup0_rel (fun _ _ => rfl)
            have h1 := key.1
            rw [show off * sz = off * lk.sz by rw [g1]] at h1
            obtain ⟨n, rfl⟩ : ∃ n, len = n + 1 := ⟨len - 1, by omega⟩
            simp only [Builtin.clear_, e0]
            show Sem.run P (underlying T >>= _) w = _
            rw [Sem.run_bind, run_underlying hu w]
            simp only [Result.andThen_ok]
            show Sem.run P (zeroValue e1 >>= _) w = _
            rw [Sem.run_bind, z1]
            simp only [Result.andThen_ok]
            rw [Sem.run_bind, h1, g1]
            rfl
        · exact .fail
      | _ => exact .fail
    · exact .fail
  · exact .fail
end
end Go.Proofs.EV
set_option linter.unusedVariables false
set_option linter.unusedSimpArgs false
/-! Slices of slices of one's own. -/
set_option linter.unusedSectionVars false
namespace Go.Proofs.EV
open Go Go.RowKit
variable [Dr]

section
variable {P : Program} {base s m : Nat} {w : World} {L : Lks} {H : List Ob} {C : Cfg} {sm : Sem Value}

theorem RowRel.mono {ok ok' : Nat → Prop} (h : ∀ b, ok b → ok' b) {b sz cap : Nat} {es : List (List D)} (hr : RowRel w ok b sz es cap) : RowRel w ok' b sz es cap := by
  obtain ⟨cs, T, fr, q1, q2, q3, q4, q5⟩ := hr
  exact ⟨cs, T, fr, q1, q2, q3, q4, fun i j hi hj => by
    obtain ⟨v, e1, e2⟩ := q5 i j hi hj
    exact ⟨v, e1, e2.mono h⟩⟩
theorem RowRel.lift {w' : World} {ok ok' : Nat → Prop} (h : ∀ b, ok b → ok' b ∧ w'.heap[b]? = w.heap[b]?) {b sz cap : Nat} (hb : w'.heap[b]? = w.heap[b]?) {es : List (List D)} (hr : RowRel w ok b sz es cap) : RowRel w' ok' b sz es cap := by
  obtain ⟨cs, T, fr, q1, q2, q3, q4, q5⟩ := hr
  exact ⟨cs, T, fr, hb.trans q1, q2, q3, fun o ho => by rw [← q4 o ho]; simp only [World.frozen?, hb], fun i j hi hj => by
    obtain ⟨v, e1, e2⟩ := q5 i j hi hj
    exact ⟨v, e1, e2.lift h⟩⟩

/-- An element is taken out. -/
theorem HRel.outN (hH : HRel w base L H) {id sz k b : Nat} {es : List (List (List D))} {lk : Lk} (e : obj H id = .nest sz none es) (hl : L id = some lk) (hb : lk.b = some b) (hk : k < es.length) (hs : s < H.length) (hm : 0 < m) (hL : L s = none) :
    ∃ L' lk1 v, HRel w base L' ((H.set id (.nest sz (some (k, some s)) es)).set s (.row false sz (es.getD k []))) ∧ Ext base s m w L H w L' ((H.set id (.nest sz (some (k, some s)) es)).set s (.row false sz (es.getD k []))) ∧
      L' s = some lk1 ∧ v = .slice (lk1.b.map fun x => ⟨x, 0, none⟩) lk1.n lk1.cap ∧ w.cell? ⟨b, k, none⟩ = some v := by
  have hlv : live (obj H id) = true := by rw [e]; rfl
  have hid := live_lt hlv
  have hne : id ≠ s := fun e => by rw [e, hL] at hl; cases hl
  obtain ⟨g1, g2, g3, g4, b', cs, T, fr, q0, q1, q2, q3, q4, q5⟩ := hH.nest e hl
  rw [hb] at q0; cases q0
  obtain ⟨v, e1, e2, _⟩ := q5 k hk
  obtain ⟨bi, cap, i1, i2, i3⟩ := e2 (fun p hp => by cases hp)
  generalize hlk1 : (⟨bi, sz, cap, (es.getD k []).length⟩ : Lk) = lk1
  have hb1 : lk1.b = bi := by rw [← hlk1]
  generalize hLL : (⟨fun i => if i = s then some lk1 else L i, L.hidO, fun x => if bi = some x then none else L.lin x⟩ : Lks) = L'
  generalize hHH : (H.set id (.nest sz (some (k, some s)) es)).set s (.row false sz (es.getD k [])) = H'
  have hLs : ∀ j, j ≠ s → L' j = L j := fun j hj => by rw [← hLL]; simp [hj]
  have hLss : L' s = some lk1 := by rw [← hLL]; simp
  have hlin : ∀ x, bi ≠ some x → L'.lin x = L.lin x := fun x hx => by rw [← hLL]; simp [hx]
  have hhO : L'.hidO = L.hidO := by rw [← hLL]
  have hhid : ∀ x, L'.hid x → L.hid x := fun x h => by
    rcases h with h | h
    · exact .inl (by rw [← hhO]; exact h)
    · right
      by_cases hx : bi = some x
      · rw [← hLL] at h; simp [hx] at h
      · rw [← hlin x hx]; exact h
  have hbih : ∀ x, bi = some x → L.hid x := fun x hx => Lks.hid_lin (i3 x hx).2.1
  have hbin : ∀ x, bi = some x → ¬ L'.hid x := fun x hx h => by
    rcases h with h | h
    · exact (i3 x hx).2.2.1 (by rw [← hhO]; exact h)
    · rw [← hLL] at h; simp [hx] at h
  have hobs : obj H' s = .row false sz (es.getD k []) := by rw [← hHH, obj_set, if_pos ⟨rfl, by simpa using hs⟩]
  have hobi : obj H' id = .nest sz (some (k, some s)) es := by rw [← hHH, obj_set, if_neg (by omega), obj_set, if_pos ⟨rfl, hid⟩]
  have hobj : ∀ j, j ≠ s → j ≠ id → obj H' j = obj H j := fun j h1 h2 => by rw [← hHH, obj_set, if_neg (by omega), obj_set, if_neg (by omega)]
  have hlive : ∀ j, j ≠ s → live (obj H' j) = true → live (obj H j) = true := fun j h1 h2 => by
    by_cases h3 : j = id
    · rw [h3]; exact hlv
    · rw [hobj j h1 h3] at h2; exact h2
  have hle : LkLe L L' := fun j lk' hj => by
    have : j ≠ s := fun e => by rw [e, hL] at hj; cases hj
    rw [hLs j this]; exact hj
  have hok : ∀ b1, okW w L H b1 → okW w L' H' b1 ∧ w.heap[b1]? = w.heap[b1]? := fun b1 h1 => by
    refine ⟨⟨h1.lt, fun ⟨j, lk', p1, p2, p3⟩ => ?_, fun h => h1.nh (hhid _ h)⟩, rfl⟩
    by_cases hj : j = s
    · subst hj
      rw [hLss] at p2; cases p2
      rw [hb1] at p3
      exact h1.nh (hbih _ p3)
    · rw [hLs j hj] at p2
      exact h1.no ⟨j, lk', hlive j hj p1, p2, p3⟩
  refine ⟨L', lk1, v, ⟨fun j hj => ?_, fun j lk' b1 hj h1 h2 => ?_, fun j j' lk2 lk3 b1 hj hj' h1 h2 h3 h4 => ?_, fun j hj => ?_, fun j lk' b1 hj h1 h2 hh => ?_, fun b1 h => hH.hlt b1 (hhid _ h)⟩, ⟨hle, fun j hj => hLs j (by omega), by rw [← hHH]; simp, hok, Below.refl .., hhO, fun _ _ _ => rfl⟩, hLss, by rw [i1, hb1, ← hlk1], by simp [World.cell?, q1, e1]⟩
  · by_cases h1 : j = s
    · subst h1
      rw [hobs]
      refine ⟨lk1, hLss, by rw [← hlk1], by rw [← hlk1], g3, ?_⟩
      rw [hb1]
      cases hbi : bi with
      | none =>
        obtain ⟨m1, m2⟩ := i2 hbi
        exact ⟨m1, rfl, by rw [← hlk1]; exact m2⟩
      | some x =>
        have := (i3 x hbi).2.2.2.mono (ok' := okS (okW w L' H') base true) (fun b1 h => ⟨(hok b1 h.1).1, h.2⟩)
        rw [← hlk1]
        exact this
    · by_cases h2 : j = id
      · subst h2
        rw [hobi]
        refine ⟨lk, by rw [hLs _ h1]; exact hl, g1, g2, g3, fun p hp => by cases hp; exact hk, b, cs, T, fr, hb, q1, q2, q3, q4, fun k' hk' => ?_⟩
        obtain ⟨v', u1, u2, _⟩ := q5 k' hk'
        refine ⟨v', u1, fun hh => ?_, fun s1 hs1 => ?_⟩
        · have hkk : k ≠ k' := hh _ rfl
          obtain ⟨bi', cap', j1, j2, j3⟩ := u2 (fun p hp => by cases hp)
          refine ⟨bi', cap', j1, j2, fun x hx => ?_⟩
          obtain ⟨r1, r2, r3, r4⟩ := j3 x hx
          refine ⟨r1, ?_, by rw [hhO]; exact r3, r4.mono fun b1 h => ⟨(hok b1 h.1).1, h.2⟩⟩
          rw [hlin x ?_]
          · exact r2
          · intro hbx
            have := (i3 x hbx).2.1
            rw [r2] at this
            cases this
            exact hkk rfl
        · cases hs1
          rw [u1] at e1
          cases e1
          exact ⟨lk1, hLss, by rw [i1, hb1, ← hlk1]⟩
      · rw [hobj j h1 h2] at hj ⊢
        obtain ⟨lkj, p1, p2⟩ := hH.ob j hj
        refine ⟨lkj, by rw [hLs j h1]; exact p1, p2.lift hok hle (fun _ _ => rfl) fun b2 x k2 hb2 hx hO => ⟨?_, by rw [hhO]; exact hO, rfl⟩⟩
        rw [hlin x ?_]
        · exact hx
        · intro hbx
          have := (i3 x hbx).2.1
          rw [hx] at this
          cases this
          exact h2 (hH.inj j id lkj lk _ hj hlv p1 hl hb2 hb)
  · by_cases hj1 : j = s
    · subst hj1
      rw [hLss] at h1; cases h1
      rw [hb1] at h2
      exact ⟨(i3 b1 h2).1, hH.hlt _ (hbih _ h2)⟩
    · rw [hLs j hj1] at h1
      exact hH.rng j lk' b1 (hlive j hj1 hj) h1 h2
  · by_cases e1' : j = s
    · by_cases e2' : j' = s
      · omega
      · exfalso
        subst e1'
        rw [hLss] at h1; cases h1
        rw [hb1] at h3
        rw [hLs j' e2'] at h2
        exact hH.nh j' lk3 b1 (hlive j' e2' hj') h2 h4 (hbih _ h3)
    · by_cases e2' : j' = s
      · exfalso
        subst e2'
        rw [hLss] at h2; cases h2
        rw [hb1] at h4
        rw [hLs j e1'] at h1
        exact hH.nh j lk2 b1 (hlive j e1' hj) h1 h3 (hbih _ h4)
      · rw [hLs j e1'] at h1
        rw [hLs j' e2'] at h2
        exact hH.inj j j' lk2 lk3 b1 (hlive j e1' hj) (hlive j' e2' hj') h1 h2 h3 h4
  · rw [← hHH] at hj
    have : j ≠ s := by simp at hj; omega
    rw [hLs j this]
    exact hH.out j (by simpa using hj)
  · by_cases hj1 : j = s
    · subst hj1
      rw [hLss] at h1; cases h1
      rw [hb1] at h2
      exact hbin b1 h2 hh
    · rw [hLs j hj1] at h1
      exact hH.nh j lk' b1 (hlive j hj1 hj) h1 h2 (hhid _ hh)

/-- A slice of one's own becomes an element; wr: what is written of the outer block. -/
theorem HRel.inN (hH : HRel w base L H) {id s2 sz i b : Nat} {hole : Option (Nat × Option Nat)} {es : List (List (List D))} {rows : List (List D)} {lk lk2 : Lk} (e : obj H id = .nest sz hole es) (hl : L id = some lk) (hb : lk.b = some b)
    (hh : ∀ p, hole = some p → p.1 = i) (hi : i < es.length) (e2 : obj H s2 = .row false sz rows) (hl2 : L s2 = some lk2) (hne : s2 ≠ id) {w' : World} (hsz : w'.heap.size = w.heap.size) (hw : ∀ b', b' ≠ b → w'.heap[b']? = w.heap[b']?) (hbel : Below base w w')
    (hcs : ∀ cs T fr, w.heap[b]? = some (.cells cs T fr) → (∀ o, o < cs.size → w.frozen? ⟨b, o, none⟩ = false) → i < cs.size → ∃ cs', w'.heap[b]? = some (.cells cs' T fr) ∧ cs'.size = cs.size ∧ (∀ o, o < cs'.size → w'.frozen? ⟨b, o, none⟩ = false) ∧ (∀ o, o ≠ i → cs'[o]? = cs[o]?) ∧ cs'[i]? = some (.slice (lk2.b.map fun x => ⟨x, 0, none⟩) lk2.n lk2.cap)) :
    ∃ L', HRel w' base L' ((H.set s2 .dead).set id (.nest sz none (es.set i rows))) ∧ Ext base s m w L H w' L' ((H.set s2 .dead).set id (.nest sz none (es.set i rows))) ∧ ∀ j, L' j = L j := by
  have hlv : live (obj H id) = true := by rw [e]; rfl
  have hlv2 : live (obj H s2) = true := by rw [e2]; rfl
  have hid := live_lt hlv
  have hid2 := live_lt hlv2
  obtain ⟨g1, g2, g3, g4, b', cs, T, fr, q0, q1, q2, q3, q4, q5⟩ := hH.nest e hl
  rw [hb] at q0; cases q0
  obtain ⟨r1, r2, r3, r4⟩ := hH.row e2 hl2
  obtain ⟨cs', k1, k2, k3, k4, k5⟩ := hcs cs T fr q1 q4 (by omega)
  generalize hLL : (⟨L.f, L.hidO, fun x => if lk2.b = some x then some (b, i) else L.lin x⟩ : Lks) = L'
  generalize hHH : (H.set s2 .dead).set id (.nest sz none (es.set i rows)) = H'
  have hLf : ∀ j, L' j = L j := fun j => by rw [← hLL]
  have hhO : L'.hidO = L.hidO := by rw [← hLL]
  have hlin : ∀ x, lk2.b ≠ some x → L'.lin x = L.lin x := fun x hx => by rw [← hLL]; simp [hx]
  have hlin2 : ∀ x, lk2.b = some x → L'.lin x = some (b, i) := fun x hx => by rw [← hLL]; simp [hx]
  have hhid : ∀ x, L'.hid x → L.hid x ∨ lk2.b = some x := fun x h => by
    by_cases hx : lk2.b = some x
    · exact .inr hx
    · left
      rcases h with h | h
      · exact .inl (by rw [← hhO]; exact h)
      · right; rw [← hlin x hx]; exact h
  have h2nh : ∀ x, lk2.b = some x → ¬ L.hid x := fun x hx => hH.nh s2 lk2 x hlv2 hl2 hx
  have h2b : ∀ x, lk2.b = some x → x ≠ b := fun x hx eb => hne (hH.inj s2 id lk2 lk b hlv2 hlv hl2 hl (by rw [hx, eb]) hb)
  have hobi : obj H' id = .nest sz none (es.set i rows) := by rw [← hHH, obj_set, if_pos ⟨rfl, by simpa using hid⟩]
  have hob2 : obj H' s2 = .dead := by rw [← hHH, obj_set, if_neg (by omega), obj_set, if_pos ⟨rfl, hid2⟩]
  have hobj : ∀ j, j ≠ s2 → j ≠ id → obj H' j = obj H j := fun j h1 h2 => by rw [← hHH, obj_set, if_neg (by omega), obj_set, if_neg (by omega)]
  have hlive : ∀ j, live (obj H' j) = true → j ≠ s2 ∧ live (obj H j) = true := fun j h => by
    by_cases h1 : j = s2
    · rw [h1, hob2] at h; cases h
    · refine ⟨h1, ?_⟩
      by_cases h3 : j = id
      · rw [h3]; exact hlv
      · rw [hobj j h1 h3] at h; exact h
  have hle : LkLe L L' := fun j lk' hj => by rw [hLf]; exact hj
  have hnb : ∀ x, L.hid x → x ≠ b := fun x h eb => hH.nh id lk b hlv hl hb (eb ▸ h)
  have hok : ∀ b1, okW w L H b1 → okW w' L' H' b1 ∧ w'.heap[b1]? = w.heap[b1]? := fun b1 h1 => by
    refine ⟨⟨by rw [hsz]; exact h1.lt, fun ⟨j, lk', p1, p2, p3⟩ => ?_, fun h => ?_⟩, hw b1 fun eb => h1.no ⟨id, lk, hlv, hl, by rw [hb, eb]⟩⟩
    · rw [hLf] at p2
      exact h1.no ⟨j, lk', (hlive j p1).2, p2, p3⟩
    · rcases hhid _ h with h | h
      · exact h1.nh h
      · exact h1.no ⟨s2, lk2, hlv2, hl2, h⟩
  refine ⟨L', ⟨fun j hj => ?_, fun j lk' b1 hj h1 h2 => ?_, fun j j' lk3 lk4 b1 hj hj' h1 h2 h3 h4 => ?_, fun j hj => ?_, fun j lk' b1 hj h1 h2 hx => ?_, fun b1 h => ?_⟩, ⟨hle, fun j _ => hLf j, by rw [← hHH]; simp, hok, hbel, hhO, fun b1 h _ => hw b1 (hnb b1 (.inl h))⟩, hLf⟩
  · obtain ⟨hj1, hj2⟩ := hlive j hj
    by_cases h2 : j = id
    · subst h2
      rw [hobi]
      refine ⟨lk, by rw [hLf]; exact hl, g1, by rw [List.length_set]; exact g2, g3, (fun p hp => by cases hp), b, cs', T, fr, hb, k1, by rw [k2]; exact q2, by rw [List.length_set]; exact q3, k3, fun k' hk' => ?_⟩
      rw [List.length_set] at hk'
      by_cases hki : k' = i
      · subst hki
        refine ⟨_, k5, fun _ => ⟨lk2.b, lk2.cap, ?_, fun hn => ?_, fun x hx => ?_⟩, fun s1 hs1 => by cases hs1⟩
        · have : (es.set k' rows).getD k' [] = rows := by rw [List.getD_eq_getElem?_getD, List.getElem?_set_self hi]; rfl
          rw [this, ← r2]
        · have : (es.set k' rows).getD k' [] = rows := by rw [List.getD_eq_getElem?_getD, List.getElem?_set_self hi]; rfl
          rw [this]
          rw [hn] at r4
          exact ⟨r4.1, r4.2.2⟩
        · have : (es.set k' rows).getD k' [] = rows := by rw [List.getD_eq_getElem?_getD, List.getElem?_set_self hi]; rfl
          rw [this]
          rw [hx] at r4
          refine ⟨(hH.rng s2 lk2 x hlv2 hl2 hx).1, hlin2 x hx, ?_, r4.lift (fun b1 h => ⟨⟨(hok b1 h.1).1, h.2⟩, (hok b1 h.1).2⟩) (hw x (h2b x hx))⟩
          rw [hhO]
          exact fun h => h2nh x hx (.inl h)
      · obtain ⟨v', u1, u2, _⟩ := q5 k' hk'
        refine ⟨v', by rw [k4 k' hki]; exact u1, fun _ => ?_, fun s1 hs1 => by cases hs1⟩
        obtain ⟨bi', cap', j1, j2, j3⟩ := u2 (fun p hp => by rw [hh p hp]; omega)
        have : (es.set i rows).getD k' [] = es.getD k' [] := by rw [List.getD_eq_getElem?_getD, List.getElem?_set_ne (by omega), ← List.getD_eq_getElem?_getD]
        rw [this]
        refine ⟨bi', cap', j1, j2, fun x hx => ?_⟩
        obtain ⟨t1, t2, t3, t4⟩ := j3 x hx
        refine ⟨t1, ?_, by rw [hhO]; exact t3, t4.lift (fun b1 h => ⟨⟨(hok b1 h.1).1, h.2⟩, (hok b1 h.1).2⟩) (hw x (hnb x (Lks.hid_lin t2)))⟩
        rw [hlin x fun h => h2nh x h (Lks.hid_lin t2)]
        exact t2
    · rw [hobj j hj1 h2]
      obtain ⟨lkj, p1, p2⟩ := hH.ob j hj2
      refine ⟨lkj, by rw [hLf]; exact p1, p2.lift hok hle (fun b2 hb2 => hw b2 fun eb => h2 ?_) fun b2 x k2 hb2 hx hO => ⟨?_, by rw [hhO]; exact hO, hw x (hnb x (Lks.hid_lin hx))⟩⟩
      · exact hH.inj j id lkj lk b hj2 hlv p1 hl (by rw [hb2, eb]) hb
      · rw [hlin x fun h => h2nh x h (Lks.hid_lin hx)]
        exact hx
  · rw [hLf] at h1
    rw [hsz]
    exact hH.rng j lk' b1 (hlive j hj).2 h1 h2
  · rw [hLf] at h1 h2
    exact hH.inj j j' lk3 lk4 b1 (hlive j hj).2 (hlive j' hj').2 h1 h2 h3 h4
  · rw [← hHH] at hj
    rw [hLf]
    exact hH.out j (by simpa using hj)
  · rw [hLf] at h1
    obtain ⟨hj1, hj2⟩ := hlive j hj
    rcases hhid _ hx with h | h
    · exact hH.nh j lk' b1 hj2 h1 h2 h
    · exact hj1 (hH.inj j s2 lk' lk2 b1 hj2 hlv2 h1 hl2 h2 h)
  · rw [hsz]
    rcases hhid _ h with h | h
    · exact hH.hlt b1 h
    · exact (hH.rng s2 lk2 b1 hlv2 hl2 h).2

/-- What was taken out goes back. -/
theorem HRel.backN (hH : HRel w base L H) {id s1 sz k : Nat} {es : List (List (List D))} {es1 : List (List D)} (e : obj H id = .nest sz (some (k, some s1)) es) (e1 : obj H s1 = .row false sz es1) (hne : s1 ≠ id) :
    ∃ L', HRel w base L' ((H.set s1 .dead).set id (.nest sz none (es.set k es1))) ∧ Ext base s m w L H w L' ((H.set s1 .dead).set id (.nest sz none (es.set k es1))) ∧ ∀ j, L' j = L j := by
  obtain ⟨lk, hl, _⟩ := hH.ob id (by rw [e]; rfl)
  obtain ⟨lk1, hl1, _⟩ := hH.ob s1 (by rw [e1]; rfl)
  obtain ⟨g1, g2, g3, g4, b, cs, T, fr, hb, q1, q2, q3, q4, q5⟩ := hH.nest e hl
  have hk : k < es.length := g4 _ rfl
  obtain ⟨v, u1, _, u3⟩ := q5 k hk
  obtain ⟨lk1', h1, h2⟩ := u3 s1 rfl
  rw [hl1] at h1; cases h1
  refine hH.inN e hl hb (fun p hp => by cases hp; rfl) hk e1 hl1 hne rfl (fun _ _ => rfl) (Below.refl ..) fun cs' T' fr' p1 p2 p3 => ?_
  rw [q1] at p1
  cases p1
  exact ⟨cs, q1, rfl, q4, fun _ _ => rfl, by rw [u1, h2]⟩

/-- A slice of nil slices is made. -/
theorem newNest_ok (hH : HRel w base L H) (hs : s < H.length) (hm : 0 < m) (hL : L s = none) (hb : base ≤ w.heap.size) {w' : World} {arr : Array Value} {T : TypeId} (hw : w'.heap = w.heap.push (.cells arr T (0, 0))) (hbel : Below base w w')
    {sz cap n : Nat} (hsz : 0 < sz) (hc : arr.size = cap) (hn : n ≤ cap) (hcs : ∀ i, i < n → arr[i]? = some (.slice none 0 0)) :
    HRel w' base (upd L s ⟨some w.heap.size, 1, cap, n⟩) (H.set s (.nest sz none (List.replicate n []))) ∧ Ext base s m w L H w' (upd L s ⟨some w.heap.size, 1, cap, n⟩) (H.set s (.nest sz none (List.replicate n []))) := by
  have hg : w'.heap[w.heap.size]? = some (.cells arr T (0, 0)) := by rw [hw]; simp
  refine HRel.new hH hs hm hL hb hw hbel rfl rfl ⟨rfl, by simp, hsz, (fun p hp => by cases hp), w.heap.size, arr, T, (0, 0), rfl, hg, by rw [hc]; exact Nat.le_refl _, by simpa using hn, fun o ho => ?_, fun k hk => ?_⟩
  · simp [World.frozen?, hg]
  · have hk' : k < n := by simpa using hk
    have hgd : (List.replicate n ([] : List (List D))).getD k [] = [] := by rw [List.getD_eq_getElem?_getD, List.getElem?_replicate, if_pos hk']; rfl
    refine ⟨_, hcs k hk', fun _ => ⟨none, 0, by rw [hgd]; rfl, fun _ => ⟨hgd, rfl⟩, fun x hx => by cases hx⟩, fun s1 hs1 => by cases hs1⟩
theorem OpOk.ofL {H1 : List Ob} {L1 : Lks} {prog prog1 : HM V} {sem : Sem Value} (hx : Ext base s m w L H w L1 H1) (hp : ∀ (R : Type) (c : V → List Ob → Option R), prog.run H c = prog1.run H1 c) (h : OpOk P base s m w L1 H1 prog1 sem) : OpOk P base s m w L H prog sem :=
  ⟨fun R c r hr => by
    rw [hp] at hr
    obtain ⟨v, H', vc, w', L', h1, h2, h3, h4⟩ := h.out R c r hr
    exact ⟨v, H', vc, w', L', h1, h2, hx.trans h3, h4⟩⟩

theorem outN_ok (hH : HRel w base L H) (hC : CfgOk P C) {T : TypeId} (hk : known (C.ty T).k) (h1 : (C.ty T).size = 1) (ha : EV.isAgg (C.ty T).k = false) {id sz i b : Nat} {es : List (List (List D))} {lk : Lk} (e : obj H id = .nest sz none es) (hl : L id = some lk) (hb : lk.b = some b) (hi : i < lk.n)
    (hs : s < H.length) (hm : 0 < m) (hL : L s = none) : OpOk P base s m w L H (outNHM id sz i s es) (Instr.loadAt T (.pointer (some ⟨b, i * lk.sz + 0, none⟩))) := by
  have hT := (hC T).1 hk
  obtain ⟨g1, g2, _⟩ := hH.nest e hl
  obtain ⟨L', lk1, v, k1, k2, k3, k4, k5⟩ := hH.outN (s := s) (m := m) e hl hb (k := i) (by omega) hs hm hL
  have hrun : (Instr.loadAt T (.pointer (some ⟨b, i * lk.sz + 0, none⟩))).run P w = .ok v w := by
    have := run_loadVar (P := P) (w := w) hT hk b (i * lk.sz + 0) (fun _ => v) (fun j hj => by
      have : j = 0 := by omega
      subst this
      rw [g1, Nat.mul_one, Nat.add_zero]
      exact k5)
    refine Eq.trans this ?_
    rw [h1]
    simp [valOf, ha]
  exact .made hrun k1 k2 (.rw s lk1 k3 |> fun h => k4 ▸ h) (fun _ _ => rfl)

theorem loadN_ok (hH : HRel w base L H) (hC : CfgOk P C) {T : TypeId} (hk : known (C.ty T).k) (hs : s < H.length) (hm : 0 < m) (hL : L s = none) {a : V} {va : Value} (ha : VRel w (okW w L H) base L a va) : OpOk P base s m w L H (loadNHM C T a s) (Instr.loadAt T va) := by
  unfold loadNHM
  split
  · rename_i id i
    cases ha with
    | re _ _ _ lk b hl hb hi =>
    refine .get ?_
    split
    · rename_i sz hole es e
      have e : obj H id = .nest sz hole es := e
      split
      · rename_i hc
        obtain ⟨h1, h2⟩ := hc
        split
        · exact outN_ok hH hC hk h1 h2 e hl hb hi hs hm hL
        · rename_i k s1 e
          refine .get ?_
          split
          · rename_i sz1 es1 e1
            have e1 : obj H s1 = .row false sz1 es1 := e1
            split
            · rename_i hc2
              obtain ⟨rfl, hne⟩ := hc2
              obtain ⟨L1, q1, q2, q3⟩ := hH.backN (s := s) (m := m) e e1 hne
              have hid : id < H.length := live_lt (by rw [e]; rfl)
              have hobi : obj ((H.set s1 .dead).set id (.nest sz1 none (es.set k es1))) id = .nest sz1 none (es.set k es1) := by rw [obj_set, if_pos ⟨rfl, by simpa using hid⟩]
              have hLs : L1 s = none := by
                rw [q3]; exact hL
              refine .ofL q2 (prog1 := outNHM id sz1 i s (es.set k es1)) (fun R c => ?_) (outN_ok q1 hC hk h1 h2 hobi (q2.le _ _ hl) hb hi (by rw [q2.len]; exact hs) hm hLs)
              unfold outNHM
              simp only [HM.run, List.set_set]
            · exact .fail
          · exact .fail
        · exact .fail
      · exact .fail
    · exact load_ok hH hC hk (.re id i 0 lk b hl hb hi)
  · exact load_ok hH hC hk ha

theorem inN_ok (hH : HRel w base L H) (hC : CfgOk P C) {T : TypeId} (hk : known (C.ty T).k) (h1 : (C.ty T).size = 1) {id s2 sz i b : Nat} {hole : Option (Nat × Option Nat)} {es : List (List (List D))} {rows : List (List D)} {lk lk2 : Lk} (e : obj H id = .nest sz hole es) (hl : L id = some lk) (hb : lk.b = some b) (hi : i < lk.n)
    (hh : ∀ p, hole = some p → p.1 = i) (e2 : obj H s2 = .row false sz rows) (hl2 : L s2 = some lk2) (hne : s2 ≠ id) :
    OpOk P base s m w L H (inNHM id sz i s2 es rows) (do Instr.storeAt T (.pointer (some ⟨b, i * lk.sz + 0, none⟩)) (.slice (lk2.b.map fun x => ⟨x, 0, none⟩) lk2.n lk2.cap); pure (.tuple #[])) := by
  have hT := (hC T).1 hk
  have hlv : live (obj H id) = true := by rw [e]; rfl
  obtain ⟨g1, g2, g3, g4, b', cs, TT, fr, q0, q1, q2, q3, q4, q5⟩ := hH.nest e hl
  rw [hb] at q0; cases q0
  rw [g1, Nat.mul_one, Nat.add_zero]
  have hbase := (hH.rng id lk b hlv hl hb).1
  have hics : i < cs.size := by omega
  have hrun := run_storeCells_cells (P := P) b i [.slice (lk2.b.map fun x => ⟨x, 0, none⟩) lk2.n lk2.cap] 0 w (fun j hj => by
    have : j = 0 := by simp at hj; exact hj
    subst this
    simp [World.cell?, q1, hics]) (fun j hj => by
    have : j = 0 := by simp at hj; exact hj
    subst this
    exact q4 _ hics) (fun v hv => by
    rw [List.mem_singleton.1 hv]; rfl)
  rw [Nat.add_zero] at hrun
  obtain ⟨L', k1, k2, _⟩ := hH.inN (s := s) (m := m) e hl hb hh (by omega) e2 hl2 hne (w' := w.setCells b i [.slice (lk2.b.map fun x => ⟨x, 0, none⟩) lk2.n lk2.cap]) (setCells_size ..) (fun b' hb' => setCells_other _ _ _ _ _ hb') (setCells_below _ _ _ _ _ hbase) fun cs0 T0 fr0 p1 p2 p3 => by
    refine ⟨setL cs0 i [.slice (lk2.b.map fun x => ⟨x, 0, none⟩) lk2.n lk2.cap], setCells_heap _ _ _ _ _ _ _ p1, setL_size .., fun o ho => by rw [World.frozen?_setCells]; exact p2 o (by rwa [setL_size] at ho), fun o ho => ?_, ?_⟩
    · exact setL_out _ _ _ _ (by simp; omega)
    · have := setL_in [.slice (lk2.b.map fun x => ⟨x, 0, none⟩) lk2.n lk2.cap] cs0 i 0 (by simp) (by simp; omega)
      simpa using this
  refine .made ?_ k1 k2 tup0_rel (fun _ _ => rfl)
  have hsz : (Value.slice (lk2.b.map fun x => ⟨x, 0, none⟩) lk2.n lk2.cap).cells.size = (C.ty T).size := by rw [h1]; rfl
  have hcl : (Value.slice (lk2.b.map fun x => ⟨x, 0, none⟩) lk2.n lk2.cap).cells.toList = [.slice (lk2.b.map fun x => ⟨x, 0, none⟩) lk2.n lk2.cap] := rfl
  simp only [Instr.storeAt, storeVar, Instr.sureAddr, Sem.run_bind, hT.size, Result.andThen_ok, hsz, ne_eq, not_true_eq_false, if_false, hcl, hrun, Sem.run_pure]

theorem storeN_ok (hH : HRel w base L H) (hC : CfgOk P C) {T : TypeId} (hk : known (C.ty T).k) {a x : V} {va vc : Value} (ha : VRel w (okW w L H) base L a va) (hx : VRel w (okW w L H) base L x vc) :
    OpOk P base s m w L H (storeNHM C T a x) (do Instr.storeAt T va vc; pure (.tuple #[])) := by
  unfold storeNHM
  split
  · rename_i id i s2
    have ha0 := ha
    have hx0 := hx
    cases ha with
    | re _ _ _ lk b hl hb hi =>
    cases hx with
    | rw _ lk2 hl2 =>
    refine .get ?_
    split
    · rename_i sz hole es e
      have e : obj H id = .nest sz hole es := e
      refine .get ?_
      split
      · rename_i sz2 rows e2
        have e2 : obj H s2 = .row false sz2 rows := e2
        split
        · rename_i hc
          obtain ⟨rfl, hne, h1⟩ := hc
          split
          · exact inN_ok hH hC hk h1 e hl hb hi (fun p hp => by cases hp) e2 hl2 hne
          · rename_i k o
            refine .gd fun hd => ?_
            have hd := of_decide_eq_true hd
            exact inN_ok hH hC hk h1 e hl hb hi (fun p hp => by cases hp; exact hd.symm) e2 hl2 hne
        · exact .fail
      · exact .fail
    · exact store_ok hH hC hk ha0 hx0
  · exact store_ok hH hC hk ha hx

theorem makeN_ok (hH : HRel w base L H) (hC : CfgOk P C) (hs : s < H.length) (hm : 0 < m) (hL : L s = none) (hb : base ≤ w.heap.size) (T : TypeId)
    {x y : V} {vx vy : Value} (hx : VRel w (okW w L H) base L x vx) (hy : VRel w (okW w L H) base L y vy) :
    OpOk P base s m w L H (makeNHM C T x y s) (Instr.makeSlice T vx vy) := by
  unfold makeNHM
  split
  · rename_i e fr q l fr' q' c hk
    have hu := ((hC T).1 (by rw [hk]; trivial)).k
    rw [hk] at hu
    split
    · rename_i isz hlk
      split
      · rename_i hisz
        obtain ⟨hisz, hs1⟩ := hisz
        rw [hx.int_inv, hy.int_inv]
        refine .gd fun h1 => .gd fun h2 => .gd fun h3 => ?_
        have h1 := of_decide_eq_true h1
        have h2 := of_decide_eq_true h2
        have h3 := of_decide_eq_true h3
        have h3' : c ≤ 17179869184 := h3
        have hke : known (C.ty e).k := known_of_pos hC (by omega)
        have hTe := (hC e).1 hke
        obtain ⟨i, z, i1, i2, i3, i4, i5, i6, _⟩ := hTe.i
        have hzl : z.cells.toList = [.slice none 0 0] := by rw [i5, hlk]; rfl
        have hzs : z.cells.size = 1 := by rw [← Array.length_toList, hzl]; rfl
        have hby : (i.bytes : Int) * c ≤ 140737488355328 := by
          have h4 : (i.bytes : Int) * c ≤ 8192 * 17179869184 := Int.mul_le_mul (by omega) h3' (by omega) (by omega)
          omega
        have hrun := run_make (P := P) w T e i z hu i1 i4 q q' l c h1 h2 (by omega) (by omega)
        have hz0 : z.cells.getD 0 undef = .slice none 0 0 := by
          have : z.cells = #[.slice none 0 0] := by
            apply Array.toList_inj.1
            rw [hzl]
          rw [this]; rfl
        have hmade : ∀ q, q < c.toNat * i.size → (madeCells z.cells (c.toNat * i.size))[q]? = some (.slice none 0 0) := by
          intro q hq
          have hq' : q < c.toNat * i.size := hq
          simp only [madeCells, Array.getElem?_map]
          rw [Array.getElem?_eq_getElem (by simpa using hq')]
          simp only [Option.map_some, Array.getElem_range]
          have hm0 : q % z.cells.size = 0 := by rw [hzs]; exact Nat.mod_one q
          rw [hm0]
          rw [getElem!_pos z.cells _ (by omega)]
          rw [agetD_of_lt (by omega)] at hz0
          rw [hz0]
        have key := newNest_ok (s := s) (m := m) hH hs hm hL hb (w' := w.alloc (.cells (madeCells z.cells (c.toNat * i.size)) e)) rfl ((Below.refl base w).alloc hb _) (sz := isz) (cap := c.toNat) (n := l.toNat) hisz (by rw [size_madeCells, i2, hs1, Nat.mul_one]) (by omega) fun i' hi => hmade i' (by rw [i2, hs1]; omega)
        exact .made hrun key.1 key.2 (.rw_of upd_s (by simp)) (fun _ _ => rfl)
      · exact .fail
    · exact makeSlice_ok hH hC hs hm hL hb T hx hy
  · exact .fail
end
end Go.Proofs.EV
set_option linter.unusedVariables false
set_option linter.unusedSimpArgs false
/-! Slices of slices of one's own, put together. -/
set_option linter.unusedSectionVars false
namespace Go.Proofs.EV
open Go Go.RowKit
variable [Dr]

section
variable {P : Program} {base s m : Nat} {w : World} {L : Lks} {H : List Ob} {C : Cfg} {sm : Sem Value}

/-- A slice of one slice of one's own is made. -/
theorem HRel.newIn (hH : HRel w base L H) {ir sz : Nat} {rows : List (List D)} {lkr : Lk} (er : obj H ir = .row false sz rows) (hlr : L ir = some lkr) (hs : s < H.length) (hm : 0 < m) (hL : L s = none) (hb : base ≤ w.heap.size) (hsz : 0 < sz)
    {w' : World} {arr : Array Value} {T : TypeId} (hw : w'.heap = w.heap.push (.cells arr T (0, 0))) (hbel : Below base w w') (hc : arr.size = 1) (h0 : arr[0]? = some (.slice (lkr.b.map fun x => ⟨x, 0, none⟩) lkr.n lkr.cap)) :
    ∃ L', HRel w' base L' ((H.set ir .dead).set s (.nest sz none [rows])) ∧ Ext base s m w L H w' L' ((H.set ir .dead).set s (.nest sz none [rows])) ∧ L' s = some ⟨some w.heap.size, 1, 1, 1⟩ := by
  have hg : w'.heap[w.heap.size]? = some (.cells arr T (0, 0)) := by rw [hw]; simp
  have hne : ir ≠ s := fun e => by rw [e, hL] at hlr; cases hlr
  have hir : ir < H.length := live_lt (by rw [er]; rfl)
  have key := HRel.new (s := s) (m := m) hH hs hm hL hb hw hbel (lk := ⟨some w.heap.size, 1, 1, 1⟩) (ob := .nest sz (some (0, some ir)) [[]]) rfl rfl ⟨rfl, rfl, hsz, fun p hp => by cases hp; exact Nat.one_pos, w.heap.size, arr, T, (0, 0), rfl, hg, by rw [hc]; exact Nat.le_refl _, Nat.le_refl _, fun o ho => by simp [World.frozen?, hg], fun k hk => by
    have : k = 0 := by simp at hk; exact hk
    subst this
    refine ⟨_, h0, fun hh => absurd rfl (hh _ rfl), fun s1 hs1 => ?_⟩
    cases hs1
    exact ⟨lkr, by simp [EV.upd, hne, hlr], rfl⟩⟩
  have e1 : obj (H.set s (.nest sz (some (0, some ir)) [[]])) s = .nest sz (some (0, some ir)) [[]] := by rw [obj_set, if_pos ⟨rfl, hs⟩]
  have e2 : obj (H.set s (.nest sz (some (0, some ir)) [[]])) ir = .row false sz rows := by rw [obj_set, if_neg (by omega)]; exact er
  obtain ⟨L', q1, q2, q3⟩ := HRel.backN (s := s) (m := m) key.1 e1 e2 hne
  have eH : ((H.set s (.nest sz (some (0, some ir)) [[]])).set ir .dead).set s (.nest sz none ([[]].set 0 rows)) = (H.set ir .dead).set s (.nest sz none [rows]) := by
    rw [List.set_comm _ _ (by omega), List.set_set]
    exact List.set_comm _ _ (by omega)
  rw [eH] at q1 q2
  exact ⟨L', q1, key.2.trans q2, by rw [q3]; simp [EV.upd]⟩

/-- Two slices of slices become one. -/
theorem HRel.appN (hH : HRel w base L H) {ix iy sz bx bY b' cap' : Nat} {es ys : List (List (List D))} {lkx lky : Lk} (ex : obj H ix = .nest sz none es) (ey : obj H iy = .nest sz none ys) (hlx : L ix = some lkx) (hly : L iy = some lky) (hbx : lkx.b = some bx) (hby : lky.b = some bY) (hne : ix ≠ iy)
    (hs : s < H.length) (hm : 0 < m) (hL : L s = none) {w' : World} (hsz : w.heap.size ≤ w'.heap.size) (hb' : b' < w'.heap.size) (hbb : b' = bx ∨ (b' = w.heap.size ∧ base ≤ b')) (hw : ∀ b1, b1 < w.heap.size → b1 ≠ bx → w'.heap[b1]? = w.heap[b1]?) (hbel : Below base w w')
    (hcap : es.length + ys.length ≤ cap')
    (hcs : ∀ csx Tx frx csy Ty fry, w.heap[bx]? = some (.cells csx Tx frx) → w.heap[bY]? = some (.cells csy Ty fry) → lkx.cap ≤ csx.size → es.length ≤ lkx.cap → ys.length ≤ csy.size → (∀ o, o < csx.size → w.frozen? ⟨bx, o, none⟩ = false) →
      ∃ cs' T fr, w'.heap[b']? = some (.cells cs' T fr) ∧ cap' ≤ cs'.size ∧ (∀ o, o < cs'.size → w'.frozen? ⟨b', o, none⟩ = false) ∧ (∀ k, k < es.length → cs'[k]? = csx[k]?) ∧ ∀ k, k < ys.length → cs'[es.length + k]? = csy[k]?) :
    ∃ L', HRel w' base L' (((H.set ix .dead).set iy .dead).set s (.nest sz none (es ++ ys))) ∧ Ext base s m w L H w' L' (((H.set ix .dead).set iy .dead).set s (.nest sz none (es ++ ys))) ∧ L' s = some ⟨some b', 1, cap', es.length + ys.length⟩ := by
  have hlvx : live (obj H ix) = true := by rw [ex]; rfl
  have hlvy : live (obj H iy) = true := by rw [ey]; rfl
  have hx := live_lt hlvx
  have hy := live_lt hlvy
  have hxs : ix ≠ s := fun e => by rw [e, hL] at hlx; cases hlx
  have hys : iy ≠ s := fun e => by rw [e, hL] at hly; cases hly
  obtain ⟨g1, g2, g3, g4, b1, csx, Tx, frx, q0, q1, q2, q3, q4, q5⟩ := hH.nest ex hlx
  rw [hbx] at q0; cases q0
  obtain ⟨h1, h2, h3, h4, b2, csy, Ty, fry, r0, r1, r2, r3, r4, r5⟩ := hH.nest ey hly
  rw [hby] at r0; cases r0
  obtain ⟨cs', T, fr, k1, k2, k3, k4, k5⟩ := hcs csx Tx frx csy Ty fry q1 r1 q2 q3 (by omega) q4
  have hxy : bx ≠ bY := fun e => hne (hH.inj ix iy lkx lky bx hlvx hlvy hlx hly hbx (by rw [hby, e]))
  generalize hLL : (⟨fun i => if i = s then some ⟨some b', 1, cap', es.length + ys.length⟩ else L i, L.hidO, fun x => (L.lin x).map fun p => if p.1 = bx then (b', p.2) else if p.1 = bY then (b', es.length + p.2) else p⟩ : Lks) = L'
  generalize hHH : ((H.set ix .dead).set iy .dead).set s (.nest sz none (es ++ ys)) = H'
  have hLs : ∀ j, j ≠ s → L' j = L j := fun j hj => by rw [← hLL]; simp [hj]
  have hLss : L' s = some ⟨some b', 1, cap', es.length + ys.length⟩ := by rw [← hLL]; simp
  have hhO : L'.hidO = L.hidO := by rw [← hLL]
  have hlin : ∀ x, L'.lin x = (L.lin x).map fun p => if p.1 = bx then (b', p.2) else if p.1 = bY then (b', es.length + p.2) else p := fun x => by rw [← hLL]
  have hhid : ∀ x, L'.hid x → L.hid x := fun x h => by
    rcases h with h | h
    · exact .inl (by rw [← hhO]; exact h)
    · right
      rw [hlin] at h
      simpa using h
  have hnb : ∀ x, L.hid x → x ≠ bx := fun x h eb => hH.nh ix lkx bx hlvx hlx hbx (eb ▸ h)
  have hobs : obj H' s = .nest sz none (es ++ ys) := by rw [← hHH, obj_set, if_pos ⟨rfl, by simpa using hs⟩]
  have hobx : obj H' ix = .dead := by rw [← hHH, obj_set, if_neg (by omega), obj_set, if_neg (by omega), obj_set, if_pos ⟨rfl, hx⟩]
  have hoby : obj H' iy = .dead := by rw [← hHH, obj_set, if_neg (by omega), obj_set, if_pos ⟨rfl, by simpa using hy⟩]
  have hobj : ∀ j, j ≠ s → j ≠ ix → j ≠ iy → obj H' j = obj H j := fun j a b c => by rw [← hHH, obj_set, if_neg (by omega), obj_set, if_neg (by omega), obj_set, if_neg (by omega)]
  have hlive : ∀ j, j ≠ s → live (obj H' j) = true → j ≠ ix ∧ j ≠ iy ∧ live (obj H j) = true := fun j a h => by
    by_cases hj1 : j = ix
    · rw [hj1, hobx] at h; cases h
    · by_cases hj2 : j = iy
      · rw [hj2, hoby] at h; cases h
      · rw [hobj j a hj1 hj2] at h
        exact ⟨hj1, hj2, h⟩
  have hle : LkLe L L' := fun j lk' hj => by
    have : j ≠ s := fun e => by rw [e, hL] at hj; cases hj
    rw [hLs j this]; exact hj
  have hok : ∀ b1, okW w L H b1 → okW w' L' H' b1 ∧ w'.heap[b1]? = w.heap[b1]? := fun b1 hb1 => by
    have hbx1 : b1 ≠ bx := fun eb => hb1.no ⟨ix, lkx, hlvx, hlx, by rw [hbx, eb]⟩
    refine ⟨⟨Nat.lt_of_lt_of_le hb1.lt hsz, fun ⟨j, lk', p1, p2, p3⟩ => ?_, fun h => hb1.nh (hhid _ h)⟩, hw b1 hb1.lt hbx1⟩
    by_cases hj : j = s
    · subst hj
      rw [hLss] at p2; cases p2
      cases p3
      rcases hbb with e | ⟨e, _⟩
      · exact hbx1 e
      · have := hb1.lt; omega
    · rw [hLs j hj] at p2
      exact hb1.no ⟨j, lk', (hlive j hj p1).2.2, p2, p3⟩
  have hin : ∀ x, L.hid x → w'.heap[x]? = w.heap[x]? := fun x h => hw x (hH.hlt x h) (hnb x h)
  refine ⟨L', ⟨fun j hj => ?_, fun j lk' b1 hj p1 p2 => ?_, fun j j' lk3 lk4 b1 hj hj' p1 p2 p3 p4 => ?_, fun j hj => ?_, fun j lk' b1 hj p1 p2 hh => ?_, fun b1 h => Nat.lt_of_lt_of_le (hH.hlt b1 (hhid _ h)) hsz⟩, ⟨hle, fun j hj => hLs j (by omega), by rw [← hHH]; simp, hok, hbel, hhO, fun b1 h _ => hin b1 (.inl h)⟩, hLss⟩
  · by_cases a : j = s
    · subst a
      rw [hobs]
      refine ⟨_, hLss, rfl, by simp, g3, (fun p hp => by cases hp), b', cs', T, fr, rfl, k1, k2, by simpa using hcap, k3, fun k hk => ?_⟩
      have hk : k < es.length + ys.length := by simpa using hk
      by_cases hke : k < es.length
      · obtain ⟨v, u1, u2, _⟩ := q5 k hke
        obtain ⟨bi, cap, j1, j2, j3⟩ := u2 (fun p hp => by cases hp)
        have hgd : (es ++ ys).getD k [] = es.getD k [] := by rw [List.getD_eq_getElem?_getD, List.getElem?_append_left hke, ← List.getD_eq_getElem?_getD]
        rw [hgd]
        refine ⟨v, by rw [k4 k hke]; exact u1, fun _ => ⟨bi, cap, j1, j2, fun x hx => ?_⟩, fun s1 hs1 => by cases hs1⟩
        obtain ⟨t1, t2, t3, t4⟩ := j3 x hx
        exact ⟨t1, by rw [hlin, t2]; simp, by rw [hhO]; exact t3, t4.lift (fun b1 h => ⟨⟨(hok b1 h.1).1, h.2⟩, (hok b1 h.1).2⟩) (hin x (Lks.hid_lin t2))⟩
      · obtain ⟨k', rfl⟩ : ∃ k', k = es.length + k' := ⟨k - es.length, by omega⟩
        have hk' : k' < ys.length := by omega
        obtain ⟨v, u1, u2, _⟩ := r5 k' hk'
        obtain ⟨bi, cap, j1, j2, j3⟩ := u2 (fun p hp => by cases hp)
        have hgd : (es ++ ys).getD (es.length + k') [] = ys.getD k' [] := by rw [List.getD_eq_getElem?_getD, List.getElem?_append_right (by omega), Nat.add_sub_cancel_left, ← List.getD_eq_getElem?_getD]
        rw [hgd]
        refine ⟨v, by rw [k5 k' hk']; exact u1, fun _ => ⟨bi, cap, j1, j2, fun x hx => ?_⟩, fun s1 hs1 => by cases hs1⟩
        obtain ⟨t1, t2, t3, t4⟩ := j3 x hx
        exact ⟨t1, by rw [hlin, t2]; simp [hxy.symm], by rw [hhO]; exact t3, t4.lift (fun b1 h => ⟨⟨(hok b1 h.1).1, h.2⟩, (hok b1 h.1).2⟩) (hin x (Lks.hid_lin t2))⟩
    · obtain ⟨a1, a2, a3⟩ := hlive j a hj
      rw [hobj j a a1 a2]
      obtain ⟨lkj, p1, p2⟩ := hH.ob j a3
      refine ⟨lkj, by rw [hLs j a]; exact p1, p2.lift hok hle (fun b3 hb3 => hw b3 (hH.rng j lkj b3 a3 p1 hb3).2 fun eb => a1 ?_) fun b3 x k3 hb3 hx3 hO => ⟨?_, by rw [hhO]; exact hO, hin x (Lks.hid_lin hx3)⟩⟩
      · exact hH.inj j ix lkj lkx bx a3 hlvx p1 hlx (by rw [hb3, eb]) hbx
      · have n1 : b3 ≠ bx := fun eb => a1 (hH.inj j ix lkj lkx bx a3 hlvx p1 hlx (by rw [hb3, eb]) hbx)
        have n2 : b3 ≠ bY := fun eb => a2 (hH.inj j iy lkj lky bY a3 hlvy p1 hly (by rw [hb3, eb]) hby)
        rw [hlin, hx3]
        simp [n1, n2]
  · by_cases a : j = s
    · subst a
      rw [hLss] at p1; cases p1
      cases p2
      refine ⟨?_, hb'⟩
      rcases hbb with e | ⟨_, e⟩
      · rw [e]; exact (hH.rng ix lkx bx hlvx hlx hbx).1
      · exact e
    · rw [hLs j a] at p1
      have := hH.rng j lk' b1 (hlive j a hj).2.2 p1 p2
      exact ⟨this.1, Nat.lt_of_lt_of_le this.2 hsz⟩
  · have mixed : ∀ j lk3, j ≠ s → live (obj H' j) = true → L j = some lk3 → lk3.b = some b' → False := fun j lk3 a hj c1 c2 => by
      obtain ⟨a1, a2, a3⟩ := hlive j a hj
      rcases hbb with e | ⟨e, _⟩
      · exact a1 (hH.inj j ix lk3 lkx bx a3 hlvx c1 hlx (by rw [c2, e]) hbx)
      · have := (hH.rng j lk3 b' a3 c1 c2).2
        omega
    by_cases a : j = s
    · by_cases a' : j' = s
      · omega
      · exfalso
        subst a
        rw [hLss] at p1; cases p1
        cases p3
        rw [hLs j' a'] at p2
        exact mixed j' lk4 a' hj' p2 p4
    · by_cases a' : j' = s
      · exfalso
        subst a'
        rw [hLss] at p2; cases p2
        cases p4
        rw [hLs j a] at p1
        exact mixed j lk3 a hj p1 p3
      · rw [hLs j a] at p1
        rw [hLs j' a'] at p2
        exact hH.inj j j' lk3 lk4 b1 (hlive j a hj).2.2 (hlive j' a' hj').2.2 p1 p2 p3 p4
  · rw [← hHH] at hj
    have : j ≠ s := by simp at hj; omega
    rw [hLs j this]
    exact hH.out j (by simpa using hj)
  · by_cases a : j = s
    · subst a
      rw [hLss] at p1; cases p1
      cases p2
      rcases hbb with e | ⟨e, _⟩
      · exact hH.nh ix lkx bx hlvx hlx hbx (e ▸ hhid _ hh)
      · have := hH.hlt _ (hhid _ hh)
        omega
    · rw [hLs j a] at p1
      exact hH.nh j lk' b1 (hlive j a hj).2.2 p1 p2 (hhid _ hh)

theorem in_crel {ok : Nat → Prop} {b k sz : Nat} {rows : List (List D)} {v : Value} (h : InRel w ok base L b k sz rows v) : CRel w (fun _ => True) (.sl sz rows) v := by
  obtain ⟨bi, cap, rfl, h0, h1⟩ := h
  cases bi with
  | none =>
    obtain ⟨rfl, rfl⟩ := h0 rfl
    exact .sl0 _ _ _
  | some x =>
    obtain ⟨_, _, _, hr⟩ := h1 x rfl
    have hr' : RowRel w (fun _ => True) x sz rows cap := hr.mono fun _ _ => trivial
    have hcap : rows.length ≤ cap := by
      obtain ⟨cs, T, fr, q1, q2, q3, q4, q5⟩ := hr
      exact q3
    refine .sl sz rows x 0 cap (fun i j => cellV w x (i * sz + j)) trivial hcap (fun i j hi hj => ?_) (fun i j hi hj => ?_)
    · obtain ⟨v, e1, e2⟩ := row_cell hr' hi hj
      rw [Nat.zero_add]; exact (cellV_of e1).1
    · obtain ⟨v, e1, e2⟩ := row_cell hr' hi hj
      rw [(cellV_of e1).2]; exact e2

/-- A slice of slices as rows of one cell. -/
def nestRows (sz : Nat) (ys : List (List (List D))) : List (List D) := ys.map fun r => [.sl sz r]
theorem nest_news (hH : HRel w base L H) {iy sz b : Nat} {ys : List (List (List D))} {lk : Lk} (e : obj H iy = .nest sz none ys) (hl : L iy = some lk) (hb : lk.b = some b) :
    ∃ news, News P w (fun _ => True) 1 (.slice (lk.b.map fun x => ⟨x, 0, none⟩) lk.n lk.cap) (nestRows sz ys) news ∧ ∀ k, k < ys.length → w.cell? ⟨b, k, none⟩ = news[k]? := by
  obtain ⟨g1, g2, g3, g4, b', cs, T, fr, q0, q1, q2, q3, q4, q5⟩ := hH.nest e hl
  rw [hb] at q0; cases q0
  have hn0 : (nestRows sz ys).length = ys.length := by simp [nestRows]
  have hcell : ∀ i, i < ys.length → ∃ v, w.cell? ⟨b, i, none⟩ = some v ∧ CRel w (fun _ => True) (.sl sz (ys.getD i [])) v := fun i hi => by
    obtain ⟨v, u1, u2, _⟩ := q5 i hi
    exact ⟨v, by simp [World.cell?, q1, u1], in_crel (u2 fun p hp => by cases hp)⟩
  have hcd : ∀ i j, i < ys.length → j < 1 → cellD (nestRows sz ys) i j = .sl sz (ys.getD i []) := fun i j hi hj => by
    have : j = 0 := by omega
    subst this
    have h9 : (nestRows sz ys).getD i [] = [.sl sz (ys.getD i [])] := by
      unfold nestRows
      rw [List.getD_eq_getElem?_getD, List.getElem?_map, List.getElem?_eq_getElem hi]
      rw [List.getD_eq_getElem?_getD (l := ys), List.getElem?_eq_getElem hi]
      rfl
    unfold cellD
    rw [h9]
    rfl
  have := news_rows (P := P) (w := w) (ok := fun _ => True) (sz := 1) (ys := nestRows sz ys) (a := some ⟨b, 0, none⟩) (c := lk.cap) (fun _ => ⟨b, 0, fun i j => cellV w b i, rfl, fun i j hi hj => by
      rw [hn0] at hi
      obtain ⟨v, e1, e2⟩ := hcell i hi
      have : j = 0 := by omega
      subst this
      rw [Nat.zero_add, Nat.mul_one, Nat.add_zero]; exact (cellV_of e1).1, fun i j hi hj => by
      rw [hn0] at hi
      obtain ⟨v, e1, e2⟩ := hcell i hi
      rw [hcd i j hi hj]
      dsimp only; rw [(cellV_of e1).2]; exact e2⟩)
  obtain ⟨news, hn⟩ := this
  rw [hn0, ← g2] at hn
  have hb' : lk.b.map (fun x => (⟨x, 0, none⟩ : Addr)) = some ⟨b, 0, none⟩ := by rw [hb]; rfl
  rw [hb']
  refine ⟨news, hn, fun k hk => ?_⟩
  have hl1 := hn.len
  rw [hn0, Nat.mul_one] at hl1
  have hrun := hn.run w rfl
  have hrun2 : (Builtin.firstCells 1 (nestRows sz ys).length (.slice (some ⟨b, 0, none⟩) lk.n lk.cap)).run P w = .ok ((List.range (ys.length)).map fun q => cellV w b q).toArray w := by
    rw [hn0]
    simp only [Builtin.firstCells, Nat.mul_one]
    exact run_loadCells w _ _ _ (fun q hq => by
      rw [add_plain, Nat.zero_add]
      obtain ⟨v, e1, e2⟩ := hcell q hq
      exact (cellV_of e1).1)
  rw [hrun] at hrun2
  have hnn : news = (List.range ys.length).map fun q => cellV w b q := by
    simp only [Result.ok.injEq] at hrun2
    have := congrArg Array.toList hrun2.1
    simpa using this
  rw [hnn]
  obtain ⟨v, e1, e2⟩ := hcell k hk
  rw [(cellV_of e1).1]
  simp [hk]
theorem fill_one (f : Nat → Value) (a : Option Addr) (n c : Nat) : Instr.fill (fun i => some (i, 1)) ((Array.range 1).map f) [(0, .slice a n c)] = some #[.slice a n c] := by
  have h1 : (Array.range 1).map f = #[f 0] := by
    apply Array.toList_inj.1
    simp [List.range_succ]
  rw [h1]
  simp [Instr.fill, Value.cells]

theorem buildN_ok (hH : HRel w base L H) (hC : CfgOk P C) (hs : s < H.length) (hm : 0 < m) (hL : L s = none) (hb : base ≤ w.heap.size) (T : TypeId) (n : Nat) {ps : List (Nat × V)} {vs : List (Nat × Value)} (hp : Ps (VRel w (okW w L H) base L) ps vs) :
    OpOk P base s m w L H (buildNHM C T n ps s) (Instr.buildSlice T n vs.toArray) := by
  unfold buildNHM
  split
  · rename_i e hk
    have hu := ((hC T).1 (by rw [hk]; trivial)).k
    rw [hk] at hu
    split
    · rename_i isz hlk
      split
      · rename_i hc
        obtain ⟨hisz, hs1⟩ := hc
        have hTe := (hC e).1 (known_of_pos hC (by omega))
        obtain ⟨i, z, i1, i2, i3, i4, i5, i6, _⟩ := hTe.i
        have hse := hTe.size (w := w)
        have hzs : z.cells.size = 1 := by rw [← Array.length_toList, i5, hlk]; rfl
        split
        · have hv0 : vs = [] := by cases hp; rfl
          subst hv0
          have hrun : (Instr.buildSlice T 0 ([] : List (Nat × Value)).toArray).run P w = .ok (.slice (some ⟨w.heap.size, 0, none⟩) 0 0) (w.alloc (.cells ((Array.range 0).map fun _ => (default : Value)) e)) := by
            simp [Instr.buildSlice, run_underlying hu w, hse, newRow, Instr.fill, zeroValue, typeInfo, i1, i4]
          have key := newNest_ok (s := s) (m := m) hH hs hm hL hb (w' := w.alloc (.cells ((Array.range 0).map fun _ => (default : Value)) e)) (arr := (Array.range 0).map fun _ => (default : Value)) (T := e) rfl ((Below.refl base w).alloc hb _) (sz := isz) (cap := 0) (n := 0) hisz (by simp) (Nat.le_refl _) (fun i hi => by omega)
          exact .made hrun key.1 key.2 (.rw_of upd_s (by simp)) (fun _ _ => rfl)
        · rename_i id
          obtain ⟨v, hvs, hv⟩ : ∃ v, vs = [(0, v)] ∧ VRel w (okW w L H) base L (.rw id) v := by
            match vs, hp with
            | _, .cons _ h1 .nil => exact ⟨_, rfl, h1⟩
          subst hvs
          refine .get ?_
          split
          · rename_i sz es eo
            have eo : obj H id = .row false sz es := eo
            split
            · rename_i hsz
              subst hsz
              cases hv with
              | rw _ lkr hlr =>
              have hrun : (Instr.buildSlice T 1 [(0, Value.slice (lkr.b.map fun b => ⟨b, 0, none⟩) lkr.n lkr.cap)].toArray).run P w = .ok (.slice (some ⟨w.heap.size, 0, none⟩) 1 1) (w.alloc (.cells #[.slice (lkr.b.map fun b => ⟨b, 0, none⟩) lkr.n lkr.cap] e)) := by
                simp [Instr.buildSlice, run_underlying hu w, hse, hs1, newRow, zeroValue, typeInfo, i1, i4, fill_one]
              obtain ⟨L', k1, k2, k3⟩ := hH.newIn (s := s) (m := m) eo hlr hs hm hL hb hisz (w' := w.alloc (.cells #[.slice (lkr.b.map fun b => ⟨b, 0, none⟩) lkr.n lkr.cap] e)) (arr := #[.slice (lkr.b.map fun b => ⟨b, 0, none⟩) lkr.n lkr.cap]) (T := e) rfl ((Below.refl base w).alloc hb _) rfl rfl
              exact .made hrun k1 k2 (.rw_of k3 rfl) (fun _ _ => rfl)
            · exact .fail
          · exact .fail
        · exact .fail
      · exact .fail
    · exact buildSlice_ok hH hC hs hm hL hb T n hp
  · exact .fail

theorem appendN_core (hH : HRel w base L H) (hC : CfgOk P C) (hs : s < H.length) (hm : 0 < m) (hL : L s = none) (hb : base ≤ w.heap.size) {T e yt e' ty : TypeId} {ts : Array TypeId} (h0 : ts[0]? = some T) (h1 : ts[1]? = some yt)
    (hk : (C.ty T).k = .slice e) (hky : (C.ty yt).k = .slice e') (hs1 : (C.ty e).size = 1) {ix iy sz : Nat} {es ys : List (List (List D))} {lkx lky : Lk} (ex : obj H ix = .nest sz none es) (ey : obj H iy = .nest sz none ys) (hlx : L ix = some lkx) (hly : L iy = some lky) (hne : ix ≠ iy) :
    OpOk P base s m w L H (.gd (decide (es.length + ys.length ≤ LIM)) (.put ix .dead (.put iy .dead (.put s (.nest sz none (es ++ ys)) (.ret (.rw s)))))) (Builtin.append_ ts ty #[.slice (lkx.b.map fun b => ⟨b, 0, none⟩) lkx.n lkx.cap, .slice (lky.b.map fun b => ⟨b, 0, none⟩) lky.n lky.cap]) := by
  have hu := ((hC T).1 (by rw [hk]; trivial)).k
  rw [hk] at hu
  have hyd := ((hC yt).1 (by rw [hky]; trivial)).k
  rw [hky] at hyd
  have hTe := (hC e).1 (known_of_pos hC (by omega))
  obtain ⟨i, z, i1, i2, i3, i4, i5, i6, _⟩ := hTe.i
  have hi1 : i.size = 1 := by omega
  refine .gd fun hle => ?_
  have hle := of_decide_eq_true hle
  obtain ⟨g1, g2, g3, g4, bx, csx, Tx, frx, hbx, q1, q2, q3, q4, q5⟩ := hH.nest ex hlx
  obtain ⟨f1, f2, f3, f4, bY, csy, Ty, fry, hby, r1, r2, r3, r4, r5⟩ := hH.nest ey hly
  have hlvx : live (obj H ix) = true := by rw [ex]; rfl
  have hlvy : live (obj H iy) = true := by rw [ey]; rfl
  have hbase := (hH.rng ix lkx bx hlvx hlx hbx).1
  obtain ⟨news, hn, hnc⟩ := nest_news (P := P) hH ey hly hby
  obtain ⟨olds, ho, hoc⟩ := nest_news (P := P) hH ex hlx hbx
  have hn0 : (nestRows sz ys).length = ys.length := by simp [nestRows]
  have ho0 : (nestRows sz es).length = es.length := by simp [nestRows]
  have hnl : news.length = ys.length := by have := hn.len; omega
  have hol : olds.length = es.length := by have := ho.len; omega
  have hone := hn.one
  rw [← hi1] at hn
  have hxy : bY ≠ bx := fun e => hne (hH.inj ix iy lkx lky bx hlvx hlvy hlx hly hbx (by rw [hby, e]))
  by_cases hroom : lkx.n + (nestRows sz ys).length ≤ lkx.cap
  · have hrun := app_room (ty := ty) h0 h1 hu hyd (.inr ⟨_, rfl⟩) i1 (bs := lkx.b.map fun b => ⟨b, 0, none⟩) (n := lkx.n) (cap := lkx.cap) hn hroom
    rw [hn0] at hroom hrun
    have hst := run_storeCells_cells (P := P) bx lkx.n news 0 w (fun j hj => by
      have : lkx.n + 0 + j < csx.size := by omega
      simp [World.cell?, q1, this]; omega) (fun j hj => q4 _ (by omega)) hone
    rw [Nat.add_zero] at hst
    obtain ⟨L', k1, k2, k3⟩ := hH.appN (s := s) (m := m) ex ey hlx hly hbx hby hne hs hm hL (b' := bx) (cap' := lkx.cap) (w' := w.setCells bx lkx.n news) (by rw [setCells_size]; exact Nat.le_refl _) (by rw [setCells_size]; exact (hH.rng ix lkx bx hlvx hlx hbx).2) (.inl rfl) (fun b1 _ hb1 => setCells_other _ _ _ _ _ hb1) (setCells_below _ _ _ _ _ hbase) (by omega)
      fun csx' Tx' frx' csy' Ty' fry' p1 p2 p3 p4 p5 p6 => by
        rw [q1] at p1; cases p1
        rw [r1] at p2; cases p2
        refine ⟨setL csx lkx.n news, Tx, frx, setCells_heap _ _ _ _ _ _ _ q1, by rw [setL_size]; exact q2, fun o ho => by rw [World.frozen?_setCells]; exact q4 o (by rwa [setL_size] at ho), fun k hk => setL_out _ _ _ _ (by omega), fun k hk => ?_⟩
        rw [← g2, setL_in _ _ _ _ (by omega) (by omega), ← hnc k hk]
        simp [World.cell?, r1]
    refine .made (hrun.trans ?_) k1 k2 (.rw_of k3 (v := .slice (some ⟨bx, 0, none⟩) (lkx.n + ys.length) lkx.cap) (by simp [g2])) (fun _ _ => rfl)
    rw [hbx]
    simp only [Option.map_some, add_plain, Nat.zero_add, Sem.run_bind, hi1, Nat.mul_one]
    rw [hst]
    rfl
  · have horun : (Builtin.firstCells i.size lkx.n (.slice (lkx.b.map fun b => ⟨b, 0, none⟩) lkx.n lkx.cap)).run P w.drew = .ok olds.toArray w.drew := by
      have := ho.run w.drew rfl
      rw [ho0, ← g2] at this
      rw [hi1]
      exact this
    have hrun := app_grow (ty := ty) h0 h1 hu hyd (.inr ⟨_, rfl⟩) i1 i4 i3 (bs := lkx.b.map fun b => ⟨b, 0, none⟩) (n := lkx.n) (cap := lkx.cap) hn (by omega) (by rw [g2, hn0]; exact hle) horun
    rw [hn0, g2] at hrun
    rw [g2]
    generalize hcp : grownCap w (es.length + ys.length) lkx.cap e = cap' at hrun
    have hcap : es.length + ys.length ≤ cap' := by rw [← hcp]; exact le_grownCap w hle e
    generalize hz : Builtin.zeroCells z.cells (cap' - (es.length + ys.length)) = zs at hrun
    have hzl : zs.size = cap' - (es.length + ys.length) := by
      have hz1 : z.cells.size = 1 := by rw [← Array.length_toList, i5, List.length_map]; omega
      rw [← hz, zeroCells_size, hz1, Nat.mul_one]
    have hg : (w.drew.alloc (.cells (olds.toArray ++ news.toArray ++ zs) e)).heap[w.heap.size]? = some (.cells (olds.toArray ++ news.toArray ++ zs) e (0, 0)) := by
      rw [show (w.drew.alloc (.cells (olds.toArray ++ news.toArray ++ zs) e)).heap = w.heap.push (.cells (olds.toArray ++ news.toArray ++ zs) e (0, 0)) from rfl]
      simp
    obtain ⟨L', k1, k2, k3⟩ := hH.appN (s := s) (m := m) ex ey hlx hly hbx hby hne hs hm hL (b' := w.heap.size) (cap' := cap') (w' := w.drew.alloc (.cells (olds.toArray ++ news.toArray ++ zs) e)) (by simp) (by simp) (.inr ⟨rfl, hb⟩) (fun b1 hb1 _ => Below.heap_alloc w.drew _ _ hb1) (((Below.refl base w).drew).alloc hb _) hcap
      fun csx' Tx' frx' csy' Ty' fry' p1 p2 p3 p4 p5 p6 => by
        rw [q1] at p1; cases p1
        rw [r1] at p2; cases p2
        refine ⟨_, _, _, hg, by simp [hnl, hol, hzl]; omega, fun o ho => by
          simp only [World.frozen?]
          rw [hg]
          simp, fun k hk => ?_, fun k hk => ?_⟩
        · rw [Array.getElem?_append_left (by simp; omega), Array.getElem?_append_left (by simp; omega)]
          have := hoc k hk
          simp only [World.cell?, q1] at this
          simpa using this.symm
        · rw [Array.getElem?_append_left (by simp; omega), Array.getElem?_append_right (by simp; omega)]
          have := hnc k hk
          simp only [World.cell?, r1] at this
          simp only [List.size_toArray, hol, Nat.add_sub_cancel_left]
          simpa using this.symm
    exact .made hrun k1 k2 (.rw_of k3 rfl) (fun _ _ => rfl)

theorem appendN_ok (hH : HRel w base L H) (hC : CfgOk P C) (hs : s < H.length) (hm : 0 < m) (hL : L s = none) (hb : base ≤ w.heap.size) (ts : Array TypeId) (ty : TypeId) (ht : 1 < ts.size)
    {x y : V} {vx vy : Value} (hx : VRel w (okW w L H) base L x vx) (hy : VRel w (okW w L H) base L y vy) :
    OpOk P base s m w L H (appendNHM C (ts.toList.getD 0 0) x y (ts.toList.getD 1 0) s) (Builtin.append_ ts ty #[vx, vy]) := by
  unfold appendNHM
  split
  · rename_i ix iy
    have hx0 := hx
    have hy0 := hy
    cases hx with
    | rw _ lkx hlx =>
    cases hy with
    | rw _ lky hly =>
    refine .get ?_
    split
    · rename_i sz es ex
      have ex : obj H ix = .nest sz none es := ex
      refine .get ?_
      split
      · rename_i sz2 ys ey
        have ey : obj H iy = .nest sz2 none ys := ey
        split
        · rename_i e e' hk hky
          split
          · rename_i hc
            obtain ⟨⟨rfl, hne, h1⟩, _⟩ := hc
            exact appendN_core hH hC hs hm hL hb (by rw [getD_of_lt (by simp; omega)]; simp) (by rw [getD_of_lt (by simp; omega)]; simp) hk hky h1 ex ey hlx hly hne
          · exact .fail
        · exact .fail
      · exact .fail
    · exact append_ok hH hC hs hm hL hb ts ty ht hx0 hy0
  · exact append_ok hH hC hs hm hL hb ts ty ht hx hy
end
end Go.Proofs.EV
set_option linter.unusedVariables false
set_option linter.unusedSimpArgs false
/-! Arrays are compared. -/
set_option linter.unusedSectionVars false
namespace Go.Proofs.EV
open Go Go.RowKit
variable [Dr]
section
variable {P : Program} {base s m : Nat} {w : World} {L : Lks} {H : List Ob} {C : Cfg}
theorem scsD_rel {ok ok' : Nat → Prop} : ∀ (vs : List V) (ds : List D) (vals : List Value), scsD vs = some ds → vals.length = vs.length → (∀ i, i < vs.length → VRel w ok base L (vs.getD i .undef) (vals.getD i undef)) →
    ds.length = vs.length ∧ ∀ i, i < ds.length → CRel w ok' (ds.getD i .nilp) (vals.getD i undef)
  | [], ds, vals, h, _, _ => by
    simp only [scsD, Option.some.injEq] at h
    subst h
    exact ⟨rfl, fun i hi => by simp at hi⟩
  | v :: vs, ds, [], h, hl, _ => by simp at hl
  | v :: vs, ds, x :: vals, h, hl, hr => by
    have h0 := hr 0 (by simp)
    simp only [List.getD_cons_zero] at h0
    cases v with
    | one fr d =>
      rw [scsD] at h
      split at h
      · rename_i hsc
        obtain ⟨ds', h1, rfl⟩ := Option.map_eq_some_iff.1 h
        obtain ⟨k1, k2⟩ := scsD_rel (ok := ok) (ok' := ok') vs ds' vals h1 (by simpa using hl) fun i hi => by
          have := hr (i + 1) (by simpa using hi)
          simpa only [List.getD_cons_succ] using this
        refine ⟨by simp [k1], fun i hi => ?_⟩
        cases i with
        | zero =>
          simp only [List.getD_cons_zero]
          cases h0 with
          | one _ _ _ hc => exact hc.scalar hsc
        | succ i =>
          simp only [List.getD_cons_succ]
          exact k2 i (by simpa using hi)
      · cases h
    | _ => simp [scsD] at h
theorem binA_ok (hH : HRel w base L H) (hC : CfgOk P C) (op : BinOp) (T : TypeId) (a b : V) (vx vy : Value) (x y : Operand)
    (hx : VRel w (okW w L H) base L a vx) (hy : VRel w (okW w L H) base L b vy) :
    OpOk P base s m w L H (binAHM C op T a b) (do eqGuard op T x y vx vy; binOp op T vx vy) := by
  unfold binAHM
  split
  · rename_i n e xs ys hk
    obtain ⟨xa, rfl, hxa⟩ := hx.agg_inv
    obtain ⟨ya, rfl, hya⟩ := hy.agg_inv
    split
    · rename_i dx dy hdx hdy
      split
      · rename_i hc
        obtain ⟨⟨h1, h2⟩, h3, h4, h5⟩ := hc
        have hT := (hC T).1 (by rw [hk]; trivial)
        have toL : ∀ (arr : Array Value) (i : Nat), arr.toList.getD i undef = arr.getD i undef := fun arr i => by
          rw [List.getD_eq_getElem?_getD, Array.getD_eq_getD_getElem?, Array.getElem?_toList]
        obtain ⟨r1, r2⟩ := scsD_rel (ok' := okW w L H) xs dx xa.toList hdx (by simpa using hxa.1) (fun i hi => by rw [toL]; exact hxa.2 i hi)
        obtain ⟨q1, q2⟩ := scsD_rel (ok' := okW w L H) ys dy ya.toList hdy (by simpa using hya.1) (fun i hi => by rw [toL]; exact hya.2 i hi)
        have main : ∀ bb, keyEq dx dy = some bb → (Op.equalIn 10000 T (.agg xa) (.agg ya)).run P w = .ok bb w ∧ (eqGuard op T x y (.agg xa) (.agg ya)).run P w = .ok () w := fun bb hb => by
          have key := keyEq_sound hC 20 T dx dy xa ya bb 10000 (by omega) h2 h3 h4 h5 ⟨by rw [hxa.1, r1], fun i hi => by have := r2 i hi; rwa [toL] at this⟩ ⟨by rw [hya.1, q1], fun i hi => by have := q2 i hi; rwa [toL] at this⟩ hb
          have ea : isAgg (C.ty T).k = true := by rw [hk]; rfl
          rw [valOf_agg ea, valOf_agg ea] at key
          exact ⟨key, run_eqGuard_agg w op T x y xa ya (hT.e h1).2⟩
        cases op <;> first
          | exact .fail
          | exact .bool fun bb hb => .guardOf (main bb hb).2 (.ret hH (by rw [run_eql_struct, (main bb hb).1]; rfl) (vbool_rel _))
          | exact .bool fun bb hb => .guardOf (main bb hb).2 (.ret hH (by rw [run_neq_struct, (main bb hb).1]; rfl) (vbool_rel _))
      · exact .fail
    · exact .fail
  · exact bin_ok hH hC op T _ _ vx vy x y hx hy
end
end Go.Proofs.EV
set_option linter.unusedVariables false
set_option linter.unusedSimpArgs false
set_option linter.unusedSectionVars false
namespace Go.Proofs.EV
open Go Go.RowKit
variable [Dr]

section
variable {P : Program} {base s m : Nat} {w : World} {L : Lks} {H : List Ob} {C : Cfg} {sm : Sem Value}

/-- The operations that call no function. -/
def plainOp : Op → Bool
  | .call c => match c.callee with
    | .builtin _ => true
    | _ => false
  | _ => true

theorem min_ok (hH : HRel w base L H) (ts : Array TypeId) (ty : TypeId) {fr fr' : Bool} {k k' : IntKind} {a b : Int} {vx vy : Value} (hx : VRel w (okW w L H) base L (.one fr (.int k a)) vx) (hy : VRel w (okW w L H) base L (.one fr' (.int k' b)) vy) :
    OpOk P base s m w L H (if k = k' then .ret (vint k (min a b)) else .fail) (Builtin.min_ ts ty #[vx, vy]) := by
  rw [hx.int_inv, hy.int_inv]
  split
  · refine .ret hH ?_ (vint_rel _ _)
    simp only [Builtin.min_, List.foldlM, Builtin.min2]
    simp
    omega
  · exact .fail
theorem max_ok (hH : HRel w base L H) (ts : Array TypeId) (ty : TypeId) {fr fr' : Bool} {k k' : IntKind} {a b : Int} {vx vy : Value} (hx : VRel w (okW w L H) base L (.one fr (.int k a)) vx) (hy : VRel w (okW w L H) base L (.one fr' (.int k' b)) vy) :
    OpOk P base s m w L H (if k = k' then .ret (vint k (max a b)) else .fail) (Builtin.max_ ts ty #[vx, vy]) := by
  rw [hx.int_inv, hy.int_inv]
  split
  · refine .ret hH ?_ (vint_rel _ _)
    simp only [Builtin.max_, List.foldlM, Builtin.max2]
    simp
    omega
  · exact .fail

theorem list_rel {ρ : Operand → V} {ρc : Operand → Value} {ok : Nat → Prop} (hρ : ∀ x, VRel w ok base L (ρ x) (ρc x)) (xs : List Operand) : CsRel w ok base L (xs.map ρ) (xs.map ρc).toArray := by
  refine ⟨by simp, fun i hi => ?_⟩
  have hi' : i < xs.length := by simpa using hi
  rw [getD_of_lt hi, agetD_of_lt (by simpa using hi')]
  simpa using hρ xs[i]

theorem ps_rel {ρ : Operand → V} {ρc : Operand → Value} {ok : Nat → Prop} (hρ : ∀ x, VRel w ok base L (ρ x) (ρc x)) : ∀ (xs : List (Nat × Operand)), Ps (VRel w ok base L) (xs.map fun p => (p.1, ρ p.2)) (xs.map fun p => (p.1, ρc p.2))
  | [] => .nil
  | p :: xs => .cons p.1 (hρ p.2) (ps_rel hρ xs)

theorem opt_rel {ρ : Operand → V} {ρc : Operand → Value} {R : V → Value → Prop} (hρ : ∀ x, R (ρ x) (ρc x)) (x : Option Operand) : OptRel R (x.map ρ) (x.map ρc) := by
  cases x with
  | none => exact .none
  | some x => exact .some (hρ x)

/-- What an operation that calls nothing yields. -/
structure OpN (P : Program) (base s m : Nat) (w : World) (L : Lks) (H : List Ob) (prog : HM V) (sem : Sem Next) : Prop where
  out : ∀ (R : Type) (c : V → List Ob → Option R) (r : R), prog.run H c = some r →
    ∃ v H' vc w' L', c v H' = some r ∧ (sem.run P w = .ok (.value vc) w' ∨ (sem.run P w = .ok .skip w' ∧ vc = undef)) ∧ Ext base s m w L H w' L' H' ∧ HRel w' base L' H' ∧ VRel w' (okW w' L' H') base L' v vc

theorem OpOk.n {prog : HM V} (h : OpOk P base s m w L H prog sm) : OpN P base s m w L H prog (do pure (.value (← sm))) :=
  ⟨fun R c r hr => by
    obtain ⟨v, H', vc, w', L', h1, h2, h3⟩ := h.out R c r hr
    exact ⟨v, H', vc, w', L', h1, .inl (by rw [Sem.run_bind, h2]; rfl), h3⟩⟩
theorem OpOk.u {prog : HM V} {su : Sem Unit} (h : OpOk P base s m w L H prog (do su; pure (.tuple #[]))) : OpN P base s m w L H prog (do su; pure .skip) :=
  ⟨fun R c r hr => by
    obtain ⟨v, H', vc, w', L', h1, h2, h3⟩ := h.out R c r hr
    rw [Sem.run_bind] at h2
    cases e : su.run P w with
    | ok u w1 =>
      rw [e] at h2
      cases h2
      exact ⟨v, H', _, w', L', h1, .inr ⟨by rw [Sem.run_bind, e]; rfl, rfl⟩, h3⟩
    | halt x w1 => rw [e] at h2; cases h2⟩
theorem OpN.fail {sem : Sem Next} : OpN P base s m w L H .fail sem := ⟨fun _ _ _ h => by cases h⟩
theorem OpN.ret (hH : HRel w base L H) {v : V} {vc : Value} (hv : VRel w (okW w L H) base L v vc) : OpN P base s m w L H (.ret v) (pure (.value vc)) :=
  ⟨fun _ _ _ h => ⟨v, H, vc, w, L, h, .inl rfl, Ext.refl .., hH, hv⟩⟩

theorem args1 {ok : Nat → Prop} {x : V} {vargs : Array Value} (h : CsRel w ok base L [x] vargs) : vargs = #[vargs.getD 0 undef] ∧ VRel w ok base L x (vargs.getD 0 undef) := by
  refine ⟨?_, h.2 0 (by simp)⟩
  apply Array.ext
  · simpa using h.1
  · intro i h2 h3
    have : i = 0 := by simp at h3; exact h3
    subst this
    rw [agetD_of_lt h2]; rfl
theorem args2 {ok : Nat → Prop} {x y : V} {vargs : Array Value} (h : CsRel w ok base L [x, y] vargs) : vargs = #[vargs.getD 0 undef, vargs.getD 1 undef] ∧ VRel w ok base L x (vargs.getD 0 undef) ∧ VRel w ok base L y (vargs.getD 1 undef) := by
  refine ⟨?_, h.2 0 (by simp), h.2 1 (by simp)⟩
  have hs : vargs.size = 2 := by simpa using h.1
  apply Array.ext
  · simpa using hs
  · intro i h2 h3
    have : i = 0 ∨ i = 1 := by simp at h3; omega
    rcases this with rfl | rfl
    · rw [agetD_of_lt h2]; rfl
    · rw [agetD_of_lt h2]; rfl

theorem builtin_ok (hH : HRel w base L H) (hC : CfgOk P C) (hb : base ≤ w.heap.size) {b : Builtin} {ts : Array TypeId} {ty : TypeId} {cs : Array Bool} {args : List V} {vargs : Array Value}
    (hs : b = .append → s < H.length ∧ 0 < m ∧ L s = none) (hargs : CsRel w (okW w L H) base L args vargs) :
    OpN P base s m w L H (builtinHM C b ts.toList args s) (builtin b ts ty cs vargs) := by
  unfold builtinHM
  split
  · split
    · rename_i t tl x hts
      obtain ⟨e1, hx⟩ := args1 hargs
      rw [e1]
      have hsz : 0 < ts.size := by rw [← Array.length_toList, hts]; simp
      have := len_ok (s := s) (m := m) hH hC ts ty hx hsz
      rw [hts] at this
      exact this.n
    · exact .fail
  · split
    · rename_i t u tl x y hts
      obtain ⟨h1, h2, h3⟩ := hs rfl
      obtain ⟨e1, hx, hy⟩ := args2 hargs
      rw [e1]
      have hsz : 1 < ts.size := by rw [← Array.length_toList, hts]; simp
      cases en : C.nst t with
      | false =>
        have := append_ok (s := s) (m := m) hH hC h1 h2 h3 hb ts ty hsz hx hy
        rw [hts] at this
        exact this.n
      | true =>
        have := appendN_ok (s := s) (m := m) hH hC h1 h2 h3 hb ts ty hsz hx hy
        rw [hts] at this
        exact this.n
    · exact .fail
  · split
    · obtain ⟨e1, hx, hy⟩ := args2 hargs
      rw [e1]
      exact (min_ok hH ts ty hx hy).n
    · exact .fail
  · split
    · obtain ⟨e1, hx, hy⟩ := args2 hargs
      rw [e1]
      exact (max_ok hH ts ty hx hy).n
    · exact .fail
  · split
    · rename_i t tl x hts
      obtain ⟨e1, hx⟩ := args1 hargs
      rw [e1]
      have hsz : 0 < ts.size := by rw [← Array.length_toList, hts]; simp
      have := clear_ok (s := s) (m := m) hH hC ts ty hx hsz
      rw [hts] at this
      exact this.n
    · exact .fail
  · exact .fail

theorem unOp_ok (hH : HRel w base L H) (op : UnOp) {x : V} {vx : Value} (hx : VRel w (okW w L H) base L x vx) :
    OpOk P base s m w L H (unHM op x) (Op.unary op vx) := by
  unfold unHM
  split
  · rw [hx.bool_inv]
    exact .ret hH rfl (vbool_rel _)
  · rw [hx.int_inv]
    exact .ret hH (by simp [Op.unary, Op.intArith]) (vint_rel _ _)
  · exact .fail

theorem extract_ok (hH : HRel w base L H) {x : V} {vx : Value} (hx : VRel w (okW w L H) base L x vx) (i : Nat) :
    OpOk P base s m w L H (extractHM x i) (Instr.extract vx i) := by
  unfold extractHM
  split
  · cases hx with
    | tup cs arr hl h =>
      refine .retO hH fun v hv => ?_
      obtain ⟨hi, rfl⟩ := List.getElem?_eq_some_iff.1 hv
      have h1 := h i hi
      rw [getD_of_lt hi, agetD_of_lt (by omega)] at h1
      exact ⟨_, by simp [Instr.extract, Array.getElem?_eq_getElem (by omega : i < arr.size)], h1⟩
  · exact .fail

theorem move_ok (hH : HRel w base L H) {x : V} {vx : Value} (hx : VRel w (okW w L H) base L x vx) (ty : TypeId) :
    OpN P base s m w L H (moveHM C ty x) (pure (.value vx)) := by
  unfold moveHM
  split
  · cases hx with
    | nils => split <;> exact .ret hH (.nils _)
  · exact .ret hH hx

theorem nilCheck_ok (hH : HRel w base L H) {ρ : Operand → V} {ρc : Operand → Value} {x : Operand} (hx : VRel w (okW w L H) base L (ρ x) (ρc x)) (dst : Option Tmp) (type : TypeId) (pos : _) (after : _) (guard : _) :
    OpN P base s m w L H (nilCheckHM (ρ x)) (execOp ρc ⟨dst, .nilCheck x, type, pos, after, guard⟩) := by
  simp only [execOp]
  generalize ρ x = y at hx ⊢
  generalize ρc x = vy at hx ⊢
  cases hx with
  | rp id o lk b hl hb => exact .ret hH (.rp id o lk b hl hb)
  | re id i j lk b hl hb hi => exact .ret hH (.re id i j lk b hl hb hi)
  | pe fr sz es i j b off cv hok h1 h2 => exact .ret hH (.pe fr sz es i j b off cv hok h1 h2)
  | fnv f a b va vb ha hb h1 h2 => exact .ret hH (.fnv f a b va vb ha hb h1 h2)
  | one fr d v hd =>
    cases hd with
    | pt cs b off cv hok h1 h2 => exact .ret hH (.one _ _ _ (.pt cs b off cv hok h1 h2))
    | fn f a b va vb ha hb h1 h2 => exact .ret hH (.one _ _ _ (.fn f a b va vb ha hb h1 h2))
    | _ => exact .fail
  | _ => exact .fail

theorem resolve_builtin {ρc : Operand → Value} {c : Call} {b : Builtin} (hc : c.callee = .builtin b) (type : TypeId) : ∃ cs, resolve ρc c type = pure { target := .builtin b c.argTypes type cs, args := c.args.map ρc } := by
  unfold resolve
  rw [hc]
  exact ⟨_, rfl⟩

/-- Every operation that calls no function. -/
theorem plain_ok (hH : HRel w base L H) (hC : CfgOk P C) (hb : base ≤ w.heap.size) {o : Oper} (hp : plainOp o.op = true) {ρ : Operand → V} {ρc : Operand → Value} (hρ : ∀ x, VRel w (okW w L H) base L (ρ x) (ρc x))
    (hs : s + need C o.op o.type ≤ H.length) (hf : ∀ id, s ≤ id → id < s + need C o.op o.type → L id = none) :
    OpN P base s (need C o.op o.type) w L H (opHM C o.op o.type ρ s) (execOp ρc o) := by
  obtain ⟨dst, op, type, pos, after, guard⟩ := o
  dsimp only at hp hs hf ⊢
  have hs1 : ∀ n, need C op type = n + 1 → s < H.length ∧ 0 < need C op type ∧ L s = none := fun n h => ⟨by omega, by omega, hf s (Nat.le_refl _) (by omega)⟩
  cases op <;> simp only [opHM] <;> try exact .fail
  case move x => exact move_ok hH (hρ x) type
  case assign x => exact move_ok hH (hρ x) type
  case pick c a b =>
    split
    · rename_i fr c' hc
      have h1 := hρ c
      rw [hc] at h1
      have := (pick_ok (P := P) (s := s) (m := need C (.pick c a b) type) hH c' _ _ _ _ (hρ a) (hρ b)).n
      refine ⟨fun R k r hr => ?_⟩
      obtain ⟨v, H', vc, w', L', q1, q2, q3⟩ := this.out R k r hr
      refine ⟨v, H', vc, w', L', q1, ?_, q3⟩
      simp only [execOp]
      rw [h1.bool_inv]
      simpa [asBool] using q2
    · exact .fail
  case alloc T =>
    obtain ⟨h1, h2, h3⟩ := hs1 0 rfl
    split
    · exact .fail
    · rename_i h
      have hk := known_of_pos hC h
      obtain ⟨i, z, i1, i2, i3, i4, i5, i6, _⟩ := ((hC T).1 hk).i
      have := (newVar_ok (P := P) (m := need C (.alloc T) type) hH hC hk h1 h2 h3 hb (vc := z) (zeros_rel (T := T) i5)).n
      refine ⟨fun R k r hr => ?_⟩
      obtain ⟨v, H', vc, w', L', q1, q2, q3⟩ := this.out R k r hr
      refine ⟨v, H', vc, w', L', q1, ?_, q3⟩
      have e : (execOp ρc ⟨dst, .alloc T, type, pos, after, guard⟩).run P w = ((do let v ← (do pure (.pointer (some (← newVar T z)))); pure (.value v)) : Sem Next).run P w := by
        simp [execOp, Instr.alloc, zeroValue, typeInfo, i1, i4]
      rw [e]; exact q2
  case box T x =>
    obtain ⟨h1, h2, h3⟩ := hs1 0 rfl
    split
    · exact .fail
    · rename_i h
      have hk := known_of_pos hC h
      by_cases hc0 : 0 < (cellsOf (ρ x)).length
      · exact (newVar_ok (P := P) (m := need C (.box T x) type) hH hC hk h1 h2 h3 hb ((hρ x).cells hc0)).n
      · have e0 : cellsOf (ρ x) = [] := List.length_eq_zero_iff.1 (by omega)
        rw [e0]
        unfold newVarHM
        split
        · rename_i n e hk2
          split
          · rename_i hh
            obtain ⟨g1, g2, g3⟩ := hh
            have g4 : 0 < n * (C.ty e).size := Nat.mul_pos g1 g2
            have g5 : 0 = n * (C.ty e).size := g3
            omega
          · exact .fail
        · split
          · rename_i hh
            simp at hh
            omega
          · exact .fail
  case build T ps =>
    have := (build_ok (P := P) (s := s) (m := need C (.build T ps) type) hH hC T (ps_rel hρ ps.toList)).n
    have e : (ps.toList.map fun p => (p.1, ρc p.2)).toArray = ps.map fun (i, x) => (i, ρc x) := by apply Array.ext'; simp
    rw [e] at this
    exact this
  case buildSlice T n ps =>
    obtain ⟨h1, h2, h3⟩ := hs1 0 rfl
    have e : (ps.toList.map fun p => (p.1, ρc p.2)).toArray = ps.map fun (i, x) => (i, ρc x) := by apply Array.ext'; simp
    cases en : C.nst T with
    | false =>
      have := (buildSlice_ok (P := P) (s := s) (m := need C (.buildSlice T n ps) type) hH hC h1 h2 h3 hb T n (ps_rel hρ ps.toList)).n
      rw [e] at this
      exact this
    | true =>
      have := (buildN_ok (P := P) (s := s) (m := need C (.buildSlice T n ps) type) hH hC h1 h2 h3 hb T n (ps_rel hρ ps.toList)).n
      rw [e] at this
      exact this
  case load T x =>
    split
    · exact .fail
    · rename_i h
      cases e : C.nst T with
      | false => exact (load_ok hH hC (known_of_pos hC h) (hρ x)).n
      | true =>
        obtain ⟨h1, h2, h3⟩ := hs1 0 (by simp [need, e])
        exact (loadN_ok hH hC (known_of_pos hC h) h1 h2 h3 (hρ x)).n
  case store T x y =>
    split
    · exact .fail
    · rename_i h
      cases e : C.nst T with
      | false => exact (store_ok hH hC (known_of_pos hC h) (hρ x) (hρ y)).u
      | true => exact (storeN_ok hH hC (known_of_pos hC h) (hρ x) (hρ y)).u
  case nilCheck x => exact nilCheck_ok hH (hρ x) dst type pos after guard
  case binOp op T x y pos => exact (binA_ok hH hC op T _ _ _ _ x y (hρ x) (hρ y)).n
  case unOp op T x => exact (unOp_ok hH op (hρ x)).n
  case convert S T x =>
    obtain ⟨h1, h2, h3⟩ := hs1 0 rfl
    exact (conv_ok hH hC h1 h2 h3 hb S T (hρ x)).n
  case makeFunc f a b =>
    split
    · rename_i g
      have ha := list_rel hρ a.toList
      have hbb := list_rel hρ b.toList
      have e1 : (a.toList.map ρc).toArray = a.map ρc := by apply Array.ext'; simp
      have e2 : (b.toList.map ρc).toArray = b.map ρc := by apply Array.ext'; simp
      rw [e1] at ha
      rw [e2] at hbb
      refine ⟨fun R k r hr => ⟨_, H, .func (.func g) (a.map ρc) (b.map ρc), w, L, hr, .inl rfl, Ext.refl .., hH, .fnv g _ _ _ _ ha.1 hbb.1 ha.2 hbb.2⟩⟩
    · exact .fail
  case makeMap T r =>
    cases r with
    | some r => exact .fail
    | none =>
      obtain ⟨h1, h2, h3⟩ := hs1 0 rfl
      exact (makeMap_ok hH hC h1 h2 h3 hb T).n
  case mapUpdate T x k v => exact (mapUpdate_ok hH hC T (hρ x) (hρ k) (hρ v)).u
  case insert T x k v => exact (mapUpdate_ok hH hC T (hρ x) (hρ k) (hρ v)).u
  case lookup T x k ok => exact (lookup_ok hH hC T (hρ x) (hρ k) ok).n
  case makeSlice T x y =>
    obtain ⟨h1, h2, h3⟩ := hs1 0 rfl
    cases e : C.nst T with
    | false => exact (makeSlice_ok hH hC h1 h2 h3 hb T (hρ x) (hρ y)).n
    | true => exact (makeN_ok hH hC h1 h2 h3 hb T (hρ x) (hρ y)).n
  case slice T x lo hi mx => exact (slice_ok hH hC T (hρ x) (opt_rel hρ lo) (opt_rel hρ hi) (opt_rel hρ mx)).n
  case fieldAddr T x f => exact (fieldAddr_ok hH hC T f (hρ x)).n
  case field T x f => exact (field_ok hH hC T f (hρ x)).n
  case indexAddr T x i => exact (indexAddr_ok hH hC T (hρ x) (hρ i)).n
  case index T x i => exact (index_ok hH hC T (hρ x) (hρ i)).n
  case extract x i => exact (extract_ok hH (hρ x) i).n
  case call c =>
    cases hc : c.callee with
    | builtin b =>
      have ha := list_rel hρ c.args.toList
      have e1 : (c.args.toList.map ρc).toArray = c.args.map ρc := by apply Array.ext'; simp
      rw [e1] at ha
      obtain ⟨cs, e⟩ : ∃ cs, (execOp ρc ⟨dst, .call c, type, pos, after, guard⟩).run P w = (builtin b c.argTypes type cs (c.args.map ρc)).run P w := by
        obtain ⟨cs, hr⟩ := resolve_builtin (ρc := ρc) hc type
        exact ⟨cs, by simp only [execOp, hr]; rfl⟩
      have := builtin_ok (P := P) (s := s) (m := need C (.call c) type) (b := b) (ts := c.argTypes) (ty := type) (cs := cs) hH hC hb (fun hb => hs1 0 (by simp only [need, hc, hb])) ha
      refine ⟨fun R k r hr => ?_⟩
      obtain ⟨v, H', vc, w', L', q1, q2, q3⟩ := this.out R k r hr
      refine ⟨v, H', vc, w', L', q1, ?_, q3⟩
      rw [e]; exact q2
    | value f => simp [plainOp, hc] at hp
    | invoke x n => simp [plainOp, hc] at hp
end
end Go.Proofs.EV
set_option linter.unusedVariables false
set_option linter.unusedSimpArgs false
set_option linter.unusedSectionVars false
namespace Go.Proofs.EV
open Go Go.RowKit
variable [Dr]

/-! ### What is handed to a callee -/
def QRel (w : World) (ok : Nat → Prop) : Q → Value → Prop
  | .one d, v => CRel w ok d v
  | .agg cs, v => ∃ arr, v = .agg arr ∧ arr.size = cs.length ∧ ∀ i, i < cs.length → CRel w ok (cs.getD i .nilp) (arr.getD i undef)

section
variable {P : Program} {base s m : Nat} {w : World} {L : Lks} {H : List Ob} {C : Cfg}

theorem mapRun {α β γ R : Type} {f : α → (β → HM γ) → HM γ} (rel : β → Nat → Prop) {c : γ → List Ob → Option R} {r : R} : ∀ (vs : List α) (o : Nat) (h : ∀ i (hi : i < vs.length) (k : β → HM γ), (f vs[i] k).run H c = some r → ∃ d, (k d).run H c = some r ∧ rel d (o + i)) (k : List β → HM γ),
    (mapHM f vs k).run H c = some r → ∃ ds : List β, ds.length = vs.length ∧ (∀ i (hi : i < ds.length), rel ds[i] (o + i)) ∧ (k ds).run H c = some r
  | [], o, h, k, hr => ⟨[], rfl, fun i hi => by simp at hi, hr⟩
  | v :: vs, o, h, k, hr => by
    obtain ⟨d, h1, h2⟩ := h 0 (by simp) _ hr
    obtain ⟨ds, k1, k2, k3⟩ := mapRun rel vs (o + 1) (fun i hi k hk => by
      obtain ⟨d, q1, q2⟩ := h (i + 1) (by simpa using hi) k hk
      exact ⟨d, q1, by rw [show o + 1 + i = o + (i + 1) by omega]; exact q2⟩) _ h1
    refine ⟨d :: ds, by simp [k1], fun i hi => ?_, k3⟩
    cases i with
    | zero => exact h2
    | succ i =>
      have := k2 i (by simpa using hi)
      rw [show o + 1 + i = o + (i + 1) by omega] at this
      exact this

theorem okS_lt {fr : Bool} : ∀ b, okS (okW w L H) base fr b → b < w.heap.size := fun b hb => hb.1.1

theorem snap_run {R γ : Type} {c : γ → List Ob → Option R} {r : R} (hH : HRel w base L H) : ∀ (n : Nat) (v : V) (vc : Value) (hv : VRel w (okW w L H) base L v vc) (k : D → HM γ), (snap n v k).run H c = some r → ∃ d, (k d).run H c = some r ∧ CRel w (fun b => b < w.heap.size) d vc := by
  intro n
  have base1 : ∀ (n : Nat) (v : V) (vc : Value) (hv : VRel w (okW w L H) base L v vc) (k : D → HM γ), (snap n v k).run H c = some r →
      (∀ id off, v = .rp id off → False) → (∀ f a b, v = .fnv f a b → False) → ∃ d, (k d).run H c = some r ∧ CRel w (fun b => b < w.heap.size) d vc := by
    intro n v vc hv k hr h1 h2
    cases hv with
    | one fr d _ hd => simp only [snap] at hr; exact ⟨d, hr, hd.mono okS_lt⟩
    | nils sz => simp only [snap] at hr; exact ⟨_, hr, .sl0 ..⟩
    | rw id lk hl =>
      simp only [snap, HM.run] at hr
      cases e : obj H id with
      | row arr sz es =>
        have e' : H.getD id .dead = .row arr sz es := e
        rw [e'] at hr
        refine ⟨_, hr, ?_⟩
        obtain ⟨g1, g2, g3, g4⟩ := hH.row e hl
        cases eb : lk.b with
        | none =>
          rw [eb] at g4
          rw [g4.1, g2, g4.1]
          exact .sl0 ..
        | some b =>
          rw [eb] at g4
          have hb := hH.rng id lk b (by rw [e]; rfl) hl eb
          have g5 : RowRel w (fun b => b < w.heap.size) b sz es lk.cap := by
            obtain ⟨cs, T, fr, q1, q2, q3, q4, q5⟩ := g4
            exact ⟨cs, T, fr, q1, q2, q3, q4, fun i j hi hj => by
              obtain ⟨v, e1, e2⟩ := q5 i j hi hj
              exact ⟨v, e1, e2.mono okS_lt⟩⟩
          have := row_sub g5 hb.2 (off := 0) (len := es.length) (by omega) lk.cap (by obtain ⟨_, _, _, _, _, q, _⟩ := g5; exact q)
          simpa [g2] using this
      | box cs => have e' : H.getD id .dead = .box cs := e; rw [e'] at hr; cases hr
      | mp cs => have e' : H.getD id .dead = .mp cs := e; rw [e'] at hr; cases hr
      | iter s p => have e' : H.getD id .dead = .iter s p := e; rw [e'] at hr; cases hr
      | nest a1 a2 a3 => have e' : H.getD id .dead = .nest a1 a2 a3 := e; rw [e'] at hr; cases hr
      | dead => have e' : H.getD id .dead = .dead := e; rw [e'] at hr; cases hr
    | rs id off len lk a c' hl hn hc ha ha0 hcc =>
      simp only [snap, HM.run] at hr
      cases e : obj H id with
      | row arr sz es =>
        have e' : H.getD id .dead = .row arr sz es := e
        rw [e'] at hr
        refine ⟨_, hr, ?_⟩
        obtain ⟨g1, g2, g3, g4⟩ := hH.row e hl
        rcases Nat.eq_zero_or_pos len with rfl | hpos
        · simp only [List.take_zero]; exact .sl0 ..
        · obtain ⟨b, eb, rfl⟩ := ha hpos
          rw [eb] at g4
          have hb := hH.rng id lk b (by rw [e]; rfl) hl eb
          have g5 : RowRel w (fun b => b < w.heap.size) b sz es lk.cap := by
            obtain ⟨cs, T, fr, q1, q2, q3, q4, q5⟩ := g4
            exact ⟨cs, T, fr, q1, q2, q3, q4, fun i j hi hj => by
              obtain ⟨v, e1, e2⟩ := q5 i j hi hj
              exact ⟨v, e1, e2.mono okS_lt⟩⟩
          rw [g1]
          exact row_sub g5 hb.2 (by omega) c' hc
      | box cs => have e' : H.getD id .dead = .box cs := e; rw [e'] at hr; cases hr
      | mp cs => have e' : H.getD id .dead = .mp cs := e; rw [e'] at hr; cases hr
      | iter s p => have e' : H.getD id .dead = .iter s p := e; rw [e'] at hr; cases hr
      | nest a1 a2 a3 => have e' : H.getD id .dead = .nest a1 a2 a3 := e; rw [e'] at hr; cases hr
      | dead => have e' : H.getD id .dead = .dead := e; rw [e'] at hr; cases hr
    | rm id lk b hl hb =>
      simp only [snap, HM.run] at hr
      cases e : obj H id with
      | mp es =>
        have e' : H.getD id .dead = .mp es := e
        rw [e'] at hr
        refine ⟨_, hr, ?_⟩
        have hbr := hH.rng id lk b (by rw [e]; rfl) hl hb
        obtain ⟨lk', h1, h2⟩ := hH.ob id (by rw [e]; rfl)
        rw [hl] at h1; cases h1
        rw [e] at h2
        obtain ⟨rr, clock, ms, q0, q1, q2, q3, q4, q4a, q4b, q5, q6⟩ := h2
        rw [hb] at q0; cases q0
        exact .mp es b clock ms hbr.2 q1 q2 q3 (fun i j hi hj => (q4 i j hi hj).mono okS_lt) q4a q4b q5 (fun i j hi hj => (q6 i j hi hj).mono okS_lt)
      | box cs => have e' : H.getD id .dead = .box cs := e; rw [e'] at hr; cases hr
      | row a b cs => have e' : H.getD id .dead = .row a b cs := e; rw [e'] at hr; cases hr
      | iter s p => have e' : H.getD id .dead = .iter s p := e; rw [e'] at hr; cases hr
      | nest a1 a2 a3 => have e' : H.getD id .dead = .nest a1 a2 a3 := e; rw [e'] at hr; cases hr
      | dead => have e' : H.getD id .dead = .dead := e; rw [e'] at hr; cases hr
    | rp id off => exact (h1 _ _ rfl).elim
    | fnv f a b => exact (h2 _ _ _ rfl).elim
    | agg => simp only [snap] at hr; cases hr
    | tup => simp only [snap] at hr; cases hr
    | re id i j lk b hl hb hi =>
      by_cases h0 : i = 0 ∧ j = 0
      · obtain ⟨rfl, rfl⟩ := h0
        simp only [snap, HM.run] at hr
        cases e : obj H id with
        | row arr sz es =>
          have e' : H.getD id .dead = .row arr sz es := e
          rw [e'] at hr
          refine ⟨_, hr, ?_⟩
          obtain ⟨g1, g2, g3, g4⟩ := hH.row e hl
          rw [hb] at g4
          have hbr := hH.rng id lk b (by rw [e]; rfl) hl hb
          obtain ⟨cs, T, fr, q1, q2, q3, q4, q5⟩ := g4
          have hlen : (rowCells sz es).length = es.length * sz := by simp [rowCells]
          have hdiv : ∀ t, t < es.length * sz → t / sz < es.length ∧ t % sz < sz ∧ t / sz * sz + t % sz = t := fun t ht =>
            ⟨(Nat.div_lt_iff_lt_mul g3).2 ht, Nat.mod_lt _ g3, by rw [Nat.mul_comm]; exact Nat.div_add_mod t sz⟩
          rw [show (0 : Nat) * lk.sz + 0 = 0 by simp]
          refine .pt (rowCells sz es) b 0 (fun t => cs.getD t undef) hbr.2 (fun t ht => ?_) (fun t ht => ?_)
          · rw [hlen] at ht
            obtain ⟨d1, d2, d3⟩ := hdiv t ht
            obtain ⟨v, e1, e2⟩ := q5 (t / sz) (t % sz) d1 d2
            rw [d3] at e1
            rw [Nat.zero_add, Array.getD_eq_getD_getElem?, e1]
            simp [World.cell?, q1, e1]
          · rw [hlen] at ht
            obtain ⟨d1, d2, d3⟩ := hdiv t ht
            obtain ⟨v, e1, e2⟩ := q5 (t / sz) (t % sz) d1 d2
            rw [d3] at e1
            rw [Array.getD_eq_getD_getElem?, e1]
            have e3 : (rowCells sz es).getD t .nilp = cellD es (t / sz) (t % sz) := by
              rw [getD_of_lt (by rw [hlen]; exact ht)]
              simp [rowCells]
            rw [e3]
            exact e2.mono okS_lt
        | box cs => have e' : H.getD id .dead = .box cs := e; rw [e'] at hr; cases hr
        | mp cs => have e' : H.getD id .dead = .mp cs := e; rw [e'] at hr; cases hr
        | iter s p => have e' : H.getD id .dead = .iter s p := e; rw [e'] at hr; cases hr
        | nest a1 a2 a3 => have e' : H.getD id .dead = .nest a1 a2 a3 := e; rw [e'] at hr; cases hr
        | dead => have e' : H.getD id .dead = .dead := e; rw [e'] at hr; cases hr
      · exfalso
        match i, j, h0 with
        | 0, 0, h0 => exact h0 ⟨rfl, rfl⟩
        | 0, _ + 1, _ => simp only [snap] at hr; cases hr
        | _ + 1, _, _ => simp only [snap] at hr; cases hr
    | pe => simp only [snap] at hr; cases hr
    | rit => simp only [snap] at hr; cases hr
    | undef => simp only [snap] at hr; cases hr
  induction n with
  | zero =>
    intro v vc hv k hr
    refine base1 0 v vc hv k hr (fun id off e => ?_) (fun f a b e => ?_)
    · subst e; simp only [snap] at hr; cases hr
    · subst e; simp only [snap] at hr; cases hr
  | succ n ih =>
    intro v vc hv k hr
    by_cases h1 : ∃ id off, v = .rp id off
    · obtain ⟨id, off, rfl⟩ := h1
      cases hv with
      | rp _ _ lk b hl hb =>
        simp only [snap, HM.run] at hr
        cases e : obj H id with
        | box cs =>
          have e' : H.getD id .dead = .box cs := e
          rw [e'] at hr
          obtain ⟨arr, T, fr, q1, q2, q3⟩ := hH.box e hl hb
          have hbr := hH.rng id lk b (by rw [e]; rfl) hl hb
          obtain ⟨ds, k1, k2, k3⟩ := mapRun (fun d i => CRel w (fun b => b < w.heap.size) d (arr.getD (off + i) undef)) (cs.drop off) 0 (fun i hi k hk => by
            have hlt : off + i < cs.length := by simp at hi; omega
            have h5 := q3.2 (off + i) hlt
            rw [getD_of_lt hlt] at h5
            have e5 : (cs.drop off)[i] = cs[off + i] := by simp
            rw [e5] at hk
            have := ih _ _ h5 k hk
            simpa using this) _ hr
          refine ⟨.pt ds, k3, .pt ds b off (fun j => arr.getD (off + j) undef) hbr.2 (fun j hj => ?_) (fun j hj => ?_)⟩
          · have : off + j < arr.size := by rw [q3.1]; simp at k1; omega
            simp [World.cell?, q1, Array.getD, this]
          · have := k2 j hj
            rw [getD_of_lt hj]
            simpa using this
        | mp cs => have e' : H.getD id .dead = .mp cs := e; rw [e'] at hr; cases hr
        | row a b cs => have e' : H.getD id .dead = .row a b cs := e; rw [e'] at hr; cases hr
        | iter s p => have e' : H.getD id .dead = .iter s p := e; rw [e'] at hr; cases hr
        | nest a1 a2 a3 => have e' : H.getD id .dead = .nest a1 a2 a3 := e; rw [e'] at hr; cases hr
        | dead => have e' : H.getD id .dead = .dead := e; rw [e'] at hr; cases hr
    · by_cases h2 : ∃ f a b, v = .fnv f a b
      · obtain ⟨f, a, b, rfl⟩ := h2
        cases hv with
        | fnv _ _ _ va vb ha hb g1 g2 =>
          simp only [snap] at hr
          obtain ⟨da, k1, k2, k3⟩ := mapRun (fun d i => CRel w (fun b => b < w.heap.size) d (va.getD i undef)) a 0 (fun i hi k hk => by
            have h5 := g1 i hi
            rw [getD_of_lt hi] at h5
            have := ih _ _ h5 k hk
            simpa using this) _ hr
          obtain ⟨db, l1, l2, l3⟩ := mapRun (fun d i => CRel w (fun b => b < w.heap.size) d (vb.getD i undef)) b 0 (fun i hi k hk => by
            have h5 := g2 i hi
            rw [getD_of_lt hi] at h5
            have := ih _ _ h5 k hk
            simpa using this) _ k3
          refine ⟨.fn f da db, l3, .fn f da db va vb (by omega) (by omega) (fun j hj => ?_) (fun j hj => ?_)⟩
          · rw [getD_of_lt hj]; have := k2 j hj; simpa using this
          · rw [getD_of_lt hj]; have := l2 j hj; simpa using this
      · exact base1 (n + 1) v vc hv k hr (fun id off e => h1 ⟨id, off, e⟩) (fun f a b e => h2 ⟨f, a, b, e⟩)

theorem snapQ_run {R γ : Type} {c : γ → List Ob → Option R} {r : R} (hH : HRel w base L H) {v : V} {vc : Value} (hv : VRel w (okW w L H) base L v vc) (k : Q → HM γ) (hr : (snapQ v k).run H c = some r) : ∃ q, (k q).run H c = some r ∧ QRel w (fun b => b < w.heap.size) q vc := by
  unfold snapQ at hr
  split at hr
  · rename_i cs
    obtain ⟨arr, rfl, hcs⟩ := hv.agg_inv
    obtain ⟨ds, k1, k2, k3⟩ := mapRun (fun d i => CRel w (fun b => b < w.heap.size) d (arr.getD i undef)) cs 0 (fun i hi k hk => by
      have h5 := hcs.2 i hi
      rw [getD_of_lt hi] at h5
      have := snap_run hH 8 _ _ h5 k hk
      simpa using this) _ hr
    refine ⟨.agg ds, k3, arr, rfl, by rw [hcs.1, k1], fun i hi => ?_⟩
    rw [getD_of_lt hi]; have := k2 i hi; simpa using this
  · obtain ⟨d, h1, h2⟩ := snap_run hH 8 _ _ hv _ hr
    exact ⟨.one d, h1, h2⟩

/-! ### What comes back -/
inductive Res (w' : World) (ok : Nat → Prop) (b0 : Nat) : List RK → List Q → List Value → List (Option Nat) → Prop where
  | nil : Res w' ok b0 [] [] [] []
  | one (l : LK) {d : D} {v : Value} (h : CRel w' ok d v) {rs qs vs bs} (t : Res w' ok b0 rs qs vs bs) : Res w' ok b0 (.one l :: rs) (.one d :: qs) (v :: vs) bs
  | own (sz : Nat) (es : List (List D)) (cap : Nat) (b : Option Nat) (h0 : 0 < sz) (hb : match b with | none => es = [] ∧ cap = 0 | some b => b0 ≤ b ∧ b < w'.heap.size ∧ RowRel w' ok b sz es cap)
      {rs qs vs bs} (t : Res w' ok b0 rs qs vs bs) : Res w' ok b0 (.own sz :: rs) (.one (.sl sz es) :: qs) (.slice (b.map fun b => ⟨b, 0, none⟩) es.length cap :: vs) (b :: bs)
  | agg (ls : List LK) (ds : List D) (arr : Array Value) (hl : arr.size = ds.length) (hs : ls.length = ds.length) (h : ∀ i, i < ds.length → CRel w' ok (ds.getD i .nilp) (arr.getD i undef))
      {rs qs vs bs} (t : Res w' ok b0 rs qs vs bs) : Res w' ok b0 (.agg ls :: rs) (.agg ds :: qs) (.agg arr :: vs) bs

theorem Res.mono {w' : World} {ok ok' : Nat → Prop} {b0 : Nat} (h : ∀ b, ok b → ok' b) {rs : List RK} {qs : List Q} {vs : List Value} {bs : List (Option Nat)} (hr : Res w' ok b0 rs qs vs bs) : Res w' ok' b0 rs qs vs bs := by
  induction hr with
  | nil => exact .nil
  | one l hd t ih => exact .one l (hd.mono h) ih
  | own sz es cap b h0 hb t ih =>
    refine .own sz es cap b h0 ?_ ih
    cases b with
    | none => exact hb
    | some b =>
      obtain ⟨h1, h2, cs, T, fr, q1, q2, q3, q4, q5⟩ := hb
      exact ⟨h1, h2, cs, T, fr, q1, q2, q3, q4, fun i j hi hj => by
        obtain ⟨v, e1, e2⟩ := q5 i j hi hj
        exact ⟨v, e1, e2.mono h⟩⟩
  | agg ls ds arr hl hs hd t ih => exact .agg ls ds arr hl hs (fun i hi => (hd i hi).mono h) ih

def packV : List Value → Value
  | [v] => v
  | vs => .tuple vs.toArray

def RRel (w' : World) (b0 : Nat) (rks : List RK) (qs : List Q) (v : Value) : Prop :=
  ∃ vals bs, v = packV vals ∧ Res w' (fun b => b0 ≤ b ∧ b < w'.heap.size ∧ some b ∉ bs) b0 rks qs vals bs ∧ ∀ (i j : Nat) (b : Nat), bs[i]? = some (some b) → bs[j]? = some (some b) → i = j

theorem leaf_run {R γ : Type} {c : γ → List Ob → Option R} {r : R} {w' : World} {ok : Nat → Prop} {fr : Bool} {l : LK} {d : D} {v : Value} (hd : CRel w' ok d v) (k : V → HM γ) (hr : (leafO fr l (some d) k).run H c = some r) :
    ∃ x, (k x).run H c = some r ∧ ∀ (ok' : Nat → Prop) (base : Nat) (L' : Lks), (∀ b, ok b → okS ok' base fr b) → VRel w' ok' base L' x v := by
  have int_ex : ∀ {α : Type} {o : Option α} {f : α → HM γ}, (o.bind fun n => (f n).run H c) = some r → ∃ n, o = some n ∧ (f n).run H c = some r := fun h => Option.bind_eq_some_iff.1 h
  cases l with
  | int q =>
    obtain ⟨n, h1, h2⟩ := Option.bind_eq_some_iff.1 hr
    obtain ⟨d', e, h3⟩ := Option.bind_eq_some_iff.1 h1
    cases e
    cases d <;> simp only [D.int?] at h3 <;> try cases h3
    split at h3
    · rename_i hq
      cases h3
      subst hq
      cases hd
      exact ⟨_, h2, fun _ _ _ _ => vint_rel _ _⟩
    · cases h3
  | bool =>
    obtain ⟨n, h1, h2⟩ := Option.bind_eq_some_iff.1 hr
    obtain ⟨d', e, h3⟩ := Option.bind_eq_some_iff.1 h1
    cases e
    cases d <;> simp only [D.bool?] at h3 <;> cases h3
    cases hd
    exact ⟨_, h2, fun _ _ _ _ => vbool_rel _⟩
  | str =>
    obtain ⟨n, h1, h2⟩ := Option.bind_eq_some_iff.1 hr
    obtain ⟨d', e, h3⟩ := Option.bind_eq_some_iff.1 h1
    cases e
    cases d <;> simp only [D.str?] at h3 <;> cases h3
    cases hd
    exact ⟨_, h2, fun _ _ _ _ => vstr_rel _⟩
  | sl sz =>
    obtain ⟨n, h1, h2⟩ := Option.bind_eq_some_iff.1 hr
    obtain ⟨d', e, h3⟩ := Option.bind_eq_some_iff.1 h1
    cases e
    cases d <;> simp only [D.sl?] at h3 <;> try cases h3
    split at h3
    · rename_i hq
      cases h3
      subst hq
      exact ⟨_, h2, fun _ _ _ h => .one _ _ _ (hd.mono h)⟩
    · split at h3 <;> cases h3
      refine ⟨_, h2, fun _ _ _ h => .one _ _ _ ?_⟩
      cases hd with
      | sl0 => exact .sl0 ..
      | sl => exact .sl0 ..
  | nl z =>
    exact ⟨_, hr, fun _ _ _ h => .one _ _ _ (hd.mono h)⟩

theorem leafs_run {R γ : Type} {c : γ → List Ob → Option R} {r : R} {w' : World} {ok : Nat → Prop} {fr : Bool} {es : List (List D)} {i : Nat} (cv : Nat → Value) : ∀ (ls : List LK) (j : Nat) (hd : ∀ jj, jj < ls.length → CRel w' ok (cellD es i (j + jj)) (cv (j + jj))) (k : List V → HM γ) (hr : (leafs fr es i ls j k).run H c = some r),
    ∃ xs, (k xs).run H c = some r ∧ xs.length = ls.length ∧ ∀ (ok' : Nat → Prop) (base : Nat) (L' : Lks), (∀ b, ok b → okS ok' base fr b) → ∀ jj, jj < xs.length → VRel w' ok' base L' (xs.getD jj .undef) (cv (j + jj))
  | [], j, hd, k, hr => ⟨[], hr, rfl, fun _ _ _ _ jj hj => by simp at hj⟩
  | l :: ls, j, hd, k, hr => by
    obtain ⟨x, h1, h2⟩ := leaf_run (hd 0 (by simp)) _ hr
    obtain ⟨xs, k1, k2, k3⟩ := leafs_run cv ls (j + 1) (fun jj hj => by have := hd (jj + 1) (by simpa using hj); rwa [show j + (jj + 1) = j + 1 + jj by omega] at this) _ h1
    refine ⟨x :: xs, k1, by simp [k2], fun ok' base L' h jj hj => ?_⟩
    cases jj with
    | zero => simpa using h2 ok' base L' h
    | succ jj =>
      have := k3 ok' base L' h jj (by simpa using hj)
      rw [show j + 1 + jj = j + (jj + 1) by omega] at this
      simpa using this

def setRows (H : List Ob) (s : Nat) : List (Ob × Lk) → List Ob
  | [] => H
  | r :: rs => setRows (H.set s r.1) (s + 1) rs
theorem setRows_len : ∀ (rs : List (Ob × Lk)) (H : List Ob) (s : Nat), (setRows H s rs).length = H.length
  | [], _, _ => rfl
  | r :: rs, H, s => by rw [setRows, setRows_len rs]; simp
theorem setRows_out : ∀ (rs : List (Ob × Lk)) (H : List Ob) (s id : Nat), (id < s ∨ s + rs.length ≤ id) → obj (setRows H s rs) id = obj H id
  | [], _, _, _, _ => rfl
  | r :: rs, H, s, id, h => by
    simp only [List.length_cons] at h
    rw [setRows, setRows_out rs _ _ _ (by omega), obj_set, if_neg (by omega)]
theorem setRows_in : ∀ (rs : List (Ob × Lk)) (H : List Ob) (s i : Nat) (hi : i < rs.length), s + rs.length ≤ H.length → obj (setRows H s rs) (s + i) = rs[i].1
  | r :: rs, H, s, 0, hi, h => by
    simp only [List.length_cons] at h
    rw [setRows, setRows_out rs _ _ _ (by omega), obj_set, if_pos (by omega)]; rfl
  | r :: rs, H, s, i + 1, hi, h => by
    simp only [List.length_cons] at h hi
    rw [setRows, show s + (i + 1) = s + 1 + i by omega, setRows_in rs _ _ i (by omega) (by simp; omega)]; rfl
def newL (L : Lks) (s : Nat) (rs : List (Ob × Lk)) : Lks := ⟨fun id => if s ≤ id ∧ id < s + rs.length then (rs[id - s]?).map (·.2) else L id, L.hidO, L.lin⟩

theorem impt_run {R γ : Type} {c : γ → List Ob → Option R} {r : R} {w' : World} {ok : Nat → Prop} {b0 : Nat} : ∀ {rks : List RK} {qs : List Q} {vals : List Value} {bs : List (Option Nat)} (hres : Res w' ok b0 rks qs vals bs) {H : List Ob} (s : Nat) (k : List V → HM γ), (impt rks qs s k).run H c = some r →
    ∃ vs rows, (k vs).run (setRows H s rows) c = some r ∧ rows.length = owns rks ∧ vs.length = vals.length ∧ rows.map (·.2.b) = bs ∧
      (∀ i (hi : i < rows.length), ∃ sz es cap b, rows[i] = (.row false sz es, ⟨b, sz, cap, es.length⟩) ∧ 0 < sz ∧ match b with | none => es = [] ∧ cap = 0 | some b => b0 ≤ b ∧ b < w'.heap.size ∧ RowRel w' ok b sz es cap) ∧
      ∀ (ok' : Nat → Prop) (base : Nat) (L' : Lks), (∀ b, ok b → okS ok' base true b) → (∀ i (hi : i < rows.length), L' (s + i) = some rows[i].2) → ∀ i, i < vs.length → VRel w' ok' base L' (vs.getD i .undef) (vals.getD i undef)
  | _, _, _, _, .nil, H, s, k, hr => ⟨[], [], hr, rfl, rfl, rfl, fun i hi => by simp at hi, fun _ _ _ _ _ i hi => by simp at hi⟩
  | _, _, _, _, .one l (d := d) (v := v) h (rs := rs) (qs := qs) t, H, s, k, hr => by
    have h0 : (leafO true l (some d) fun v => impt rs qs s fun vs => k (v :: vs)).run H c = some r := hr
    obtain ⟨x, h1, h2⟩ := leaf_run h _ h0
    obtain ⟨vs, rows, k1, k2, k3, k4, k5, k6⟩ := impt_run t s _ h1
    refine ⟨x :: vs, rows, k1, k2, by simp [k3], k4, k5, fun ok' base L' g1 g2 i hi => ?_⟩
    cases i with
    | zero => simpa using h2 ok' base L' g1
    | succ i => simpa using k6 ok' base L' g1 g2 i (by simpa using hi)
  | _, _, _, _, .own sz es cap b h0 hb (rs := rs) (qs := qs) t, H, s, k, hr => by
    have h1 : (impt rs qs (s + 1) fun vs => k (.rw s :: vs)).run (H.set s (.row false sz es)) c = some r := by
      simpa [impt, HM.run, Q.one?, D.sl?] using hr
    obtain ⟨vs, rows, k1, k2, k3, k4, k5, k6⟩ := impt_run t (s + 1) _ h1
    refine ⟨.rw s :: vs, (.row false sz es, ⟨b, sz, cap, es.length⟩) :: rows, k1, by simp [owns, k2], by simp [k3], by simp [k4], fun i hi => ?_, fun ok' base L' g1 g2 i hi => ?_⟩
    · cases i with
      | zero => exact ⟨sz, es, cap, b, rfl, h0, hb⟩
      | succ i => simpa using k5 i (by simpa using hi)
    · cases i with
      | zero =>
        have := g2 0 (by simp)
        simp only [Nat.add_zero, List.getElem_cons_zero] at this
        simpa using VRel.rw_of (w := w') (ok := ok') (base := base) this rfl
      | succ i => simpa using k6 ok' base L' g1 (fun i hi => by
          have := g2 (i + 1) (by simpa using hi)
          rw [show s + (i + 1) = s + 1 + i by omega] at this
          simpa using this) i (by simpa using hi)
  | _, _, _, _, .agg ls ds arr hl hs h (rs := rs) (qs := qs) t, H, s, k, hr => by
    have h1 : (leafs true [ds] 0 ls 0 fun cs => impt rs qs s fun vs => k (.agg cs :: vs)).run H c = some r := by
      simpa [impt, HM.run, Q.agg?] using hr
    obtain ⟨xs, g1, g2, g3⟩ := leafs_run (fun j => arr.getD j undef) ls 0 (fun jj hj => by
      rw [Nat.zero_add]
      exact h jj (by omega)) _ h1
    obtain ⟨vs, rows, k1, k2, k3, k4, k5, k6⟩ := impt_run t s _ g1
    refine ⟨.agg xs :: vs, rows, k1, k2, by simp [k3], k4, k5, fun ok' base L' q1 q2 i hi => ?_⟩
    cases i with
    | zero =>
      refine .agg xs arr (by omega) fun j hj => ?_
      have := g3 ok' base L' q1 j hj
      simpa using this
    | succ i => simpa using k6 ok' base L' q1 q2 i (by simpa using hi)
end
end Go.Proofs.EV
set_option linter.unusedVariables false
set_option linter.unusedSimpArgs false
set_option linter.unusedSectionVars false
namespace Go.Proofs.EV
open Go Go.RowKit
variable [Dr]

section
variable {P : Program} {base : Nat} {w : World} {L L' : Lks}

/-! ### Other numbers -/
theorem idx_some {m : List Nat} {id n : Nat} (h : m.idxOf? id = some n) : m[n]? = some id := by
  have h1 : m.findIdx? (· == id) = some n := h
  obtain ⟨hlt, h2, _⟩ := List.findIdx?_eq_some_iff_getElem.1 h1
  rw [List.getElem?_eq_getElem hlt]
  simpa using h2

theorem rens_get (m : Nat → Option Nat) : ∀ (cs : List V) (i : Nat), (V.ren.rens m cs).getD i .undef = V.ren m (cs.getD i .undef)
  | [], i => by simp [V.ren.rens, V.ren]
  | c :: cs, 0 => by simp [V.ren.rens]
  | c :: cs, i + 1 => by simpa [V.ren.rens] using rens_get m cs i
theorem rens_len (m : Nat → Option Nat) : ∀ (cs : List V), (V.ren.rens m cs).length = cs.length
  | [] => rfl
  | c :: cs => by simp [V.ren.rens, rens_len m cs]

def RenL (f : Nat → Option Nat) (L L' : Lks) : Prop := ∀ {id n lk}, f id = some n → L id = some lk → L' n = some lk

theorem VRel.ren {ok : Nat → Prop} {m : Nat → Option Nat} (hL : RenL m L L') {x : V} {v : Value} (hr : VRel w ok base L x v) : VRel w ok base L' (x.ren m) v := by
  induction hr with
  | one fr d v hd => exact .one fr d v hd
  | agg cs arr hl h ih =>
    refine .agg _ arr (by rw [rens_len]; exact hl) fun i hi => ?_
    rw [rens_get]
    exact ih i (by rwa [rens_len] at hi)
  | tup cs arr hl h ih =>
    refine .tup _ arr (by rw [rens_len]; exact hl) fun i hi => ?_
    rw [rens_get]
    exact ih i (by rwa [rens_len] at hi)
  | fnv f a b va vb ha hb h1 h2 i1 i2 =>
    refine .fnv f _ _ va vb (by rw [rens_len]; exact ha) (by rw [rens_len]; exact hb) (fun i hi => ?_) (fun i hi => ?_)
    · rw [rens_get]; exact i1 i (by rwa [rens_len] at hi)
    · rw [rens_get]; exact i2 i (by rwa [rens_len] at hi)
  | nils sz => exact .nils sz
  | rw id lk hl =>
    simp only [V.ren]
    split
    · rename_i n hn; exact .rw n lk (hL hn hl)
    · exact .undef _
  | rs id off len lk a c hl hn hc ha ha0 hcc =>
    simp only [V.ren]
    split
    · rename_i n hn'; exact .rs n off len lk a c (hL hn' hl) hn hc ha ha0 hcc
    · exact .undef _
  | rp id off lk b hl hb =>
    simp only [V.ren]
    split
    · rename_i n hn'; exact .rp n off lk b (hL hn' hl) hb
    · exact .undef _
  | re id i j lk b hl hb hi =>
    simp only [V.ren]
    split
    · rename_i n hn'; exact .re n i j lk b (hL hn' hl) hb hi
    · exact .undef _
  | pe fr sz es i j b off cv hok h1 h2 => exact .pe fr sz es i j b off cv hok h1 h2
  | rm id lk b hl hb =>
    simp only [V.ren]
    split
    · rename_i n hn'; exact .rm n lk b (hL hn' hl) hb
    · exact .undef _
  | rit id lk b hl hb =>
    simp only [V.ren]
    split
    · rename_i n hn'; exact .rit n lk b (hL hn' hl) hb
    · exact .undef _
  | undef v => exact .undef v

theorem ObRel.ren {ok : Nat → Prop} {m : Nat → Option Nat} (hL : RenL m L L') {lk : Lk} {o : Ob} (hn : notNest o = true ∨ (L'.lin = L.lin ∧ L'.hidO = L.hidO)) (h : ObRel w ok base L lk o) : ObRel w ok base L' lk (o.ren m) := by
  cases o with
  | box cs =>
    obtain ⟨b, arr, T, fr, q0, q1, q2, q3, q4⟩ := h
    refine ⟨b, arr, T, fr, q0, q1, by simp [q2], q3, fun i hi => ?_⟩
    have hi' : i < cs.length := by simpa using hi
    have := (q4 i hi').ren hL
    rw [getD_of_lt hi'] at this
    rw [getD_of_lt hi]
    simpa using this
  | row => exact h
  | mp => exact h
  | iter => exact h
  | nest sz hole es =>
    rcases hn with hn | ⟨hn1, hn2⟩
    · cases hn
    obtain ⟨h1, h2, h3, h4, b, cs, T, fr, q0, q1, q2, q3, q4, q5⟩ := h
    refine ⟨h1, h2, h3, fun p hp => ?_, b, cs, T, fr, q0, q1, q2, q3, q4, fun k hk => ?_⟩
    · obtain ⟨p', hp', rfl⟩ := Option.map_eq_some_iff.1 hp
      exact h4 p' hp'
    · obtain ⟨v, u1, u2, u3⟩ := q5 k hk
      refine ⟨v, u1, fun hh => ?_, fun s1 hs1 => ?_⟩
      · obtain ⟨bi, cap, j1, j2, j3⟩ := u2 fun p hp => hh (p.1, p.2.bind m) (by rw [hp]; rfl)
        exact ⟨bi, cap, j1, j2, fun x hx => by rw [hn1, hn2]; exact j3 x hx⟩
      · obtain ⟨p, hp, hpe⟩ := Option.map_eq_some_iff.1 hs1
        obtain ⟨p1, p2⟩ := p
        simp only [Prod.mk.injEq] at hpe
        obtain ⟨rfl, hb⟩ := hpe
        obtain ⟨s0, rfl, hs0⟩ := Option.bind_eq_some_iff.1 hb
        obtain ⟨lk1, r1, r2⟩ := u3 s0 hp
        exact ⟨lk1, hL hs0 r1, r2⟩
  | dead => exact h
theorem live_ren (m : Nat → Option Nat) (o : Ob) : live (o.ren m) = live o := by cases o <;> rfl

theorem CsRel.ren {ok : Nat → Prop} {m : Nat → Option Nat} (hL : RenL m L L') {xs : List V} {arr : Array Value} (h : CsRel w ok base L xs arr) : CsRel w ok base L' (xs.map (V.ren m)) arr := by
  refine ⟨by simpa using h.1, fun i hi => ?_⟩
  have hi' : i < xs.length := by simpa using hi
  have := (h.2 i hi').ren hL
  rw [getD_of_lt hi'] at this
  rw [getD_of_lt hi]
  simpa using this

/-- Some of the objects, under other numbers; hid: what is hidden then. -/
def renL (m : List Nat) (L : Lks) (hid : Nat → Prop) (lin : Nat → Option (Nat × Nat)) : Lks := ⟨fun n => (m[n]?).bind L, hid, lin⟩
theorem renL_ok (m : List Nat) (L : Lks) (hid : Nat → Prop) (lin : Nat → Option (Nat × Nat)) : RenL (fun id => m.idxOf? id) L (renL m L hid lin) := fun h1 h2 => by
  show (m[_]?).bind L.f = _
  rw [idx_some h1]; exact h2

/-- hid: the blocks of objects that are left out may be among what is hidden. -/
theorem ren_ok {H : List Ob} (hH : HRel w base L H) {m : List Nat} (hm : m.Nodup) (hid : Nat → Prop) (lin : Nat → Option (Nat × Nat)) (hlin : (lin = L.lin ∧ hid = L.hidO) ∨ ∀ id ∈ m, notNest (obj H id) = true)
    (h1 : ∀ b, (renL m L hid lin).hid b → L.hid b ∨ ∃ id lk, id ∉ m ∧ live (obj H id) = true ∧ L id = some lk ∧ lk.b = some b) :
    HRel w base (renL m L hid lin) (m.map fun id => (H.getD id .dead).ren fun id => m.idxOf? id) ∧ ∀ b, okW w L H b → okW w (renL m L hid lin) (m.map fun id => (H.getD id .dead).ren fun id => m.idxOf? id) b := by
  have hob : ∀ n, (hn : n < m.length) → obj (m.map fun id => (H.getD id .dead).ren fun id => m.idxOf? id) n = (obj H m[n]).ren fun id => m.idxOf? id := fun n hn => by
    unfold obj
    rw [getD_of_lt (by simpa using hn)]
    simp
  have hlt : ∀ n, live (obj (m.map fun id => (H.getD id .dead).ren fun id => m.idxOf? id) n) = true → ∃ hn : n < m.length, live (obj H m[n]) = true := fun n h => by
    have hn : n < m.length := by simpa using live_lt h
    refine ⟨hn, ?_⟩
    rwa [hob n hn, live_ren] at h
  have hLn : ∀ n (hn : n < m.length), renL m L hid lin n = L m[n] := fun n hn => by simp [renL, hn]
  have hok : ∀ b, okW w L H b → okW w (renL m L hid lin) (m.map fun id => (H.getD id .dead).ren fun id => m.idxOf? id) b := fun b hb => ⟨hb.1, fun ⟨n, lk, h1, h2, h3⟩ => by
    obtain ⟨hn, h4⟩ := hlt n h1
    rw [hLn n hn] at h2
    exact hb.2 ⟨m[n], lk, h4, h2, h3⟩, fun hh => by
    rcases h1 b hh with h | ⟨id, lk, q0, q1, q2, q3⟩
    · exact hb.nh h
    · exact hb.no ⟨id, lk, q1, q2, q3⟩⟩
  refine ⟨⟨fun n h => ?_, fun n lk b h h2 h3 => ?_, fun n n' lk lk' b h h' h2 h2' h3 h3' => ?_, fun n hn => ?_, fun n lk b h h2 h3 hh => ?_, fun b hh => ?_⟩, hok⟩
  · obtain ⟨hn, h4⟩ := hlt n h
    obtain ⟨lk, h1, h2⟩ := hH.ob _ h4
    refine ⟨lk, by rw [hLn n hn]; exact h1, ?_⟩
    rw [hob n hn]
    exact (h2.ren (renL_ok m L hid lin) (by
      rcases hlin with h | h
      · exact .inr h
      · exact .inl (h _ (List.getElem_mem hn)))).lift (fun b hb => ⟨hok b hb, rfl⟩) (fun _ _ h => h) (fun _ _ => rfl) (fun _ _ _ _ h h' => ⟨h, h', rfl⟩)
  · obtain ⟨hn, h4⟩ := hlt n h
    rw [hLn n hn] at h2
    exact hH.rng _ lk b h4 h2 h3
  · obtain ⟨hn, h4⟩ := hlt n h
    obtain ⟨hn', h4'⟩ := hlt n' h'
    rw [hLn n hn] at h2
    rw [hLn n' hn'] at h2'
    have := hH.inj _ _ lk lk' b h4 h4' h2 h2' h3 h3'
    rcases Nat.lt_trichotomy n n' with h | h | h
    · exact absurd this (List.pairwise_iff_getElem.1 hm n n' hn hn' h)
    · exact h
    · exact absurd this.symm (List.pairwise_iff_getElem.1 hm n' n hn' hn h)
  · have : m[n]? = none := List.getElem?_eq_none (by simpa using hn)
    simp [renL, this]
  · obtain ⟨hn, h4⟩ := hlt n h
    rw [hLn n hn] at h2
    rcases h1 b hh with h | ⟨id, lk', q0, q1, q2, q3⟩
    · exact hH.nh _ lk b h4 h2 h3 h
    · have := hH.inj _ _ lk lk' b h4 q1 h2 q2 h3 q3
      exact q0 (this ▸ List.getElem_mem hn)
  · rcases h1 b hh with h | ⟨id, lk', q0, q1, q2, q3⟩
    · exact hH.hlt b h
    · exact (hH.rng id lk' b q1 q2 q3).2
end
end Go.Proofs.EV
set_option linter.unusedVariables false
set_option linter.unusedSimpArgs false
set_option linter.unusedSectionVars false
namespace Go.Proofs.EV
open Go Go.RowKit
variable [Dr]

section
variable {P : Program} {base s m : Nat} {w : World} {L : Lks} {H : List Ob} {C : Cfg}

theorem newL_in {rows : List (Ob × Lk)} {i : Nat} (hi : i < rows.length) : newL L s rows (s + i) = some rows[i].2 := by
  simp [newL, hi]
theorem newL_out {rows : List (Ob × Lk)} {id : Nat} (h : id < s ∨ s + rows.length ≤ id) : newL L s rows id = L id := by
  show (if _ then _ else _) = _
  rw [if_neg (by omega)]

/-- The rows that a callee hands back become one's own. -/
theorem news_ok (hH : HRel w base L H) (hb : base ≤ w.heap.size) {w' : World} (hbel : Below w.heap.size w w') {rows : List (Ob × Lk)} {bs : List (Option Nat)} (hrows : rows.map (·.2.b) = bs)
    (hinj : ∀ (i j : Nat) (b : Nat), bs[i]? = some (some b) → bs[j]? = some (some b) → i = j)
    (hmk : ∀ i (hi : i < rows.length), ∃ sz es cap b, rows[i] = (.row false sz es, ⟨b, sz, cap, es.length⟩) ∧ 0 < sz ∧ match b with | none => es = [] ∧ cap = 0 | some b => w.heap.size ≤ b ∧ b < w'.heap.size ∧ RowRel w' (fun b => w.heap.size ≤ b ∧ b < w'.heap.size ∧ some b ∉ bs) b sz es cap)
    (hs : s + m ≤ H.length) (hm : rows.length ≤ m) (hL : ∀ id, s ≤ id → id < s + m → L id = none) :
    HRel w' base (newL L s rows) (setRows H s rows) ∧ Ext base s m w L H w' (newL L s rows) (setRows H s rows) ∧
      ∀ b, (w.heap.size ≤ b ∧ b < w'.heap.size ∧ some b ∉ bs) → okS (okW w' (newL L s rows) (setRows H s rows)) base true b := by
  have hbl : ∀ i (hi : i < rows.length), bs[i]? = some rows[i].2.b := fun i hi => by rw [← hrows]; simp [hi]
  have hnew : ∀ id, s ≤ id → id < s + rows.length → ∃ i, ∃ hi : i < rows.length, id = s + i := fun id h1 h2 => ⟨id - s, by omega, by omega⟩
  have hle : LkLe L (newL L s rows) := fun id lk h => by
    by_cases hin : s ≤ id ∧ id < s + rows.length
    · rw [hL id hin.1 (by omega)] at h; cases h
    · rw [newL_out (by omega)]; exact h
  have hown : ∀ b, own (newL L s rows) (setRows H s rows) b → (some b ∈ bs ∧ w.heap.size ≤ b) ∨ own L H b := by
    rintro b ⟨id, lk, h1, h2, h3⟩
    by_cases hin : s ≤ id ∧ id < s + rows.length
    · obtain ⟨i, hi, rfl⟩ := hnew id hin.1 hin.2
      rw [newL_in hi] at h2; cases h2
      left
      have := hbl i hi
      rw [h3] at this
      refine ⟨List.mem_of_getElem? this, ?_⟩
      obtain ⟨sz, es, cap, b', e, _, hb'⟩ := hmk i hi
      rw [e] at h3
      have h3' : b' = some b := h3
      subst h3'
      exact hb'.1
    · right
      rw [setRows_out _ _ _ _ (by omega)] at h1
      rw [newL_out (by omega)] at h2
      exact ⟨id, lk, h1, h2, h3⟩
  have hok : ∀ b, okW w L H b → okW w' (newL L s rows) (setRows H s rows) b ∧ w'.heap[b]? = w.heap[b]? := fun b h =>
    ⟨⟨Nat.lt_of_lt_of_le h.1 hbel.size, fun ho => by
      rcases hown b ho with ⟨_, h5⟩ | h5
      · have := h.1; omega
      · exact h.2 h5, h.nh⟩, hbel.block b h.1⟩
  have hokn : ∀ b, (w.heap.size ≤ b ∧ b < w'.heap.size ∧ some b ∉ bs) → okS (okW w' (newL L s rows) (setRows H s rows)) base true b := by
    rintro b ⟨h1, h2, h3⟩
    refine ⟨⟨h2, fun ho => ?_, fun hh => by have := hH.hlt b hh; omega⟩, fun _ => by omega⟩
    rcases hown b ho with ⟨h5, _⟩ | ⟨id, lk, q1, q2, q3⟩
    · exact h3 h5
    · have := (hH.rng id lk b q1 q2 q3).2; omega
  refine ⟨⟨fun id hl => ?_, fun id lk b hl h1 h2 => ?_, fun id id' lk lk' b hl hl' h1 h2 h3 h4 => ?_, fun id hid => ?_, fun id lk b hl h1 h2 hh => ?_, fun b hh => Nat.lt_of_lt_of_le (hH.hlt b hh) hbel.size⟩, ⟨hle, fun id h => newL_out (by omega), setRows_len .., hok, hbel.mono hb, rfl, fun b _ hlt => hbel.block b hlt⟩, hokn⟩
  · by_cases hin : s ≤ id ∧ id < s + rows.length
    · obtain ⟨i, hi, rfl⟩ := hnew id hin.1 hin.2
      obtain ⟨sz, es, cap, b', e, h0, hb'⟩ := hmk i hi
      refine ⟨_, newL_in hi, ?_⟩
      rw [setRows_in _ _ _ _ hi (by omega), e]
      refine ⟨rfl, rfl, h0, ?_⟩
      dsimp only
      cases b' with
      | none => exact ⟨hb'.1, rfl, hb'.2⟩
      | some b =>
        obtain ⟨cs, T, fr, q1, q2, q3, q4, q5⟩ := hb'.2.2
        exact ⟨cs, T, fr, q1, q2, q3, q4, fun i j hi hj => by
          obtain ⟨v, e1, e2⟩ := q5 i j hi hj
          exact ⟨v, e1, e2.mono hokn⟩⟩
    · rw [setRows_out _ _ _ _ (by omega)] at hl ⊢
      obtain ⟨lk, h1, h2⟩ := hH.ob id hl
      exact ⟨lk, by rw [newL_out (by omega)]; exact h1, h2.lift hok hle (fun b hb' => hbel.block b (hH.rng id lk b hl h1 hb').2) (fun _ x _ _ h h' => ⟨h, h', hbel.block x (hH.hlt x (Lks.hid_lin h))⟩)⟩
  · by_cases hin : s ≤ id ∧ id < s + rows.length
    · obtain ⟨i, hi, rfl⟩ := hnew id hin.1 hin.2
      rw [newL_in hi] at h1; cases h1
      obtain ⟨sz, es, cap, b', e, h0, hb'⟩ := hmk i hi
      rw [e] at h2
      have h2' : b' = some b := h2
      subst h2'
      exact ⟨by have := hb'.1; omega, hb'.2.1⟩
    · rw [setRows_out _ _ _ _ (by omega)] at hl
      rw [newL_out (by omega)] at h1
      have := hH.rng id lk b hl h1 h2
      exact ⟨this.1, Nat.lt_of_lt_of_le this.2 hbel.size⟩
  · have side : ∀ id lk, live (obj (setRows H s rows) id) = true → newL L s rows id = some lk → lk.b = some b → (∃ i, ∃ hi : i < rows.length, id = s + i ∧ bs[i]? = some (some b) ∧ w.heap.size ≤ b) ∨ (live (obj H id) = true ∧ L id = some lk ∧ b < w.heap.size) := by
      intro id lk hl h1 h3
      by_cases hin : s ≤ id ∧ id < s + rows.length
      · obtain ⟨i, hi, rfl⟩ := hnew id hin.1 hin.2
        rw [newL_in hi] at h1; cases h1
        have h5 := hbl i hi
        rw [h3] at h5
        obtain ⟨sz, es, cap, b', e, h0, hb'⟩ := hmk i hi
        rw [e] at h3
        have h3' : b' = some b := h3
        subst h3'
        exact .inl ⟨i, hi, rfl, h5, hb'.1⟩
      · rw [setRows_out _ _ _ _ (by omega)] at hl
        rw [newL_out (by omega)] at h1
        exact .inr ⟨hl, h1, (hH.rng id lk b hl h1 h3).2⟩
    rcases side id lk hl h1 h3 with ⟨i, hi, rfl, q1, q2⟩ | ⟨q1, q2, q3⟩ <;> rcases side id' lk' hl' h2 h4 with ⟨i', hi', rfl, r1, r2⟩ | ⟨r1, r2, r3⟩
    · rw [hinj i i' b q1 r1]
    · omega
    · omega
    · exact hH.inj id id' lk lk' b q1 r1 q2 r2 h3 h4
  · rw [setRows_len] at hid
    rw [newL_out (by omega)]
    exact hH.out id hid
  · have hh' : L.hid b := hh
    by_cases hin : s ≤ id ∧ id < s + rows.length
    · obtain ⟨i, hi, rfl⟩ := hnew id hin.1 hin.2
      rw [newL_in hi] at h1; cases h1
      obtain ⟨sz, es, cap, b', e, h0, hb'⟩ := hmk i hi
      rw [e] at h2
      have h2' : b' = some b := h2
      subst h2'
      have := hH.hlt b hh'
      have := hb'.1
      omega
    · rw [setRows_out _ _ _ _ (by omega)] at hl
      rw [newL_out (by omega)] at h1
      exact hH.nh id lk b hl h1 h2 hh'

/-! ### Contracts -/
/-- A value of the evaluator's at a package's variable. -/
def GRel (w : World) (ok : Nat → Prop) (g : Nat) : V → Prop
  | .undef => True
  | .pe false sz es i j => i = 0 ∧ j = 0 ∧ ok g ∧ ∃ cv : Nat → Value, (∀ j, j < sz → w.cell? ⟨g, j, none⟩ = some (cv j)) ∧ ∀ j, j < sz → CRel w ok (cellD es 0 j) (cv j)
  | _ => False

theorem GRel.v {ok : Nat → Prop} {g : Nat} {x : V} (h : GRel w ok g x) : VRel w ok base L x (.pointer (some ⟨g, 0, none⟩)) := by
  unfold GRel at h
  split at h
  · exact .undef _
  · rename_i sz es i j
    obtain ⟨rfl, rfl, h0, cv, h1, h2⟩ := h
    exact .pe false sz es 0 0 g 0 cv ⟨h0, fun h => by cases h⟩ (fun j hj => by rw [Nat.zero_add]; exact h1 j hj) (fun j hj => (h2 j hj).mono fun b hb => ⟨hb, fun h => by cases h⟩)
  · exact h.elim
theorem GRel.lift {w w' : World} {ok ok' : Nat → Prop} (h : ∀ b, ok b → ok' b ∧ w'.heap[b]? = w.heap[b]?) {g : Nat} {x : V} (hg : GRel w ok g x) : GRel w' ok' g x := by
  unfold GRel at hg ⊢
  split at hg
  · trivial
  · obtain ⟨h1, h2, h0, cv, h3, h4⟩ := hg
    exact ⟨h1, h2, (h g h0).1, cv, fun j hj => by rw [← h3 j hj]; simp only [World.cell?, (h g h0).2], fun j hj => (h4 j hj).lift h⟩
  · exact hg.elim

def GlobOk (C : Cfg) (w : World) (ok : Nat → Prop) : Prop := ∀ g, GRel w ok g (C.glob g)

/-- A function does what its row of the table says. -/
def Snd (P : Program) (C : Cfg) (f : FuncId) (args res : List Q) : Prop :=
  ∀ (w : World) (vals : Array Value), GlobOk C w (fun b => b < w.heap.size) → vals.size = args.length →
    (∀ i, i < args.length → QRel w (fun b => b < w.heap.size) (args.getD i (.one .nilp)) (vals.getD i undef)) →
    (∃ fn, P.funcs[f]? = some fn ∧ fn.body.isNone = false ∧ (fn.name == "runtime.NumGoroutine") = false ∧
        Calls P f vals w fun e w' => ∃ v, e = .returned v ∧ RRel w' w.heap.size (C.sig f) res v ∧ Below w.heap.size w w') ∨
    ∃ v w', (callFunc f vals).run P w = .ok (.value v) w' ∧ RRel w' w.heap.size (C.sig f) res v ∧ Below w.heap.size w w'

/-- What a function that is lent objects leaves. -/
def BEnd (base : Nat) (w : World) (L : Lks) (objs : List Ob) (res : List V) (objs' : List Ob) (v : Value) (w' : World) : Prop :=
  ∃ (vals : List Value) (L' : Lks), v = packV vals ∧ res.length = vals.length ∧ (∀ i, i < res.length → VRel w' (okW w' L' objs') base L' (res.getD i .undef) (vals.getD i undef)) ∧ HRel w' base L' objs' ∧ Fr objs.length base w L objs w' L' objs'

/-- A function that is lent objects does what its row of the table says. -/
def SndB (P : Program) (C : Cfg) (f : FuncId) (args : List V) (objs : List Ob) (res : List V) (objs' : List Ob) : Prop :=
  ∀ (base : Nat) (w : World) (L : Lks) (vals : Array Value), base ≤ w.heap.size → HRel w base L objs → GlobOk C w (okW w L objs) → CsRel w (okW w L objs) base L args vals →
    (∃ fn, P.funcs[f]? = some fn ∧ fn.body.isNone = false ∧ (fn.name == "runtime.NumGoroutine") = false ∧ Calls P f vals w fun e w' => ∃ v, e = .returned v ∧ BEnd base w L objs res objs' v w') ∨
    ∃ v w', (callFunc f vals).run P w = .ok (.value v) w' ∧ BEnd base w L objs res objs' v w'

structure MOk (P : Program) (C : Cfg) : Prop where
  m : ∀ f args res, (C.M f args).out = some res → Snd P C f args res
  b : ∀ f args objs res objs', (C.MM f args objs).out = some (res, objs') → SndB P C f args objs res objs'

theorem pack_rel {ok : Nat → Prop} {vs : List V} {vals : List Value} (hl : vs.length = vals.length) (h : ∀ i, i < vs.length → VRel w ok base L (vs.getD i .undef) (vals.getD i undef)) :
    VRel w ok base L (packVs vs) (packV vals) := by
  match vs, vals, hl with
  | [v], [x], _ => exact h 0 (by simp)
  | [], [], _ => exact .tup [] #[] rfl (fun i hi => by simp at hi)
  | a :: b :: vs, x :: y :: vals, hl =>
    refine .tup _ _ (by simpa using hl.symm) fun i hi => ?_
    have h1 := h i hi
    have hi' : i < (x :: y :: vals).length := by rw [← hl]; exact hi
    rw [getD_of_lt (l := x :: y :: vals) hi'] at h1
    rw [agetD_of_lt (by simpa using hi')]
    simpa using h1

theorem andThen_run {α β R : Type} {c : β → List Ob → Option R} {r : R} {h : List Ob} : ∀ (p : HM α) (k : α → HM β), (p.andThen k).run h c = some r → ∃ x, p.out = some x ∧ (k x).run h c = some r
  | .ret v, k, hr => ⟨v, rfl, hr⟩
  | .fail, k, hr => by cases hr
  | .get _ _, k, hr => by cases hr
  | .put _ _ _, k, hr => by cases hr
  | .int o f, k, hr => by
    obtain ⟨n, h1, h2⟩ := Option.bind_eq_some_iff.1 hr
    obtain ⟨x, h3, h4⟩ := andThen_run (f n) k h2
    exact ⟨x, by simp [HM.out, h1, h3], h4⟩
  | .bool o f, k, hr => by
    obtain ⟨n, h1, h2⟩ := Option.bind_eq_some_iff.1 hr
    obtain ⟨x, h3, h4⟩ := andThen_run (f n) k h2
    exact ⟨x, by simp [HM.out, h1, h3], h4⟩
  | .str o f, k, hr => by
    obtain ⟨n, h1, h2⟩ := Option.bind_eq_some_iff.1 hr
    obtain ⟨x, h3, h4⟩ := andThen_run (f n) k h2
    exact ⟨x, by simp [HM.out, h1, h3], h4⟩
  | .es o f, k, hr => by
    obtain ⟨n, h1, h2⟩ := Option.bind_eq_some_iff.1 hr
    obtain ⟨x, h3, h4⟩ := andThen_run (f n) k h2
    exact ⟨x, by simp [HM.out, h1, h3], h4⟩
  | .ds o f, k, hr => by
    obtain ⟨n, h1, h2⟩ := Option.bind_eq_some_iff.1 hr
    obtain ⟨x, h3, h4⟩ := andThen_run (f n) k h2
    exact ⟨x, by simp [HM.out, h1, h3], h4⟩
  | .d o f, k, hr => by
    obtain ⟨n, h1, h2⟩ := Option.bind_eq_some_iff.1 hr
    obtain ⟨x, h3, h4⟩ := andThen_run (f n) k h2
    exact ⟨x, by simp [HM.out, h1, h3], h4⟩
  | .qs o f, k, hr => by
    obtain ⟨n, h1, h2⟩ := Option.bind_eq_some_iff.1 hr
    obtain ⟨x, h3, h4⟩ := andThen_run (f n) k h2
    exact ⟨x, by simp [HM.out, h1, h3], h4⟩
  | .mps o f, k, hr => by
    obtain ⟨n, h1, h2⟩ := Option.bind_eq_some_iff.1 hr
    obtain ⟨x, h3, h4⟩ := andThen_run (f n) k h2
    exact ⟨x, by simp [HM.out, h1, h3], h4⟩
  | .od o f, k, hr => by
    obtain ⟨n, h1, h2⟩ := Option.bind_eq_some_iff.1 hr
    obtain ⟨x, h3, h4⟩ := andThen_run (f n) k h2
    exact ⟨x, by simp [HM.out, h1, h3], h4⟩
  | .any o f, k, hr => by
    obtain ⟨n, h1, h2⟩ := Option.bind_eq_some_iff.1 hr
    obtain ⟨x, h3, h4⟩ := andThen_run (f n) k h2
    exact ⟨x, by simp [HM.out, h1, h3], h4⟩
  | .gd b f, k, hr => by
    cases b with
    | false => cases hr
    | true =>
      obtain ⟨x, h3, h4⟩ := andThen_run f k hr
      exact ⟨x, by simpa [HM.out] using h3, h4⟩
  | .ite b p q, k, hr => by
    cases b with
    | false =>
      obtain ⟨x, h3, h4⟩ := andThen_run q k hr
      exact ⟨x, by simpa [HM.out] using h3, h4⟩
    | true =>
      obtain ⟨x, h3, h4⟩ := andThen_run p k hr
      exact ⟨x, by simpa [HM.out] using h3, h4⟩

/-- A call of a function that the table knows. -/
theorem call_ok {R : Type} {c : V → List Ob → Option R} {r : R} (hM : MOk P C) (hH : HRel w base L H) (hb : base ≤ w.heap.size) (hG : GlobOk C w (okW w L H)) {g : FuncId} {args : List V} {vargs : Array Value} (hargs : CsRel w (okW w L H) base L args vargs)
    (hs : s + m ≤ H.length) (hm : owns (C.sig g) ≤ m) (hL : ∀ id, s ≤ id → id < s + m → L id = none) (hr : (callHM C g (C.sig g) args s).run H c = some r)
    {o : Oper} {a : Act} {K : Act → World → Prop} {Q' : Exit → Act → World → Prop} (ho : (execOp a.eval o).run P w = (callFunc g vargs).run P w)
    (hK : ∀ v H' vc w' L', c v H' = some r → Ext base s m w L H w' L' H' → HRel w' base L' H' → VRel w' (okW w' L' H') base L' v vc → K (a.put o.dst vc) w') : o.wp P a w K Q' := by
  unfold callHM at hr
  obtain ⟨qs, k1, k2, k3⟩ := mapRun (fun q i => QRel w (fun b => b < w.heap.size) q (vargs.getD i undef)) args 0 (fun i hi k hk => by
    have h5 := hargs.2 i hi
    rw [getD_of_lt hi] at h5
    have := snapQ_run hH h5 k hk
    simpa using this) _ hr
  obtain ⟨res, hres, h3⟩ := andThen_run _ _ k3
  have hsnd := hM.m g qs res hres w vargs (fun g' => (hG g').lift fun b hb => ⟨hb.1, rfl⟩) (by rw [hargs.1, k1]) (fun i hi => by
    rw [getD_of_lt hi]; have := k2 i hi; simpa using this)
  have fin : ∀ v w', RRel w' w.heap.size (C.sig g) res v → Below w.heap.size w w' → K (a.put o.dst v) w' := by
    rintro v w' ⟨vals, bs, rfl, hrr, hinj⟩ hbel
    obtain ⟨vs, rows, q1, q2, q3, q4, q5, q6⟩ := impt_run hrr s _ h3
    obtain ⟨n1, n2, n3⟩ := news_ok (m := m) hH hb hbel q4 hinj q5 hs (by omega) hL
    have hv := q6 _ base (newL L s rows) n3 (fun i hi => newL_in hi)
    have hp := pack_rel q3 hv
    exact hK _ _ _ _ _ q1 n2 n1 hp
  unfold Oper.wp
  rw [ho]
  rcases hsnd with ⟨fn, f1, f2, f3, f4⟩ | ⟨v, w', f1, f2, f3⟩
  · have hcf : (callFunc g vargs).run P w = .ok (.enter g vargs) w := by
      simp only [callFunc, Sem.run_bind, run_program, Result.andThen_ok, f1, f3, f2]
      simp
    rw [hcf, Oper.upon_enter]
    refine Calls.mono f4 ?_
    rintro e w' ⟨v, rfl, g1, g2⟩
    exact fin v w' g1 g2
  · rw [f1, Oper.upon_value]
    exact fin v w' f2 f3

theorem CsRel.append {ok : Nat → Prop} {xs ys : List V} {xa ya : Array Value} (hx : CsRel w ok base L xs xa) (hy : CsRel w ok base L ys ya) : CsRel w ok base L (xs ++ ys) (xa ++ ya) := by
  refine ⟨by simp [hx.1, hy.1], fun i hi => ?_⟩
  have h1 := hx.1
  have h2 := hy.1
  simp only [List.length_append] at hi
  rw [List.getD_eq_getElem?_getD, Array.getD_eq_getD_getElem?]
  by_cases h : i < xs.length
  · rw [List.getElem?_append_left h, Array.getElem?_append_left (by omega)]
    have := hx.2 i h
    rwa [List.getD_eq_getElem?_getD, Array.getD_eq_getD_getElem?] at this
  · rw [List.getElem?_append_right (by omega), Array.getElem?_append_right (by omega)]
    have := hy.2 (i - xs.length) (by omega)
    rw [h1]
    rwa [List.getD_eq_getElem?_getD, Array.getD_eq_getD_getElem?] at this
theorem ones_rel {ok : Nat → Prop} {fr : Bool} {ds : List D} {xa : Array Value} (hl : xa.size = ds.length) (h : ∀ i, i < ds.length → CRel w (okS ok base fr) (ds.getD i .nilp) (xa.getD i undef)) : CsRel w ok base L (ds.map (.one fr)) xa := by
  refine ⟨by simp [hl], fun i hi => ?_⟩
  have hi' : i < ds.length := by simpa using hi
  have := h i hi'
  rw [getD_of_lt hi'] at this
  rw [getD_of_lt hi]
  simpa using VRel.one fr _ _ this
end
end Go.Proofs.EV
set_option linter.unusedVariables false
set_option linter.unusedSimpArgs false
/-! Callees that are lent objects. -/
set_option linter.unusedSectionVars false
namespace Go.Proofs.EV
open Go Go.RowKit
variable [Dr]

section
variable {P : Program} {base s m : Nat} {w : World} {L : Lks} {H : List Ob} {C : Cfg}

theorem nodup_snoc {m : List Nat} (h : m.Nodup) {id : Nat} (hn : m.contains id = false) : (m ++ [id]).Nodup := by
  rw [List.nodup_append]
  refine ⟨h, by simp, fun a ha b hb e => ?_⟩
  simp at hb
  subst hb
  subst e
  simp at hn
  exact hn ha

theorem reachHM_run {γ R : Type} {c : γ → List Ob → Option R} {r : R} : ∀ (n : Nat) (vs : List V) (acc : List Nat) (k : List Nat → HM γ), (reachHM n vs acc k).run H c = some r → acc.Nodup → ∃ kh, (k kh).run H c = some r ∧ kh.Nodup
  | 0, vs, acc, k, hr, ha => by cases vs <;> cases hr
  | n + 1, [], acc, k, hr, ha => ⟨acc, hr, ha⟩
  | n + 1, v :: vs, acc, k, hr, ha => by
    have hc : ∀ id, (cond (acc.contains id) acc (acc ++ [id])).Nodup := fun id => by
      cases e : acc.contains id with
      | true => exact ha
      | false => exact nodup_snoc ha e
    cases v with
    | rw id => exact reachHM_run n _ _ k hr (hc id)
    | rs id _ _ => exact reachHM_run n _ _ k hr (hc id)
    | re id _ _ => exact reachHM_run n _ _ k hr (hc id)
    | rm id => exact reachHM_run n _ _ k hr (hc id)
    | rit id => exact reachHM_run n _ _ k hr (hc id)
    | rp id off =>
      simp only [reachHM] at hr
      cases e : acc.contains id with
      | true => rw [e] at hr; exact reachHM_run n _ _ k hr ha
      | false =>
        rw [e] at hr
        simp only [cond_false, HM.run] at hr
        split at hr
        · exact reachHM_run n _ _ k hr (nodup_snoc ha e)
        · exact reachHM_run n _ _ k hr (nodup_snoc ha e)
    | agg cs => exact reachHM_run n _ _ k hr ha
    | tup cs => exact reachHM_run n _ _ k hr ha
    | fnv f a b => exact reachHM_run n _ _ k hr ha
    | one fr d => exact reachHM_run n _ _ k hr ha
    | nils sz => exact reachHM_run n _ _ k hr ha
    | pe fr sz es i j => exact reachHM_run n _ _ k hr ha
    | undef => exact reachHM_run n _ _ k hr ha

theorem getsHM_run {γ R : Type} {c : γ → List Ob → Option R} : ∀ (kh : List Nat) (k : List Ob → HM γ), (mapHM (fun id (k : Ob → HM γ) => .get id k) kh k).run H c = (k (kh.map fun id => H.getD id .dead)).run H c
  | [], k => rfl
  | id :: kh, k => by
    show (mapHM (fun id (k : Ob → HM γ) => .get id k) kh fun ds => k (H.getD id .dead :: ds)).run H c = _
    rw [getsHM_run kh]
    rfl

def puts (H : List Ob) : List Nat → List Ob → List Ob
  | id :: ids, o :: os => puts (H.set id o) ids os
  | _, _ => H
theorem putsHM_run {γ R : Type} {c : γ → List Ob → Option R} {k : HM γ} : ∀ (ids : List Nat) (os : List Ob) (H : List Ob), (putsHM ids os k).run H c = k.run (puts H ids os) c
  | [], os, H => by cases os <;> rfl
  | id :: ids, [], H => rfl
  | id :: ids, o :: os, H => by simp only [putsHM, HM.run, puts]; exact putsHM_run ids os _
theorem puts_len : ∀ (ids : List Nat) (os : List Ob) (H : List Ob), (puts H ids os).length = H.length
  | [], os, H => by cases os <;> rfl
  | id :: ids, [], H => rfl
  | id :: ids, o :: os, H => by rw [puts, puts_len]; simp
theorem puts_out : ∀ (ids : List Nat) (os : List Ob) (H : List Ob) (j : Nat), j ∉ ids → obj (puts H ids os) j = obj H j
  | [], os, H, j, _ => by cases os <;> rfl
  | id :: ids, [], H, j, _ => rfl
  | id :: ids, o :: os, H, j, hj => by
    simp only [List.mem_cons, not_or] at hj
    rw [puts, puts_out ids os _ j hj.2, obj_set, if_neg (by omega)]
theorem puts_in : ∀ (ids : List Nat) (os : List Ob) (H : List Ob), ids.Nodup → ids.length = os.length → (∀ id ∈ ids, id < H.length) → ∀ n (h : n < ids.length), obj (puts H ids os) ids[n] = obj os n
  | [], os, H, _, _, _, n, h => by simp at h
  | id :: ids, [], H, _, hl, _, n, h => by simp at hl
  | id :: ids, o :: os, H, hn, hl, hlt, n, h => by
    rw [List.nodup_cons] at hn
    rw [puts]
    cases n with
    | zero =>
      simp only [List.getElem_cons_zero]
      rw [puts_out ids os _ id hn.1, obj_set, if_pos ⟨rfl, hlt id (by simp)⟩]
      rfl
    | succ n =>
      simp only [List.getElem_cons_succ]
      rw [puts_in ids os _ hn.2 (by simpa using hl) (fun id' h' => by simpa using hlt id' (by simp [h'])) n (by simpa using h)]
      rfl

theorem idxOf_getElem {m : List Nat} (hm : m.Nodup) {n : Nat} (h : n < m.length) : m.idxOf? m[n] = some n := by
  show m.findIdx? (· == m[n]) = some n
  rw [List.findIdx?_eq_some_iff_getElem]
  refine ⟨h, by simp, fun j hj => ?_⟩
  simp only [beq_iff_eq]
  intro e
  exact List.pairwise_iff_getElem.1 hm j n (by omega) h hj e

/-- The objects that were lent come home. -/
theorem home_ok (hH : HRel w base L H) (hb : base ≤ w.heap.size) {kh : List Nat} (hn : kh.Nodup) (hlt : ∀ id ∈ kh, id < s) {q : Nat} (hq : q ≤ m) (hs : s + m ≤ H.length) (hLn : ∀ id, s ≤ id → id < s + m → L id = none)
    {hid : Nat → Prop} (hhid : ∀ b, hid b ↔ (L.hid b ∨ ∃ id lk, id ∉ kh ∧ live (obj H id) = true ∧ L id = some lk ∧ lk.b = some b))
    {w' : World} {L1 : Lks} {objs' : List Ob} (hl : objs'.length = kh.length + q) (hH1 : HRel w' base L1 objs') (hnn : ∀ n, notNest (obj objs' n) = true) (hnk : ∀ id ∈ kh, notNest (obj H id) = true) (hFr : Fr kh.length base w (renL kh L hid fun _ => none) (kh.map fun id => (H.getD id .dead).ren fun id => kh.idxOf? id) w' L1 objs') :
    ∃ L', HRel w' base L' (puts H (kh ++ List.range' s q) (objs'.map (Ob.ren fun n => (kh ++ List.range' s q)[n]?))) ∧ Ext base s m w L H w' L' (puts H (kh ++ List.range' s q) (objs'.map (Ob.ren fun n => (kh ++ List.range' s q)[n]?))) ∧
      ∀ v vc, VRel w' (okW w' L1 objs') base L1 v vc → VRel w' (okW w' L' (puts H (kh ++ List.range' s q) (objs'.map (Ob.ren fun n => (kh ++ List.range' s q)[n]?)))) base L' (v.ren fun n => (kh ++ List.range' s q)[n]?) vc := by
  generalize hmm : kh ++ List.range' s q = mm
  have hml : mm.length = objs'.length := by rw [← hmm, hl]; simp
  have hmn : mm.Nodup := by
    rw [← hmm, List.nodup_append]
    refine ⟨hn, List.nodup_range', fun a ha b hb e => ?_⟩
    have h1 := hlt a ha
    simp [List.mem_range'] at hb
    omega
  have hmem : ∀ id, id ∈ mm ↔ (id ∈ kh ∨ (s ≤ id ∧ id < s + q)) := fun id => by
    rw [← hmm, List.mem_append, List.mem_range']
    refine or_congr Iff.rfl ⟨fun ⟨i, h1, h2⟩ => by omega, fun h => ⟨id - s, by omega, by omega⟩⟩
  have hmlt : ∀ id ∈ mm, id < H.length := fun id h => by
    rcases (hmem id).1 h with h | h
    · have := hlt id h; omega
    · omega
  let L' : Lks := ⟨fun id => match mm.idxOf? id with | some n => L1 n | none => L id, L.hidO, L.lin⟩
  have hLin : ∀ n (h : n < mm.length), L' mm[n] = L1 n := fun n h => by simp only [L']; rw [idxOf_getElem hmn h]
  have hLout : ∀ id, id ∉ mm → L' id = L id := fun id h => by
    simp only [L']
    have : mm.idxOf? id = none := by
      show mm.findIdx? (· == id) = none
      rw [List.findIdx?_eq_none_iff]
      intro x hx
      simp only [beq_eq_false_iff_ne]
      exact fun e => h (e ▸ hx)
    rw [this]
  generalize hPP : puts H mm (objs'.map (Ob.ren fun n => mm[n]?)) = PP
  have hPout : ∀ id, id ∉ mm → obj PP id = obj H id := fun id h => by rw [← hPP]; exact puts_out _ _ _ _ h
  have hPin : ∀ n (h : n < mm.length), obj PP mm[n] = (obj objs' n).ren fun n => mm[n]? := fun n h => by
    rw [← hPP, puts_in mm _ H hmn (by simpa using hml) hmlt n h]
    unfold obj
    rw [getD_of_lt (by simpa using (hml ▸ h)), getD_of_lt (by omega)]
    simp
  have hPlen : PP.length = H.length := by rw [← hPP]; exact puts_len ..
  have hren : RenL (fun n => mm[n]?) L1 L' := fun {id n lk} h1 h2 => by
    obtain ⟨hlt', e⟩ := List.getElem?_eq_some_iff.1 h1
    subst e
    rw [hLin id hlt']; exact h2
  -- those that were lent keep what they are linked to
  have hLk : ∀ id ∈ kh, L' id = L id := fun id h => by
    obtain ⟨n, hn', e⟩ := List.getElem_of_mem h
    have h1 : n < mm.length := by rw [← hmm]; simp; omega
    have h2 : mm[n] = id := by subst e; simp [← hmm, List.getElem_append_left hn']
    rw [← h2, hLin n h1, hFr.ids n hn']
    simp [renL, hn', h2, ← e]
  have hown1 : ∀ b, own L' PP b ↔ (own L1 objs' b ∨ ∃ id lk, id ∉ mm ∧ live (obj H id) = true ∧ L id = some lk ∧ lk.b = some b) := by
    intro b
    constructor
    · rintro ⟨id, lk, h1, h2, h3⟩
      by_cases hi : id ∈ mm
      · obtain ⟨n, hn', e⟩ := List.getElem_of_mem hi
        subst e
        rw [hPin n hn', live_ren] at h1
        rw [hLin n hn'] at h2
        exact .inl ⟨n, lk, h1, h2, h3⟩
      · rw [hPout id hi] at h1
        rw [hLout id hi] at h2
        exact .inr ⟨id, lk, hi, h1, h2, h3⟩
    · rintro (⟨n, lk, h1, h2, h3⟩ | ⟨id, lk, h0, h1, h2, h3⟩)
      · have hn' : n < mm.length := by rw [hml]; exact live_lt h1
        exact ⟨mm[n], lk, by rw [hPin n hn', live_ren]; exact h1, by rw [hLin n hn']; exact h2, h3⟩
      · exact ⟨id, lk, by rw [hPout id h0]; exact h1, by rw [hLout id h0]; exact h2, h3⟩
  -- objects that were not lent: new numbers were dead
  have hothers : ∀ b, (∃ id lk, id ∉ mm ∧ live (obj H id) = true ∧ L id = some lk ∧ lk.b = some b) ↔ (∃ id lk, id ∉ kh ∧ live (obj H id) = true ∧ L id = some lk ∧ lk.b = some b) := by
    intro b
    constructor
    · rintro ⟨id, lk, h0, h⟩; exact ⟨id, lk, fun h1 => h0 ((hmem id).2 (.inl h1)), h⟩
    · rintro ⟨id, lk, h0, h1, h2, h3⟩
      refine ⟨id, lk, fun hi => ?_, h1, h2, h3⟩
      rcases (hmem id).1 hi with h | h
      · exact h0 h
      · rw [hLn id h.1 (by omega)] at h2; cases h2
  have hhid1 : L1.hidO = hid := by rw [hFr.hl]; rfl
  have hLh : ∀ b, L'.hid b ↔ L.hid b := fun b => Iff.rfl
  have hokeq : ∀ b, okW w' L1 objs' b → okW w' L' PP b := by
    intro b h
    refine ⟨h.lt, fun ho => ?_, fun hh => h.nh (.inl (by rw [hhid1]; exact (hhid b).2 (.inl hh)))⟩
    rcases (hown1 b).1 ho with h1 | h1
    · exact h.no h1
    · exact h.nh (.inl (by rw [hhid1]; exact (hhid b).2 (.inr ((hothers b).1 h1))))
  have hok0 := (ren_ok hH hn hid (fun _ => none) (.inr hnk) fun b h => (hhid b).1 (by
    rcases h with h | h
    · exact h
    · cases h)).2
  have hok : ∀ b, okW w L H b → okW w' L' PP b ∧ w'.heap[b]? = w.heap[b]? := fun b h => by
    obtain ⟨h1, h2⟩ := hFr.ok b (hok0 b h)
    exact ⟨hokeq b h1, h2⟩
  have hle : LkLe L L' := fun id lk h => by
    by_cases hi : id ∈ mm
    · rcases (hmem id).1 hi with h1 | h1
      · rw [hLk id h1]; exact h
      · rw [hLn id h1.1 (by omega)] at h; cases h
    · rw [hLout id hi]; exact h
  have hhd : ∀ b, hid b → b < w.heap.size → w'.heap[b]? = w.heap[b]? := fun b h hlt' => hFr.hd b h hlt'
  refine ⟨L', ⟨fun id hlv => ?_, fun id lk b hlv h1 h2 => ?_, fun id id' lk lk' b hlv hlv' h1 h2 h3 h4 => ?_, fun id hid' => ?_, fun id lk b hlv h1 h2 hh => ?_, fun b hh => Nat.lt_of_lt_of_le (hH.hlt b hh) hFr.below.size⟩, ⟨hle, fun id hi => ?_, hPlen, hok, hFr.below, rfl, fun b hh hlt' => hhd b ((hhid b).2 (.inl (.inl hh))) hlt'⟩, fun v vc hv => (hv.ren hren).lift (fun b hb => ⟨hokeq b hb, rfl⟩) (fun _ _ h => h)⟩
  · by_cases hi : id ∈ mm
    · obtain ⟨n, hn', e⟩ := List.getElem_of_mem hi
      subst e
      rw [hPin n hn', live_ren] at hlv
      obtain ⟨lk, q1, q2⟩ := hH1.ob n hlv
      refine ⟨lk, by rw [hLin n hn']; exact q1, ?_⟩
      rw [hPin n hn']
      exact (q2.ren hren (.inl (hnn n))).lift (fun b hb => ⟨hokeq b hb, rfl⟩) (fun _ _ h => h) (fun _ _ => rfl) (fun _ _ _ _ h h' => ⟨h, h', rfl⟩)
    · rw [hPout id hi] at hlv ⊢
      obtain ⟨lk, q1, q2⟩ := hH.ob id hlv
      refine ⟨lk, by rw [hLout id hi]; exact q1, q2.lift hok hle (fun b hb' => ?_) fun _ x _ _ h h' => ⟨h, h', hhd x ((hhid x).2 (.inl (Lks.hid_lin h))) (hH.hlt x (Lks.hid_lin h))⟩⟩
      exact hhd b ((hhid b).2 (.inr ⟨id, lk, fun h => hi ((hmem id).2 (.inl h)), hlv, q1, hb'⟩)) (hH.rng id lk b hlv q1 hb').2
  · by_cases hi : id ∈ mm
    · obtain ⟨n, hn', e⟩ := List.getElem_of_mem hi
      subst e
      rw [hPin n hn', live_ren] at hlv
      rw [hLin n hn'] at h1
      exact hH1.rng n lk b hlv h1 h2
    · rw [hPout id hi] at hlv
      rw [hLout id hi] at h1
      have := hH.rng id lk b hlv h1 h2
      exact ⟨this.1, Nat.lt_of_lt_of_le this.2 hFr.below.size⟩
  · have mixed : ∀ id id' lk lk' b, id ∈ mm → id' ∉ mm → live (obj PP id) = true → live (obj PP id') = true → L' id = some lk → L' id' = some lk' → lk.b = some b → lk'.b = some b → False := by
      intro id id' lk lk' b hi hi' hlv hlv' h1 h2 h3 h4
      obtain ⟨n, hn', e⟩ := List.getElem_of_mem hi
      subst e
      rw [hPin n hn', live_ren] at hlv
      rw [hLin n hn'] at h1
      rw [hPout id' hi'] at hlv'
      rw [hLout id' hi'] at h2
      refine hH1.nh n lk b hlv h1 h3 (.inl ?_)
      rw [hhid1]
      exact (hhid b).2 (.inr ⟨id', lk', fun h => hi' ((hmem id').2 (.inl h)), hlv', h2, h4⟩)
    by_cases hi : id ∈ mm <;> by_cases hi' : id' ∈ mm
    · obtain ⟨n, hn', e⟩ := List.getElem_of_mem hi
      obtain ⟨n', hn'', e'⟩ := List.getElem_of_mem hi'
      subst e
      subst e'
      rw [hPin n hn', live_ren] at hlv
      rw [hLin n hn'] at h1
      rw [hPin n' hn'', live_ren] at hlv'
      rw [hLin n' hn''] at h2
      have := hH1.inj n n' lk lk' b hlv hlv' h1 h2 h3 h4
      subst this
      rfl
    · exact (mixed id id' lk lk' b hi hi' hlv hlv' h1 h2 h3 h4).elim
    · exact (mixed id' id lk' lk b hi' hi hlv' hlv h2 h1 h4 h3).elim
    · rw [hPout id hi] at hlv
      rw [hLout id hi] at h1
      rw [hPout id' hi'] at hlv'
      rw [hLout id' hi'] at h2
      exact hH.inj id id' lk lk' b hlv hlv' h1 h2 h3 h4
  · rw [hPlen] at hid'
    have : id ∉ mm := fun h => by have := hmlt id h; omega
    rw [hLout id this]
    exact hH.out id hid'
  · have hh' : L.hid b := hh
    by_cases hi : id ∈ mm
    · obtain ⟨n, hn', e⟩ := List.getElem_of_mem hi
      subst e
      rw [hPin n hn', live_ren] at hlv
      rw [hLin n hn'] at h1
      refine hH1.nh n lk b hlv h1 h2 (.inl ?_)
      rw [hhid1]
      exact (hhid b).2 (.inl hh')
    · rw [hPout id hi] at hlv
      rw [hLout id hi] at h1
      exact hH.nh id lk b hlv h1 h2 hh'
  · by_cases hi' : id ∈ mm
    · rcases (hmem id).1 hi' with h1 | h1
      · exact hLk id h1
      · omega
    · exact hLout id hi'

/-- A call of a function that is lent objects. -/
theorem callB_ok {R : Type} {c : V → List Ob → Option R} {r : R} (hM : MOk P C) (hH : HRel w base L H) (hb : base ≤ w.heap.size) (hG : GlobOk C w (okW w L H)) {g : FuncId} {args : List V} {vargs : Array Value} (hargs : CsRel w (okW w L H) base L args vargs)
    (hs : s + m ≤ H.length) (hm : C.news g ≤ m) (hL : ∀ id, s ≤ id → id < s + m → L id = none) (hr : (callBHM C g args s).run H c = some r)
    {o : Oper} {a : Act} {K : Act → World → Prop} {Q' : Exit → Act → World → Prop} (ho : (execOp a.eval o).run P w = (callFunc g vargs).run P w)
    (hK : ∀ v H' vc w' L', c v H' = some r → Ext base s m w L H w' L' H' → HRel w' base L' H' → VRel w' (okW w' L' H') base L' v vc → K (a.put o.dst vc) w') : o.wp P a w K Q' := by
  unfold callBHM at hr
  obtain ⟨kh, hr, hn⟩ := reachHM_run 1000 args [] _ hr List.nodup_nil
  cases hlt : kh.all fun id => decide (id < s) with
  | false => rw [hlt] at hr; cases hr
  | true =>
  rw [hlt] at hr
  simp only [cond_true] at hr
  rw [getsHM_run] at hr
  cases hno : (kh.map fun id => H.getD id .dead).all notNest with
  | false => rw [hno] at hr; cases hr
  | true =>
  rw [hno] at hr
  simp only [cond_true] at hr
  have hnk : ∀ id ∈ kh, notNest (obj H id) = true := fun id h => List.all_eq_true.1 hno _ (List.mem_map_of_mem h)
  obtain ⟨⟨res, objs'⟩, hout, hr⟩ := andThen_run _ _ hr
  dsimp only at hr
  cases hlen : decide (objs'.length = kh.length + C.news g) && objs'.all notNest with
  | false => rw [hlen] at hr; cases hr
  | true =>
  rw [hlen] at hr
  simp only [cond_true] at hr
  rw [putsHM_run] at hr
  rw [Bool.and_eq_true] at hlen
  obtain ⟨hlen, hnn⟩ := hlen
  have hnn : ∀ n, notNest (obj objs' n) = true := fun n => by
    unfold obj
    by_cases h : n < objs'.length
    · rw [getD_of_lt h]
      exact List.all_eq_true.1 hnn _ (List.getElem_mem h)
    · rw [List.getD_eq_getElem?_getD, List.getElem?_eq_none (by omega)]; rfl
  have hlen := of_decide_eq_true hlen
  have hlt' : ∀ id ∈ kh, id < s := fun id h => by simpa using List.all_eq_true.1 hlt id h
  rw [List.map_map] at hout
  let hid : Nat → Prop := fun b => L.hid b ∨ ∃ id lk, id ∉ kh ∧ live (obj H id) = true ∧ L id = some lk ∧ lk.b = some b
  obtain ⟨h1, h2⟩ := ren_ok hH hn hid (fun _ => none) (.inr hnk) fun b h => by
    rcases h with h | h
    · exact h
    · cases h
  have hsnd := hM.b g _ _ res objs' hout base w (renL kh L hid fun _ => none) vargs hb h1 (fun g' => (hG g').lift fun b hb => ⟨h2 b hb, rfl⟩) ⟨(hargs.ren (renL_ok kh L hid fun _ => none)).1, fun i hi => ((hargs.ren (renL_ok kh L hid fun _ => none)).2 i hi).lift (fun b hb => ⟨h2 b hb, rfl⟩) (fun _ _ h => h)⟩
  have fin : ∀ v w', BEnd base w (renL kh L hid fun _ => none) (kh.map ((Ob.ren fun id => kh.idxOf? id) ∘ fun id => H.getD id .dead)) res objs' v w' → K (a.put o.dst v) w' := by
    rintro v w' ⟨vals, L1, rfl, q1, q2, q3, q4⟩
    obtain ⟨L', k1, k2, k3⟩ := home_ok (m := m) hH hb hn hlt' hm hs hL (fun b => Iff.rfl) hlen q3 hnn hnk (by rw [List.length_map] at q4; exact q4)
    refine hK _ _ _ _ _ hr k2 k1 (pack_rel (by simpa using q1) fun i hi => ?_)
    have hi' : i < res.length := by simpa using hi
    have := k3 _ _ (q2 i hi')
    rw [getD_of_lt hi'] at this
    rw [getD_of_lt hi]
    simpa using this
  unfold Oper.wp
  rw [ho]
  rcases hsnd with ⟨fn, f1, f2, f3, f4⟩ | ⟨v, w', f1, f2⟩
  · have hcf : (callFunc g vargs).run P w = .ok (.enter g vargs) w := by
      simp only [callFunc, Sem.run_bind, run_program, Result.andThen_ok, f1, f3, f2]
      simp
    rw [hcf, Oper.upon_enter]
    refine Calls.mono f4 ?_
    rintro e w' ⟨v, rfl, g1⟩
    exact fin v w' g1
  · rw [f1, Oper.upon_value]
    exact fin v w' f2
end
end Go.Proofs.EV
set_option linter.unusedVariables false
set_option linter.unusedSimpArgs false
set_option linter.unusedSectionVars false
namespace Go.Proofs.EV
open Go Go.RowKit
variable [Dr]

section
variable {P : Program} {base s m : Nat} {w : World} {L : Lks} {H : List Ob} {C : Cfg}

/-- A call. -/
theorem callAny_ok {R : Type} {c : V → List Ob → Option R} {r : R} (hM : MOk P C) (hH : HRel w base L H) (hb : base ≤ w.heap.size) (hG : GlobOk C w (okW w L H)) {g : FuncId} {args : List V} {vargs : Array Value} (hargs : CsRel w (okW w L H) base L args vargs)
    (hs : s + m ≤ H.length) (hm : room C g ≤ m) (hL : ∀ id, s ≤ id → id < s + m → L id = none) (hr : (callAny C g args s).run H c = some r)
    {o : Oper} {a : Act} {K : Act → World → Prop} {Q' : Exit → Act → World → Prop} (ho : (execOp a.eval o).run P w = (callFunc g vargs).run P w)
    (hK : ∀ v H' vc w' L', c v H' = some r → Ext base s m w L H w' L' H' → HRel w' base L' H' → VRel w' (okW w' L' H') base L' v vc → K (a.put o.dst vc) w') : o.wp P a w K Q' := by
  unfold callAny at hr
  unfold room at hm
  cases e : C.bor g with
  | true =>
    rw [e] at hr hm
    exact callB_ok hM hH hb hG hargs hs hm hL hr ho hK
  | false =>
    rw [e] at hr hm
    exact call_ok hM hH hb hG hargs hs hm hL hr ho hK

/-- EVERY OPERATION. -/
theorem op_wp {R : Type} {c : V → List Ob → Option R} {r : R} (hC : CfgOk P C) (hM : MOk P C) (hH : HRel w base L H) (hb : base ≤ w.heap.size) (hG : GlobOk C w (okW w L H)) {o : Oper} {a : Act} {ρ : Operand → V} (hρ : ∀ x, VRel w (okW w L H) base L (ρ x) (a.eval x))
    (hs : s + need C o.op o.type ≤ H.length) (hL : ∀ id, s ≤ id → id < s + need C o.op o.type → L id = none) (hr : (opHM C o.op o.type ρ s).run H c = some r)
    {K : Act → World → Prop} {Q' : Exit → Act → World → Prop}
    (hK : ∀ v H' vc w' L', c v H' = some r → Ext base s (need C o.op o.type) w L H w' L' H' → HRel w' base L' H' → VRel w' (okW w' L' H') base L' v vc → K (a.put o.dst vc) w') : o.wp P a w K Q' := by
  by_cases hp : plainOp o.op = true
  · obtain ⟨v, H', vc, w', L', h1, h2, h3, h4, h5⟩ := (plain_ok hH hC hb hp hρ hs hL).out R c r hr
    have := hK v H' vc w' L' h1 h3 h4 h5
    unfold Oper.wp
    rcases h2 with h2 | ⟨h2, rfl⟩
    · rw [h2]; exact this
    · rw [h2]; exact this
  · obtain ⟨dst, op, type, pos, after, guard⟩ := o
    dsimp only at hp hs hL hr
    cases op <;> try exact absurd rfl hp
    rename_i cl
    obtain ⟨callee, args, argTypes⟩ := cl
    have hargs := list_rel hρ args.toList
    have e1 : (args.toList.map a.eval).toArray = args.map a.eval := by apply Array.ext'; simp
    rw [e1] at hargs
    cases callee with
    | builtin b => exact absurd rfl hp
    | invoke x n => simp only [opHM] at hr; cases hr
    | value f =>
      simp only [opHM] at hr
      split at hr
      · rename_i h; cases h
      · rename_i g h
        cases h
        refine callAny_ok hM hH hb hG hargs hs (Nat.le_refl _) hL hr ?_ hK
        simp [execOp, resolve, Deferred.ofValue, invoke, Act.eval]
      · rename_i f' h0 h
        cases h
        have hneed : need C (.call ⟨.value f, args, argTypes⟩) type = 2 := by
          simp only [need]
          first
          | done
          | (split <;> first
            | rfl
            | (rename_i hh; cases hh; done)
            | (rename_i hh; cases hh; exact absurd rfl (h0 _))
            | (rename_i hh; exact absurd rfl (hh _)))
        rw [hneed] at hs hL
        dsimp only at hK
        rw [hneed] at hK
        have hf := hρ f
        split at hr
        · rename_i g va vb hfe
          rw [hfe] at hf
          split at hr
          · rename_i hown
            generalize hvf : a.eval f = vf at hf
            cases hf with
            | fnv _ _ _ wa wb ha hbb h1 h2 =>
              have hA : CsRel w (okW w L H) base L va wa := ⟨ha, h1⟩
              have hB : CsRel w (okW w L H) base L vb wb := ⟨hbb, h2⟩
              refine callAny_ok hM hH hb hG ((hA.append hargs).append hB) hs hown hL hr ?_ hK
              simp [execOp, resolve, Deferred.ofValue, invoke, hvf]
          · cases hr
        · rename_i fr g va vb hfe
          rw [hfe] at hf
          split at hr
          · rename_i hown
            generalize hvf : a.eval f = vf at hf
            cases hf with
            | one _ _ _ hd =>
            cases hd with
            | fn _ _ _ wa wb ha hbb h1 h2 =>
              have hA : CsRel w (okW w L H) base L (va.map (.one fr)) wa := ones_rel ha h1
              have hB : CsRel w (okW w L H) base L (vb.map (.one fr)) wb := ones_rel hbb h2
              refine callAny_ok hM hH hb hG ((hA.append hargs).append hB) hs hown hL hr ?_ hK
              simp [execOp, resolve, Deferred.ofValue, invoke, hvf]
          · cases hr
        · cases hr
      · cases hr
end
end Go.Proofs.EV
set_option linter.unusedVariables false
set_option linter.unusedSimpArgs false
set_option linter.unusedSectionVars false
namespace Go.Proofs.EV
open Go Go.RowKit
variable [Dr]

/-- The evaluator's state and the machine's. -/
structure SR (C : Cfg) (base : Nat) (w : World) (L : Lks) (st : St) (a : Act) : Prop where
  sz : a.tmps.size = st.t.length
  t : ∀ i, VRel w (okW w L st.h) base L (st.t.getD i .undef) (a.tmps.getD i undef)
  h : HRel w base L st.h
  g : GlobOk C w (okW w L st.h)
  d : a.defers = []
  b : base ≤ w.heap.size
  nb : C.nb ≤ st.h.length

section
variable {P : Program} {base : Nat} {w : World} {L : Lks} {C : Cfg} {st : St} {a : Act}

theorem constV_rel {ok : Nat → Prop} (v : Value) : VRel w ok base L (constV v) v := by
  unfold constV
  split
  · exact .one _ _ _ (.int _ _)
  · exact .one _ _ _ (.bool _)
  · exact .one _ _ _ (.str _)
  · exact .nils 0
  · exact .one _ _ _ .nilp
  · exact .one _ _ _ .nilm
  · exact .one _ _ _ .nilf
  · exact .one _ _ _ .nili
  · exact .undef _

theorem SR.val (h : SR C base w L st a) (x : Operand) : VRel w (okW w L st.h) base L (St.val C st.t x) (a.eval x) := by
  cases x with
  | tmp i => exact h.t i
  | const v => exact constV_rel v
  | global g => exact (h.g g).v
  | func f => exact .fnv f [] [] #[] #[] rfl rfl (fun i hi => by simp at hi) (fun i hi => by simp at hi)

theorem put_rel {t : List V} {ok : Nat → Prop} (hsz : a.tmps.size = t.length) (ht : ∀ i, VRel w ok base L (t.getD i .undef) (a.tmps.getD i undef)) {v : V} {vc : Value} (hv : VRel w ok base L v vc) (dst : Option Tmp) :
    (a.put dst vc).tmps.size = (setDst t dst v).length ∧ ∀ i, VRel w ok base L ((setDst t dst v).getD i .undef) ((a.put dst vc).tmps.getD i undef) := by
  cases dst with
  | none => exact ⟨hsz, ht⟩
  | some d =>
    refine ⟨by simp [Act.put, setDst, hsz], fun i => ?_⟩
    simp only [Act.put, setDst, List.getD_eq_getElem?_getD, Array.getD_eq_getD_getElem?]
    by_cases h : d = i
    · subst h
      by_cases hlt : (d : Nat) < t.length
      · rw [List.getElem?_set_self hlt, Array.getElem?_setIfInBounds_self_of_lt (hsz ▸ hlt)]
        exact hv
      · rw [List.getElem?_eq_none (by simp; exact Nat.le_of_not_lt hlt)]
        exact .undef _
    · rw [List.getElem?_set_ne h, Array.getElem?_setIfInBounds_ne h]
      have := ht i
      rwa [List.getD_eq_getElem?_getD, Array.getD_eq_getD_getElem?] at this

theorem SR.put (h : SR C base w L st a) {v : V} {vc : Value} (hv : VRel w (okW w L st.h) base L v vc) (dst : Option Tmp) : SR C base w L ⟨setDst st.t dst v, st.h⟩ (a.put dst vc) := by
  obtain ⟨h1, h2⟩ := put_rel h.sz h.t hv dst
  exact ⟨h1, h2, h.h, h.g, by cases dst <;> exact h.d, h.b, h.nb⟩

/-- A temporary is known better. -/
theorem SR.know (h : SR C base w L st a) (d : Nat) {v : V} (hv : VRel w (okW w L st.h) base L v (a.tmps.getD d undef)) : SR C base w L ⟨st.t.set d v, st.h⟩ a := by
  refine ⟨by simp [h.sz], fun i => ?_, h.h, h.g, h.d, h.b, h.nb⟩
  simp only [List.getD_eq_getElem?_getD]
  by_cases e : d = i
  · subst e
    by_cases hlt : d < st.t.length
    · rw [List.getElem?_set_self hlt]; exact hv
    · rw [List.getElem?_eq_none (by simp; omega)]; exact .undef _
  · rw [List.getElem?_set_ne e]
    have := h.t i
    rwa [List.getD_eq_getElem?_getD] at this

theorem HRel.more {H : List Ob} (h : HRel w base L H) (n : Nat) : HRel w base L (H ++ List.replicate n .dead) ∧ ∀ b, okW w L (H ++ List.replicate n .dead) b ↔ okW w L H b := by
  have ho : ∀ id, obj (H ++ List.replicate n .dead) id = obj H id := by
    intro id
    unfold obj
    simp only [List.getD_eq_getElem?_getD]
    by_cases hlt : id < H.length
    · rw [List.getElem?_append_left hlt]
    · rw [List.getElem?_append_right (by omega), List.getElem?_eq_none (l := H) (by omega)]
      by_cases h2 : id - H.length < n
      · rw [List.getElem?_replicate_of_lt h2]; rfl
      · rw [List.getElem?_eq_none (by simp; omega)]
  have hok : okW w L (H ++ List.replicate n .dead) = okW w L H := by
    have e : own L (H ++ List.replicate n .dead) = own L H := by funext b; simp only [own, ho]
    funext b
    exact propext ⟨fun h => ⟨h.lt, by rw [← e]; exact h.no, h.nh⟩, fun h => ⟨h.lt, by rw [e]; exact h.no, h.nh⟩⟩
  refine ⟨⟨fun id hl => ?_, fun id lk b hl => ?_, fun id id' lk lk' b hl hl' => ?_, fun id hid => h.out id (by simp at hid; omega), fun id lk b hl => ?_, h.hlt⟩, fun b => by rw [hok]⟩
  · rw [ho] at hl ⊢
    rw [hok]
    exact h.ob id hl
  · rw [ho] at hl; exact h.rng id lk b hl
  · rw [ho] at hl hl'; exact h.inj id id' lk lk' b hl hl'
  · rw [ho] at hl; exact h.nh id lk b hl

theorem evOps_sound {R : Type} (hC : CfgOk P C) (hM : MOk P C) {ops : Array Oper} {Q : Exit → Act → World → Prop} : ∀ (l : List Oper) {w : World} {L : Lks} {st : St} {a : Act} (k : St → Option R) (r : R) (hr : evOps C ops.toList l st k = some r) (hS : SR C base w L st a)
    (hk : ∀ st' a' w' L', k st' = some r → SR C base w' L' st' a' → Fr C.nb base w L st.h w' L' st'.h → Q .normal a' w'), wpList P ops Q l a w
  | [], w, L, st, a, k, r, hr, hS, hk => hk st a w L hr hS (Fr.refl ..)
  | o :: os, w, L, st, a, k, r, hr, hS, hk => by
    have go : ∀ (t : List V) (hS' : SR C base w L ⟨t, st.h⟩ a) (hr' : ((opHM C o.op o.type (St.val C t) st.h.length).run (st.h ++ List.replicate (need C o.op o.type) .dead) fun v h => evOps C ops.toList os ⟨setDst t o.dst v, h⟩ k) = some r), o.wp P a w (wpList P ops Q os) Q := by
      intro t hS' hr'
      obtain ⟨hm, hok⟩ := hS.h.more (need C o.op o.type)
      have hmono : ∀ b, okW w L st.h b → okW w L (st.h ++ List.replicate (need C o.op o.type) .dead) b ∧ w.heap[b]? = w.heap[b]? := fun b hb => ⟨(hok b).2 hb, rfl⟩
      refine op_wp hC hM hm hS.b (fun g => (hS.g g).lift hmono) (ρ := St.val C t) (fun x => (hS'.val x).lift hmono (fun _ _ h => h)) (by simp) (fun id h1 h2 => hS.h.out id h1) hr' ?_
      intro v H' vc w' L' hc hx hH' hv
      have hlift := fun b hb => hx.ok b ((hok b).2 hb)
      have hfr : Fr C.nb base w L st.h w' L' H' := ⟨hx.below, hlift, fun id hi => hx.only id (.inl (Nat.lt_of_lt_of_le hi hS.nb)), hx.hl, hx.hd⟩
      obtain ⟨p1, p2⟩ := put_rel hS'.sz (fun i => (hS'.t i).lift hlift hx.le) hv o.dst
      refine evOps_sound hC hM os k r hc (L := L') ⟨p1, p2, hH', fun g => (hS.g g).lift hlift, by cases o.dst <;> exact hS.d, Nat.le_trans hS.b hx.below.size, ?_⟩ (fun st' a' w'' L'' q1 q2 q3 => hk st' a' w'' L'' q1 q2 (hfr.trans q3))
      have := hx.len
      simp only [List.length_append] at this
      have := hS.nb
      show C.nb ≤ H'.length
      omega
    have skip : ∀ (t : List V) (hS' : SR C base w L ⟨t, st.h⟩ a) (hr' : evOps C ops.toList os ⟨setDst t o.dst (.tup []), st.h⟩ k = some r), wpList P ops Q os (a.put o.dst undef) w := by
      intro t hS' hr'
      exact evOps_sound hC hM os k r hr' (hS'.put tup0_rel o.dst) hk
    unfold evOps at hr
    unfold wpList
    dsimp only at hr
    split at hr
    · rename_i hg
      rw [if_pos (by simp [Region.wanted, hg])]
      exact .inl (go st.t hS hr)
    · rename_i g want hg
      split at hr
      · rename_i d hd
        have hd' : (ops[g]?).bind (·.dst) = some d := by simpa using hd
        have hw : Region.wanted o (yielded ops a.tmps) = (yielded ops a.tmps g == some want) := by simp [Region.wanted, hg]
        split at hr
        · rename_i fr b hv
          have hv' := hS.t d
          rw [hv] at hv'
          have hb := hv'.bool_inv
          have hget : a.tmps[d]? = some (.bool b) := by
            rw [Array.getD_eq_getD_getElem?] at hb
            cases e : a.tmps[d]? with
            | none => rw [e] at hb; cases hb
            | some x => rw [e] at hb; simpa using hb
          have hy : yielded ops a.tmps g = some b := by simp [yielded, hd', hget]
          have hk' : ∀ c, c = b → SR C base w L ⟨st.t.set d (vbool c), st.h⟩ a := fun c e => hS.know d (by rw [hb, e]; exact vbool_rel b)
          rw [hw, hy]
          cases want with
          | true =>
            cases b with
            | true => exact .inl (go _ (hk' true rfl) hr)
            | false => exact skip _ (hk' false rfl) hr
          | false =>
            cases b with
            | true => exact skip _ (hk' true rfl) hr
            | false => exact .inl (go _ (hk' false rfl) hr)
        · rename_i hv
          have hv' := hS.t d
          rw [hv] at hv'
          have hnb : yielded ops a.tmps g = none := by
            rw [Array.getD_eq_getD_getElem?] at hv'
            cases e : a.tmps[d]? with
            | none => simp [yielded, hd', e]
            | some x =>
              rw [e] at hv'
              cases hv' with
              | tup _ arr hl hx => simp [yielded, hd', e]
          rw [hw, hnb]
          exact skip _ hS hr
        · cases hr
      · cases hr

/-! ### Code -/
def X.exit : X → Exit
  | .nrm => .normal
  | .ext id => .exit id
  | .ret => .ret

/-- What is forgotten changes nothing. -/
def FgOk (C : Cfg) (g : St → St) : Prop := ∀ (base : Nat) (w : World) (L : Lks) (st : St) (a : Act), SR C base w L st a → ∃ L', SR C base w L' (g st) a ∧ Fr C.nb base w L st.h w L' (g st).h

/-- A region whose order is drawn. -/
def DrawOk (P : Program) (C : Cfg) : Prop := ∀ (R : Type) (base id : Nat) (w : World) (L : Lks) (st : St) (a : Act) (ops : Array Oper) (k : St → Option R) (r : R) (Q : Exit → Act → World → Prop), evDraw C ops.toList st k = some r → SR C base w L st a →
  (∀ st' a' w' L', k st' = some r → SR C base w' L' st' a' → Fr C.nb base w L st.h w' L' st'.h → Q .normal a' w') → (Code.region id ops true).wp P Q a w

theorem evK_sound {R : Type} (hC : CfgOk P C) (hM : MOk P C) (hD : DrawOk P C) (hF : ∀ id, FgOk C (keepAt C id)) (n : Nat) : ∀ (c : Code) {w : World} {L : Lks} {st : St} {a : Act} (k : Kx R) (r : R) (Q : Exit → Act → World → Prop) (hr : evK C (lpN n) c st k = some r) (hS : SR C base w L st a)
    (hk : ∀ x st' a' w' L', k x st' = some r → SR C base w' L' st' a' → Fr C.nb base w L st.h w' L' st'.h → Q x.exit a' w'), c.wp P Q a w := by
  intro c
  induction c with
  | skip => intro w L st a k r Q hr hS hk; exact wp_skip (hk .nrm st a w L hr hS (Fr.refl ..))
  | exit id => intro w L st a k r Q hr hS hk; exact wp_exit (hk (.ext id) st a w L hr hS (Fr.refl ..))
  | ret => intro w L st a k r Q hr hS hk; exact wp_ret (hk .ret st a w L hr hS (Fr.refl ..))
  | region id ops draw =>
    intro w L st a k r Q hr hS hk
    obtain ⟨L1, hS1, hf1⟩ := hF id base w L st a hS
    simp only [evK] at hr
    cases draw with
    | true => exact hD R base id w L1 _ a ops _ r Q hr hS1 (fun st' a' w' L' h1 h2 h3 => hk .nrm st' a' w' L' h1 h2 (hf1.trans h3))
    | false => exact wp_region_list (evOps_sound hC hM ops.toList _ r hr hS1 (fun st' a' w' L' h1 h2 h3 => hk .nrm st' a' w' L' h1 h2 (hf1.trans h3)))
  | seq x y ihx ihy =>
    intro w L st a k r Q hr hS hk
    simp only [evK] at hr
    refine wp_seq (ihx _ r _ hr hS fun e st' a' w' L' h1 h2 h3 => ?_)
    cases e with
    | nrm => exact ihy k r Q h1 h2 (fun e st'' a'' w'' L'' q1 q2 q3 => hk e st'' a'' w'' L'' q1 q2 (h3.trans q3))
    | ext id => exact hk _ _ _ _ _ h1 h2 h3
    | ret => exact hk _ _ _ _ _ h1 h2 h3
  | cond c x y ihx ihy =>
    intro w L st a k r Q hr hS hk
    simp only [evK] at hr
    split at hr
    · rename_i fr t hv
      have hv' := hS.val c
      rw [hv] at hv'
      have hb := hv'.bool_inv
      have hS' : ∀ b, b = t → SR C base w L ⟨setB c b st.t, st.h⟩ a := fun b e => by
        subst e
        cases c with
        | tmp i => exact hS.know i (by
            have : a.tmps.getD i undef = .bool b := hb
            rw [this]; exact vbool_rel b)
        | _ => exact hS
      cases t with
      | true => exact wp_cond_true hb (ihx k r Q hr (hS' true rfl) hk)
      | false => exact wp_cond_false hb (ihy k r Q hr (hS' false rfl) hk)
    · cases hr
  | block id b ih =>
    intro w L st a k r Q hr hS hk
    simp only [evK] at hr
    refine wp_block (ih _ r _ hr hS fun e st' a' w' L' h1 h2 h3 => ?_)
    cases e with
    | nrm => exact hk _ _ _ _ _ h1 h2 h3
    | ret => exact hk _ _ _ _ _ h1 h2 h3
    | ext i =>
      simp only [kBlk] at h1
      simp only [X.exit, Exit.inBlock]
      split at h1
      · rename_i e; subst e; simp; exact hk .nrm _ _ _ _ h1 h2 h3
      · rename_i e
        simp [e]; exact hk (.ext i) _ _ _ _ h1 h2 h3
  | loop b ih =>
    intro w L st a k r Q hr hS hk
    obtain ⟨L1, hS1, hf1⟩ := hF (firstR b) base w L st a hS
    simp only [evK, lpN] at hr
    refine wp_loop_rounds n ?_
    have key : ∀ (m : Nat) {w' : World} {L' : Lks} {st' : St} {a' : Act}, loopN (keepAt C (firstR b)) (evK C (lpN n) b) k m st' = some r → SR C base w' L' st' a' → Fr C.nb base w L st.h w' L' st'.h → Code.rounds P b Q m a' w' := by
      intro m
      induction m with
      | zero => intro w' L' st' a' h1 h2 h3; cases h1
      | succ m ihm =>
        intro w' L' st' a' h1 h2 h3
        rw [rounds_succ]
        refine ih _ r _ h1 h2 fun e st'' a'' w'' L'' q1 q2 q3 => ?_
        cases e with
        | nrm =>
          obtain ⟨L3, hS3, hf3⟩ := hF (firstR b) base w'' L'' st'' a'' q2
          exact ihm q1 hS3 (h3.trans (q3.trans hf3))
        | ret => exact hk _ _ _ _ _ q1 q2 (h3.trans q3)
        | ext id => exact hk _ _ _ _ _ q1 q2 (h3.trans q3)
    exact key n hr hS1 hf1
  | _ => intro w L st a k r Q hr hS hk; simp only [evK] at hr; cases hr
end
end Go.Proofs.EV
