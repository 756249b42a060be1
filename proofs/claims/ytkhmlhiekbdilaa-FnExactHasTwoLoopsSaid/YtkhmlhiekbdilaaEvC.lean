import Derived.IntWalk
import Derived.Deep.Slices
import Derived.ChangeShapes
import Derived.Test.YtkhmlhiekbdilaaEvB
set_option linter.unusedVariables false
/-! Tables of callees, and a function's contract out of its residual. -/
namespace Go.Proofs.EV
open Go Go.RowKit

abbrev Stub := List Q → HM (List Q)
abbrev StubB := List V → List Ob → HM (List V × List Ob)
def tabM : List (Nat × Stub) → FuncId → List Q → HM (List Q)
  | [], _, _ => .fail
  | (g, s) :: l, f, a => cond (Nat.beq f g) (s a) (tabM l f a)
def tabB : List (Nat × StubB) → FuncId → List V → List Ob → HM (List V × List Ob)
  | [], _, _, _ => .fail
  | (g, s) :: l, f, a, o => cond (Nat.beq f g) (s a o) (tabB l f a o)

/-- A stub says what the function does. -/
def StubOk (P : Program) (C : Cfg) (g : FuncId) (s : Stub) : Prop := ∀ args res, (s args).out = some res → Snd P C g args res
def StubBOk (P : Program) (C : Cfg) (g : FuncId) (s : StubB) : Prop := ∀ args objs res objs', (s args objs).out = some (res, objs') → SndB P C g args objs res objs'

inductive TabOk (P : Program) (C : Cfg) : List (Nat × Stub) → Prop where
  | nil : TabOk P C []
  | cons {g s l} (h : StubOk P C g s) (t : TabOk P C l) : TabOk P C ((g, s) :: l)
inductive TabBOk (P : Program) (C : Cfg) : List (Nat × StubB) → Prop where
  | nil : TabBOk P C []
  | cons {g s l} (h : StubBOk P C g s) (t : TabBOk P C l) : TabBOk P C ((g, s) :: l)

theorem tabM_ok {P : Program} {C : Cfg} {l : List (Nat × Stub)} (h : TabOk P C l) : ∀ f args res, (tabM l f args).out = some res → Snd P C f args res := by
  induction h with
  | nil => intro f args res h; cases h
  | @cons g s l hs _ ih =>
    intro f args res h
    rw [tabM] at h
    cases e : Nat.beq f g with
    | true =>
      rw [e] at h
      have := Nat.eq_of_beq_eq_true e
      subst this
      exact hs args res h
    | false => rw [e] at h; exact ih f args res h
theorem tabB_ok {P : Program} {C : Cfg} {l : List (Nat × StubB)} (h : TabBOk P C l) : ∀ f args objs res objs', (tabB l f args objs).out = some (res, objs') → SndB P C f args objs res objs' := by
  induction h with
  | nil => intro f args objs res objs' h; cases h
  | @cons g s l hs _ ih =>
    intro f args objs res objs' h
    rw [tabB] at h
    cases e : Nat.beq f g with
    | true =>
      rw [e] at h
      have := Nat.eq_of_beq_eq_true e
      subst this
      exact hs args objs res objs' h
    | false => rw [e] at h; exact ih f args objs res objs' h

theorem Snd.to {P : Program} {C C' : Cfg} (hs : C.sig = C'.sig) (hg : C.glob = C'.glob) {f : FuncId} {a r : List Q} (h : Snd P C f a r) : Snd P C' f a r := by
  unfold Snd GlobOk at h ⊢
  rw [← hs, ← hg]
  exact h
theorem SndB.to {P : Program} {C C' : Cfg} (hg : C.glob = C'.glob) {f : FuncId} {a r : List V} {o o' : List Ob} (h : SndB P C f a o r o') : SndB P C' f a o r o' := by
  unfold SndB GlobOk at h ⊢
  rw [← hg]
  exact h

theorem mok_tabs {P : Program} {C C0 : Cfg} {l : List (Nat × Stub)} {lb : List (Nat × StubB)} (hs : C.sig = C0.sig) (hg : C.glob = C0.glob) (hm : C.M = tabM l) (hb : C.MM = tabB lb) (h : TabOk P C0 l) (h' : TabBOk P C0 lb) : MOk P C :=
  ⟨fun f args res e => by rw [hm] at e; exact (tabM_ok h f args res e).to hs.symm hg.symm, fun f args objs res objs' e => by rw [hb] at e; exact (tabB_ok h' f args objs res objs' e).to hg.symm⟩

/-- A function's contract. -/
theorem snd_ev {P : Program} {C C0 : Cfg} {l : List (Nat × Stub)} {lb : List (Nat × StubB)} (hC : CfgOk P C0) (hmix : P.follows .mixedOrders = true) (ht : C.ty = C0.ty) (hs : C.sig = C0.sig) (hg : C.glob = C0.glob) (hm : C.M = tabM l) (hmb : C.MM = tabB lb) (h : TabOk P C0 l) (h' : TabBOk P C0 lb) (hnb : C.nb = 0)
    {f : FuncId} {fn : Func} (hf : P.funcs[f]? = some fn) (hb : fn.body.isSome = true) (hname : (fn.name == "runtime.NumGoroutine") = false) {n : Nat} {args res : List Q} {rk : List RK} (hrk : C0.sig f = rk)
    (hr : run1 C rk n fn args = some res) : Snd P C0 f args res := by
  obtain ⟨c, hc⟩ := Option.isSome_iff_exists.1 hb
  have hC' : CfgOk P C := by unfold CfgOk at hC ⊢; rw [ht]; exact hC
  refine (ev_sound hC' (mok_tabs hs hg hm hmb h h') hmix hf hc hname hnb (n := n) (args := args) (res := res) ?_).to hs hg
  rw [hs, hrk]; exact hr
theorem sndB_ev {P : Program} {C C0 : Cfg} {l : List (Nat × Stub)} {lb : List (Nat × StubB)} (hC : CfgOk P C0) (hmix : P.follows .mixedOrders = true) (ht : C.ty = C0.ty) (hs : C.sig = C0.sig) (hg : C.glob = C0.glob) (hm : C.M = tabM l) (hmb : C.MM = tabB lb) (h : TabOk P C0 l) (h' : TabBOk P C0 lb)
    {f : FuncId} {fn : Func} (hf : P.funcs[f]? = some fn) (hb : fn.body.isSome = true) (hname : (fn.name == "runtime.NumGoroutine") = false) {n : Nat} {args res : List V} {objs objs' : List Ob} (hnb : C.nb = objs.length)
    (hr : runB C n fn args objs = some (res, objs')) : SndB P C0 f args objs res objs' := by
  obtain ⟨c, hc⟩ := Option.isSome_iff_exists.1 hb
  have hC' : CfgOk P C := by unfold CfgOk at hC ⊢; rw [ht]; exact hC
  exact (evB_sound hC' (mok_tabs hs hg hm hmb h h') hmix hf hc hname hnb hr).to hg
end Go.Proofs.EV
set_option linter.unusedVariables false
/-! Callees answered by the evaluator itself: for calls whose arguments are known. -/
namespace Go.Proofs.EV
open Go Go.RowKit

def autoP (P : Program) (C0 : Cfg) (n : Nat) : Nat → (FuncId → List Q → HM (List Q)) × (FuncId → List V → List Ob → HM (List V × List Ob))
  | 0 => (fun _ _ => .fail, fun _ _ _ => .fail)
  | d + 1 =>
    (fun f args => match P.funcs[f]? with
      | some fn => cond (fn.name == "runtime.NumGoroutine") .fail (.any (run1 { C0 with nb := 0, M := (autoP P C0 n d).1, MM := (autoP P C0 n d).2 } (C0.sig f) n fn args) .ret)
      | none => .fail,
     fun f args objs => match P.funcs[f]? with
      | some fn => cond (fn.name == "runtime.NumGoroutine") .fail (.any (runB { C0 with nb := objs.length, M := (autoP P C0 n d).1, MM := (autoP P C0 n d).2 } n fn args objs) .ret)
      | none => .fail)
/-- The configuration that runs everything itself, calls up to d deep, loops up to n rounds. -/
def autoC (P : Program) (C0 : Cfg) (n d nb : Nat) : Cfg := { C0 with nb := nb, M := (autoP P C0 n d).1, MM := (autoP P C0 n d).2 }

theorem run1_body {C : Cfg} {rk : List RK} {n : Nat} {fn : Func} {args res : List Q} (h : run1 C rk n fn args = some res) : ∃ c, fn.body = some c := by
  unfold run1 at h
  split at h
  · rename_i c e; exact ⟨c, e⟩
  · cases h
theorem runB_body {C : Cfg} {n : Nat} {fn : Func} {args : List V} {objs : List Ob} {res : List V × List Ob} (h : runB C n fn args objs = some res) : ∃ c, fn.body = some c := by
  unfold runB at h
  split at h
  · rename_i c e; exact ⟨c, e⟩
  · cases h
theorem auto_ok {P : Program} {C0 : Cfg} (hC : CfgOk P C0) (hmix : P.follows .mixedOrders = true) (n : Nat) : ∀ d, (∀ f args res, ((autoP P C0 n d).1 f args).out = some res → Snd P C0 f args res) ∧ (∀ f args objs res objs', ((autoP P C0 n d).2 f args objs).out = some (res, objs') → SndB P C0 f args objs res objs')
  | 0 => ⟨fun _ _ _ h => (by cases h), fun _ _ _ _ _ h => (by cases h)⟩
  | d + 1 => by
    have ih := auto_ok hC hmix n d
    have hC' : ∀ nb, CfgOk P (autoC P C0 n d nb) := fun nb => hC
    have hM : ∀ nb, MOk P (autoC P C0 n d nb) := fun nb => ⟨fun f args res e => (ih.1 f args res e).to rfl rfl, fun f args objs res objs' e => (ih.2 f args objs res objs' e).to rfl⟩
    constructor
    · intro f args res h
      simp only [autoP] at h
      split at h
      · rename_i fn hf
        cases hn : (fn.name == "runtime.NumGoroutine") with
        | true => rw [hn] at h; cases h
        | false =>
          rw [hn] at h
          obtain ⟨b, h1, h2⟩ := (Option.bind_eq_some_iff.1 h)
          cases h2
          obtain ⟨c, hc⟩ := run1_body h1
          exact (ev_sound (hC' 0) (hM 0) hmix hf hc hn rfl (n := n) h1).to rfl rfl
      · cases h
    · intro f args objs res objs' h
      simp only [autoP] at h
      split at h
      · rename_i fn hf
        cases hn : (fn.name == "runtime.NumGoroutine") with
        | true => rw [hn] at h; cases h
        | false =>
          rw [hn] at h
          obtain ⟨b, h1, h2⟩ := (Option.bind_eq_some_iff.1 h)
          cases h2
          obtain ⟨c, hc⟩ := runB_body h1
          exact (evB_sound (hC' objs.length) (hM objs.length) hmix hf hc hn rfl (n := n) h1).to rfl
      · cases h
/-- A function's own stub. -/
def autoS (P : Program) (C0 : Cfg) (n d f : Nat) : Stub := (autoP P C0 n d).1 f
def autoSB (P : Program) (C0 : Cfg) (n d f : Nat) : StubB := (autoP P C0 n d).2 f
theorem autoS_ok {P : Program} {C0 : Cfg} (hC : CfgOk P C0) (hmix : P.follows .mixedOrders = true) (n d f : Nat) : StubOk P C0 f (autoS P C0 n d f) := fun args res h => (auto_ok hC hmix n d).1 f args res h
theorem autoSB_ok {P : Program} {C0 : Cfg} (hC : CfgOk P C0) (hmix : P.follows .mixedOrders = true) (n d f : Nat) : StubBOk P C0 f (autoSB P C0 n d f) := fun args objs res objs' h => (auto_ok hC hmix n d).2 f args objs res objs' h
end Go.Proofs.EV
set_option linter.unusedVariables false
/-! Rows as lists, and what the residuals ask of them. -/
namespace Go.Proofs.EV
open Go Go.RowKit

theorem wrap_in {x : Int} (h1 : -9223372036854775808 ≤ x) (h2 : x ≤ 9223372036854775807) : IntKind.i64.wrap x = x := by
  simp only [IntKind.wrap, IntKind.bits, IntKind.signed]
  simp
  omega
/-- The next number of a list's. -/
theorem wrap_succ {k : Nat} (h : k ≤ LIM) : IntKind.i64.wrap ((k : Int) + 1) = ((k + 1 : Nat) : Int) := by
  unfold LIM at h
  rw [wrap_in (by omega) (by omega)]
  omega

theorem any_out {α β : Type} {o : Option β} {k : β → HM α} {r : α} (h : (HM.any o k).out = some r) : ∃ b, o = some b ∧ (k b).out = some r := Option.bind_eq_some_iff.1 h
theorem gd_out {α : Type} {b : Bool} {k : HM α} {r : α} (h : (HM.gd b k).out = some r) : b = true ∧ k.out = some r := by
  cases b with
  | false => cases h
  | true => exact ⟨rfl, h⟩
theorem ret_out {α : Type} {v r : α} (h : (HM.ret v).out = some r) : v = r := Option.some.inj h

/-- A code: values by cells. -/
structure Cod (α : Type) where
  enc : α → List D
  dec : List D → Option α
  de : ∀ x, dec (enc x) = some x
  ed : ∀ e x, dec e = some x → e = enc x

/-- A list under a code. -/
def decL {α : Type} (f : List D → Option α) : List (List D) → Option (List α)
  | [] => some []
  | e :: es => (f e).bind fun x => (decL f es).map (x :: ·)
theorem decL_len {α : Type} {f : List D → Option α} : ∀ {es : List (List D)} {l : List α}, decL f es = some l → l.length = es.length
  | [], l, h => by simp [decL] at h; simp [h]
  | e :: es, l, h => by
    simp only [decL, Option.bind_eq_some_iff, Option.map_eq_some_iff] at h
    obtain ⟨x, _, l', h2, rfl⟩ := h
    simp [decL_len h2]
theorem decL_enc {α : Type} (c : Cod α) : ∀ (l : List α), decL c.dec (l.map c.enc) = some l
  | [] => rfl
  | x :: l => by simp [decL, c.de, decL_enc c l]
theorem decL_inv {α : Type} (c : Cod α) : ∀ {es : List (List D)} {l : List α}, decL c.dec es = some l → es = l.map c.enc
  | [], l, e => by simp [decL] at e; simp [e]
  | d :: es, l, e => by
    simp only [decL, Option.bind_eq_some_iff, Option.map_eq_some_iff] at e
    obtain ⟨x, h1, l', h2, rfl⟩ := e
    simp [c.ed d x h1, decL_inv c h2]

def Cod.encs {α : Type} (c : Cod α) (l : List α) : List (List D) := l.map c.enc
/-- At most LIM of them. -/
def Cod.decs {α : Type} (c : Cod α) (es : List (List D)) : Option (List α) := if es.length ≤ LIM then decL c.dec es else none
section
variable {α : Type} {c : Cod α} {l : List α}
theorem Cod.decs_encs (h : l.length ≤ LIM) : c.decs (c.encs l) = some l := by
  unfold Cod.decs Cod.encs
  rw [if_pos (by simpa using h), decL_enc c]
theorem Cod.decs_inv {es : List (List D)} (h : c.decs es = some l) : es = c.encs l ∧ l.length ≤ LIM := by
  unfold Cod.decs at h
  split at h
  · rename_i hl
    exact ⟨decL_inv c h, by rw [decL_len h]; exact hl⟩
  · cases h
@[simp] theorem Cod.encs_len : (c.encs l).length = l.length := by simp [Cod.encs]
@[simp] theorem Cod.encs_nil : c.encs [] = [] := rfl
theorem Cod.encs_snoc (x : α) : c.encs l ++ [c.enc x] = c.encs (l ++ [x]) := by simp [Cod.encs]
theorem Cod.encs_append (m : List α) : c.encs l ++ c.encs m = c.encs (l ++ m) := by simp [Cod.encs]
theorem Cod.encs_take (k : Nat) : (c.encs l).take k = c.encs (l.take k) := by simp [Cod.encs, List.map_take]
theorem Cod.encs_drop (k : Nat) : (c.encs l).drop k = c.encs (l.drop k) := by simp [Cod.encs, List.map_drop]
theorem Cod.encs_cell {k : Nat} (h : k < l.length) (j : Nat) : cellD (c.encs l) k j = (c.enc l[k]).getD j .nilp := by
  unfold cellD
  rw [getD_of_lt (l := c.encs l) (i := k) (by simpa using h)]
  simp [Cod.encs]
end

namespace Sp
/-- Where the first one stands that is such; -1: none. -/
def idxFrom {α : Type} (p : α → Bool) : List α → Nat → Int
  | [], _ => -1
  | x :: l, k => bif p x then (k : Int) else idxFrom p l (k + 1)
theorem idxFrom_any {α : Type} : ∀ (l : List α) (p : α → Bool) (k : Nat), decide (idxFrom p l k ≥ 0) = l.any p
  | [], p, k => by simp [idxFrom]
  | x :: l, p, k => by
    rw [idxFrom, List.any_cons]
    cases p x
    · exact idxFrom_any l p (k + 1)
    · simp
/-- What is left of a bound. -/
def szL (left : Int) (n : Nat) : Int := if left - (n : Int) < 0 then -1 else left - (n : Int)
def anyB {α : Type} (p : α → Bool) (l : List α) : Bool := l.any p

def intC : Cod Int where
  enc n := [.int .i64 n]
  dec | [.int .i64 n] => some n
      | _ => none
  de _ := rfl
  ed e x h := by
    split at h
    · cases h; rfl
    · cases h
/-- Slices of whole numbers as elements. -/
def rowC : Cod (List Int) where
  enc l := [.sl 1 (intC.encs l)]
  dec | [.sl 1 es] => decL intC.dec es
      | _ => none
  de l := decL_enc intC l
  ed e x h := by
    split at h
    · rw [decL_inv intC h]; rfl
    · cases h
def pow (k n : Int) : Int := k ^ n.toNat
end Sp
open Sp
theorem intC_int {l : List Int} {k : Nat} (h : k < l.length) : (some (cellD (intC.encs l) k 0)).bind (D.int? .i64) = some l[k] := by
  rw [Cod.encs_cell h]; rfl
theorem intC_int' {l : List Int} {k : Nat} (h : k < l.length) : D.int? .i64 (cellD (intC.encs l) k 0) = some l[k] := by
  rw [Cod.encs_cell h]; rfl

theorem setRow_full {sz : Nat} {es : List (List D)} {i : Nat} {ds : List D} (h : ds.length = sz) : setRow sz es i 0 ds = es.set i ds := by
  unfold setRow
  congr 1
  apply List.ext_getElem
  · simp [h]
  · intro j h1 h2
    simp at h1
    simp [h2, List.getD_eq_getElem?_getD]
theorem take_set_succ {α : Type} (l : List α) (k : Nat) (x : α) (h : k < l.length) : (l.set k x).take (k + 1) = l.take k ++ [x] := by
  rw [List.take_succ_eq_append_getElem (by simpa using h), List.getElem_set_self, List.take_set_of_le (Nat.le_refl k)]
theorem intC_set (L : List Int) (i : Nat) (v : Int) : setRow 1 (intC.encs L) i 0 [D.int .i64 v] = intC.encs (L.set i v) := by
  rw [setRow_full (sz := 1) (ds := [D.int .i64 v]) rfl]; simp [Cod.encs, List.map_set, intC]
theorem intC_rep (k : Nat) (v : Int) : List.replicate k [D.int .i64 v] = intC.encs (List.replicate k v) := by
  simp [Cod.encs, intC]
theorem rowC_cell {l : List (List Int)} {k : Nat} (h : k < l.length) : (some (cellD (rowC.encs l) k 0)).bind (D.sl? 1) = some (intC.encs l[k]) := by
  rw [Cod.encs_cell h]; rfl
theorem rowC_cell' {l : List (List Int)} {k : Nat} (h : k < l.length) : D.sl? 1 (cellD (rowC.encs l) k 0) = some (intC.encs l[k]) := by
  rw [Cod.encs_cell h]; rfl
theorem rowC_snoc (l : List (List Int)) (x : List Int) : rowC.encs l ++ [[D.sl 1 (intC.encs x)]] = rowC.encs (l ++ [x]) := by
  simp [Cod.encs, rowC]
theorem intC_snoc (l : List Int) (x : Int) : intC.encs l ++ [[D.int .i64 x]] = intC.encs (l ++ [x]) := by
  simp [Cod.encs, intC]
theorem ine (a b : Int) : (a != b) = !decide (a = b) := by
  by_cases h : a = b <;> simp [h]
theorem ieq (a b : Int) : (a == b) = decide (a = b) := by
  by_cases h : a = b <;> simp [h]
theorem i64_max : (LIM : Int) < 9223372036854775807 := by decide
end Go.Proofs.EV
set_option linter.unusedVariables false
/-! Dice, in plain Lean. -/
namespace Go.Proofs.EV
open Go Go.RowKit
namespace Sp
structure Die where
  t : Int
  n : Int
  e : Int
  s : Int
  w : Int
  b : Int
  deriving DecidableEq, Inhabited
@[simp] theorem Die.eta (d : Die) : Die.mk d.t d.n d.e d.s d.w d.b = d := rfl
def Die.faces (d : Die) : List Int := [d.t, d.n, d.e, d.s, d.w, d.b]
def inR (x lo hi : Int) : Bool := decide (lo ≤ x) && decide (x ≤ hi)
def allR (l : List Int) (lo hi : Int) : Bool := l.all fun x => inR x lo hi
def Die.good (d : Die) : Bool := allR d.faces 0 9
def areDice (l : List Die) : Bool := inR l.length 1 4 && l.all Die.good
/-- The three pairs of a die, the lesser number first. -/
def pairs (d : Die) : List (List Int) := [[min d.n d.s, max d.n d.s], [min d.e d.w, max d.e d.w], [min d.t d.b, max d.t d.b]]
/-- A die by its cells. -/
def dieC : Cod Die where
  enc d := [.int .i64 d.t, .int .i64 d.n, .int .i64 d.e, .int .i64 d.s, .int .i64 d.w, .int .i64 d.b]
  dec | [.int .i64 t, .int .i64 n, .int .i64 e, .int .i64 s, .int .i64 w, .int .i64 b] => some ⟨t, n, e, s, w, b⟩
      | _ => none
  de _ := rfl
  ed e x h := by
    split at h
    · cases h; rfl
    · cases h
end Sp
open Sp
theorem dieC_t {l : List Die} {k : Nat} (h : k < l.length) : (some (cellD (dieC.encs l) k 0)).bind (D.int? .i64) = some l[k].t := by rw [Cod.encs_cell h]; rfl
theorem dieC_n {l : List Die} {k : Nat} (h : k < l.length) : (some (cellD (dieC.encs l) k 1)).bind (D.int? .i64) = some l[k].n := by rw [Cod.encs_cell h]; rfl
theorem dieC_e {l : List Die} {k : Nat} (h : k < l.length) : (some (cellD (dieC.encs l) k 2)).bind (D.int? .i64) = some l[k].e := by rw [Cod.encs_cell h]; rfl
theorem dieC_s {l : List Die} {k : Nat} (h : k < l.length) : (some (cellD (dieC.encs l) k 3)).bind (D.int? .i64) = some l[k].s := by rw [Cod.encs_cell h]; rfl
theorem dieC_w {l : List Die} {k : Nat} (h : k < l.length) : (some (cellD (dieC.encs l) k 4)).bind (D.int? .i64) = some l[k].w := by rw [Cod.encs_cell h]; rfl
theorem dieC_b {l : List Die} {k : Nat} (h : k < l.length) : (some (cellD (dieC.encs l) k 5)).bind (D.int? .i64) = some l[k].b := by rw [Cod.encs_cell h]; rfl
end Go.Proofs.EV
set_option linter.unusedVariables false
/-! Loops of dice, in plain Lean. -/
namespace Go.Proofs.EV
open Go Go.RowKit
namespace Sp
def okPow (k n : Int) : Bool := decide (1 ≤ k ∧ k ≤ 9 ∧ 0 ≤ n ∧ n ≤ 6)
/-- The digits of a number to the base 3. -/
def digits : Nat → Nat → List Int
  | 0, _ => []
  | k + 1, c => digits k (c / 3) ++ [((c % 3 : Nat) : Int)]
@[simp] theorem digits_len : ∀ k c, (digits k c).length = k
  | 0, _ => rfl
  | k + 1, c => by simp [digits, digits_len k]
theorem digits_in : ∀ k c x, x ∈ digits k c → 0 ≤ x ∧ x < 3
  | 0, _, _, h => by cases h
  | k + 1, c, x, h => by
    simp only [digits, List.mem_append, List.mem_singleton] at h
    rcases h with h | rfl
    · exact digits_in k _ x h
    · omega
def rowAt (d : Die) (c : Int) : List Int := (pairs d).getD c.toNat []
theorem rowAt_len (d : Die) {c : Int} (h : 0 ≤ c ∧ c < 3) : (rowAt d c).length = 2 := by
  obtain ⟨h1, h2⟩ := h
  rcases (show c = 0 ∨ c = 1 ∨ c = 2 by omega) with rfl | rfl | rfl <;> rfl
def nums (l : List Die) (ch : List Int) : List Int := (List.zipWith rowAt l ch).flatten
def bump (L : List Int) (x : Int) : List Int := L.set x.toNat (IntKind.i64.wrap (L.getD x.toNat 0 + 1))
@[simp] theorem bump_len (L : List Int) (x : Int) : (bump L x).length = L.length := by simp [bump]
def tallyS (n : Int) : Bool → List Int → List Int → Bool × List Int
  | b, L, [] => (b, L)
  | b, L, x :: xs => bif inR x 1 n then tallyS n b (bump L x) xs else tallyS n false L xs
def tallyI (L xs : List Int) : List Int := xs.foldl bump L
@[simp] theorem tallyI_len : ∀ (xs L : List Int), (tallyI L xs).length = L.length
  | [], L => rfl
  | x :: xs, L => by rw [tallyI, List.foldl_cons]; exact (tallyI_len xs (bump L x)).trans (bump_len L x)
theorem tallyI_append (L xs ys : List Int) : tallyI L (xs ++ ys) = tallyI (tallyI L xs) ys := List.foldl_append
theorem tallyS_eq (n : Int) : ∀ (xs : List Int) (b : Bool) (L : List Int), tallyS n b L xs = (b && xs.all (fun x => inR x 1 n), tallyI L (xs.filter fun x => inR x 1 n))
  | [], b, L => by simp [tallyS, tallyI]
  | x :: xs, b, L => by
    rw [tallyS]
    cases h : inR x 1 n
    · rw [cond_false, tallyS_eq n xs]
      simp [h]
    · rw [cond_true, tallyS_eq n xs]
      simp [h, tallyI]
theorem tallyS_append (n : Int) : ∀ (xs ys : List Int) (b : Bool) (L : List Int), tallyS n b L (xs ++ ys) = tallyS n (tallyS n b L xs).1 (tallyS n b L xs).2 ys
  | [], ys, b, L => rfl
  | x :: xs, ys, b, L => by
    rw [List.cons_append, tallyS, tallyS]
    cases inR x 1 n
    · exact tallyS_append n xs ys _ _
    · exact tallyS_append n xs ys _ _
theorem tallyI_get : ∀ (xs L : List Int) (B : Int), (∀ x ∈ xs, 0 ≤ x ∧ x.toNat < L.length) → (∀ v, 0 ≤ L.getD v 0 ∧ L.getD v 0 ≤ B) → B + xs.length ≤ 1000 → ∀ v : Nat, v < L.length → (tallyI L xs).getD v 0 = L.getD v 0 + (xs.count (v : Int) : Int)
  | [], L, B, _, _, _, v, _ => by simp [tallyI]
  | x :: xs, L, B, hx, hL, hB, v, hv => by
    have h0 := hx x List.mem_cons_self
    have hb : ∀ u : Nat, (bump L x).getD u 0 = if u = x.toNat then L.getD u 0 + 1 else L.getD u 0 := by
      intro u
      unfold bump
      have := hL x.toNat
      rw [List.length_cons] at hB
      rw [wrap_in (by omega) (by omega)]
      simp only [List.getD_eq_getElem?_getD, List.getElem?_set]
      by_cases h : u = x.toNat
      · subst h
        have h2 := h0.2
        simp [h2]
      · have h' : ¬ x.toNat = u := fun e => h e.symm
        simp [h, h']
    have h1 := tallyI_get xs (bump L x) (B + 1) (fun y hy => by rw [bump_len]; exact hx y (List.mem_cons_of_mem _ hy)) (fun u => by have := hL u; rw [hb]; split <;> omega) (by rw [List.length_cons] at hB; omega) v (by rw [bump_len]; exact hv)
    rw [tallyI, List.foldl_cons]
    rw [tallyI] at h1
    rw [h1, hb, List.count_cons]
    have h2 : (x == (v : Int)) = decide (v = x.toNat) := by
      rw [Bool.eq_iff_iff]
      simp
      omega
    rw [h2]
    by_cases h : v = x.toNat
    · simp [h]; omega
    · simp [h]
theorem getD_rep (n v : Nat) : (List.replicate n (0 : Int)).getD v 0 = 0 := by
  rw [List.getD_eq_getElem?_getD, List.getElem?_replicate]
  split <;> rfl
theorem all_range_drop (L : List Int) (n : Nat) (h : L.length = n + 1) : (L.drop 1).all (fun x => decide (x = 2)) = (List.range n).all fun v => decide (L.getD (v + 1) 0 = 2) := by
  have : L.drop 1 = (List.range n).map fun v => L.getD (v + 1) 0 := by
    apply List.ext_getElem
    · simp [h]
    · intro i h1 h2
      simp at h1 h2
      simp [List.getD_eq_getElem?_getD, h, h2]
  rw [this, List.all_map]
  rfl
def isLoop (n : Nat) (xs : List Int) : Bool := (List.range n).all fun v => decide (xs.count (((v + 1 : Nat) : Int)) = 2)
/-- What the reference looks at is what the program looks at. -/
theorem loop_range {n : Nat} {xs : List Int} (h1 : 1 ≤ n) (h4 : n ≤ 4) (hl : xs.length = 2 * n) (h : isLoop n xs = true) : xs.all (fun x => inR x 1 n) = true := by
  rw [List.all_eq_true]
  have hc : ∀ (n : Nat), 1 ≤ n → n ≤ 4 → ∀ ys : List Int, ys.countP (fun x => inR x 1 n) = ((List.range n).map fun v => ys.count (((v + 1 : Nat) : Int))).sum := by
    intro n h1 h4 ys
    induction ys with
    | nil => rcases (show n = 1 ∨ n = 2 ∨ n = 3 ∨ n = 4 by omega) with rfl | rfl | rfl | rfl <;> rfl
    | cons y ys ih =>
      rw [List.countP_cons, ih]
      simp only [List.count_cons]
      rcases (show n = 1 ∨ n = 2 ∨ n = 3 ∨ n = 4 by omega) with rfl | rfl | rfl | rfl <;>
        simp [List.range_succ, inR] <;> (repeat' split) <;> omega
  have hs : ((List.range n).map fun v => xs.count (((v + 1 : Nat) : Int))).sum = 2 * n := by
    unfold isLoop at h
    rw [List.all_eq_true] at h
    have : ((List.range n).map fun v => xs.count (((v + 1 : Nat) : Int))) = (List.range n).map fun _ => 2 := List.map_congr_left fun v hv => of_decide_eq_true (h v hv)
    rw [this]
    rcases (show n = 1 ∨ n = 2 ∨ n = 3 ∨ n = 4 by omega) with rfl | rfl | rfl | rfl <;> rfl
  have := hc n h1 h4 xs
  rw [hs, ← hl] at this
  exact List.countP_eq_length.1 this
/-- The loops of dice. -/
def loops (l : List Die) : List (List Int) := ((List.range (3 ^ l.length)).map (digits l.length)).filter fun ch => isLoop l.length (nums l ch)
theorem loops_len {l : List Die} {ch : List Int} (h : ch ∈ loops l) : ch.length = l.length := by
  unfold loops at h
  rw [List.mem_filter, List.mem_map] at h
  obtain ⟨⟨c, _, rfl⟩, _⟩ := h
  exact digits_len _ _
theorem loops_le {l : List Die} (h : l.length ≤ 4) : (loops l).length ≤ 81 := by
  unfold loops
  refine Nat.le_trans (List.length_filter_le _ _) ?_
  rw [List.length_map, List.length_range]
  exact Nat.le_trans (Nat.pow_le_pow_right (by decide) h) (by decide)
/-- No choice is in both. -/
def apart : List Int → List Int → Bool
  | a :: as, b :: bs => (a != b) && apart as bs
  | _, _ => true
def shortAll (as : List (List Int)) : Bool := as.all fun a => decide (a.length ≤ LIM)
def sameLen (a : List Int) (l : List (List Int)) : Bool := l.all fun b => decide (a.length = b.length)
def allSame (as l : List (List Int)) : Bool := as.all fun a => sameLen a l
theorem allSame_loops (l : List Die) : allSame (loops l) (loops l) = true := by
  unfold allSame sameLen
  simp only [List.all_eq_true, decide_eq_true_eq]
  intro a ha b hb
  rw [loops_len ha, loops_len hb]
def anyApart (a : List Int) (bs : List (List Int)) : Bool := bs.any fun b => apart a b
def anyAny (a l : List (List Int)) : Bool := a.any fun x => anyApart x l
def twoApart (l : List (List Int)) : Bool := anyAny l l
end Sp
end Go.Proofs.EV
set_option linter.unusedVariables false
/-! Arguments of a row, as the evaluator's deep values. -/
namespace Go.Proofs.EV
open Go Go.RowKit Go.WideShapes Go.ChangeShapes Go.Deep
section
variable {H : Type} {enc : TypeId × Value → H} {P : Program} {w : World} {base : Nat} {sp : Nat → Bool} {held : Bool}

theorem cell_heap {a : Addr} {v : Value} (h : w.cell? a = some v) : a.block < w.heap.size := by
  unfold World.cell? at h
  split at h
  · rename_i c T z h1
    exact (Array.getElem?_eq_some_iff.1 h1).1
  · cases h
theorem add_mk (b off n : Nat) : Addr.add ⟨b, off, none⟩ n = ⟨b, off + n, none⟩ := by
  unfold Addr.add
  split <;> simp_all
/-- A slice whose elements are of a code. -/
theorem open_cod {α : Type} (c : Cod α) {sz : Nat} {t e : TypeId} (ht : P.underlying t = some (.slice e)) (hc : P.cellsOf e = sz) (hpos : 0 < sz)
    (hleaf : ∀ fuel cs x, DataW.trod enc P w base sp held fuel e cs = some x → ∃ y : α, ∀ j, j < sz → CRel w (fun b => b < w.heap.size) ((c.enc y).getD j .nilp) (cs.getD j undef))
    {r : Reach} {b0 : Nat} {v : Value} {d : DataW H} {ps : List MemPlace} (hval : Value.okWide P w r b0 t v) (hd : DataW.Trod enc P w base sp held t v d ps) :
    ∃ l : List α, l.length ≤ 9223372036854775807 ∧ CRel w (fun b => b < w.heap.size) (.sl sz (c.encs l)) v := by
  obtain ⟨a0, len0, cap0, rfl⟩ := okWide_slice ht hval
  obtain ⟨fuel, hf⟩ := hd
  rcases open_slice ht hf with ⟨hcs, _⟩ | ⟨a, len, cap, m, n, Dt, Pl, hcs, hb, hl, hm, hmm, hx, hel⟩
  · simp [Value.cells] at hcs
    obtain ⟨rfl, rfl, rfl⟩ := hcs
    exact ⟨[], by simp, .sl0 _ _ _⟩
  simp [Value.cells] at hcs
  obtain ⟨rfl, rfl, rfl⟩ := hcs
  have hml : len0 ≤ m := by rw [hmm]; split <;> omega
  have hml2 : maxLen = 9223372036854775807 := rfl
  by_cases h0 : len0 = 0
  · subst h0
    exact ⟨[], by simp, .sl0 _ _ _⟩
  have each : ∀ i : Fin len0, ∃ p : α × List Value, (∀ j, j < sz → w.cell? (a.add (i * sz + j)) = some (p.2.getD j undef)) ∧ ∀ j, j < sz → CRel w (fun b => b < w.heap.size) ((c.enc p.1).getD j .nilp) (p.2.getD j undef) := by
    intro i
    obtain ⟨cs', h1, h2⟩ := hel i (by omega)
    obtain ⟨y, hy⟩ := hleaf _ _ _ h2
    rw [hc] at h1
    obtain ⟨_, h3, h4⟩ := World.cells?_some h1
    refine ⟨(y, cs'), fun j hj => ?_, hy⟩
    rw [← Addr.add_add, h4 j hj, List.getD_eq_getElem?_getD]
    simp [show j < cs'.length by omega]
  obtain ⟨f, hf2⟩ := Classical.axiomOfChoice each
  have hcell0 := (hf2 ⟨0, by omega⟩).1 0 hpos
  have hblk := cell_heap hcell0
  have hsp := World.cell?_spot hcell0
  have ha : a = ⟨a.block, a.off, none⟩ := by
    obtain ⟨b, o, s⟩ := a
    simp [Addr.add] at hsp
    simp [hsp]
  have hb1 : a.block < w.heap.size := by
    rw [block_add] at hblk
    exact hblk
  refine ⟨List.ofFn fun i => (f i).1, by simp; omega, ?_⟩
  rw [ha]
  have hlen : (c.encs (List.ofFn fun i => (f i).1)).length = len0 := by simp
  have key := CRel.sl (w := w) (ok := fun b => b < w.heap.size) sz (c.encs (List.ofFn fun i => (f i).1)) a.block a.off cap0 (fun i j => if h : i < len0 then (f ⟨i, h⟩).2.getD j undef else undef) hb1 (by rw [hlen]; exact hl)
    (fun i j hi hj => by
      rw [hlen] at hi
      have := (hf2 ⟨i, hi⟩).1 j hj
      rw [ha, add_mk] at this
      simp only [hi, dif_pos]
      rw [← this, Nat.add_assoc])
    (fun i j hi hj => by
      rw [hlen] at hi
      have := (hf2 ⟨i, hi⟩).2 j hj
      simp only [hi, dif_pos]
      rw [Cod.encs_cell (by simpa using hi)]
      simpa using this)
  rw [hlen] at key
  exact key
theorem open_dieElem {e i : TypeId} {fs : Array Field} (he : P.underlying e = some (.struct fs)) (hi : P.underlying i = some (.int .i64)) (hci : P.cellsOf i = 1) (hce : P.cellsOf e = 6) (hn : fs.size = 6)
    (hfs : ∀ k, k < 6 → ∃ f, fs[k]? = some f ∧ f.type = i ∧ f.offset = k) {ok : Nat → Prop} {fuel : Nat} {cs : List Value} {x : DataW H × List MemPlace} (h : DataW.trod enc P w base sp held fuel e cs = some x) :
    ∃ y : Sp.Die, ∀ j, j < 6 → CRel w ok ((Sp.dieC.enc y).getD j .nilp) (cs.getD j undef) := by
  obtain ⟨xs, n, _, _, hl, hx, hf⟩ := DataW.trod_struct he h
  rw [hce] at hl
  have each : ∀ k, k < 6 → ∃ z, cs[k]? = some (.int .i64 z) := by
    intro k hk
    obtain ⟨f, h1, h2, h3⟩ := hfs k hk
    have h4 := hf k f h1
    rw [h2, h3, hci, List.getElem?_eq_getElem (by omega)] at h4
    obtain ⟨z, h5, _⟩ := DataW.trod_int hi h4
    refine ⟨z, ?_⟩
    have := congrArg (fun l => l[0]?) h5
    simpa using this
  obtain ⟨t, h0⟩ := each 0 (by omega)
  obtain ⟨n, h1⟩ := each 1 (by omega)
  obtain ⟨e, h2⟩ := each 2 (by omega)
  obtain ⟨s, h3⟩ := each 3 (by omega)
  obtain ⟨w, h4⟩ := each 4 (by omega)
  obtain ⟨b, h5⟩ := each 5 (by omega)
  refine ⟨⟨t, n, e, s, w, b⟩, fun j hj => ?_⟩
  rw [List.getD_eq_getElem?_getD (l := cs)]
  rcases (show j = 0 ∨ j = 1 ∨ j = 2 ∨ j = 3 ∨ j = 4 ∨ j = 5 by omega) with rfl | rfl | rfl | rfl | rfl | rfl
  · rw [h0]; exact .int _ _
  · rw [h1]; exact .int _ _
  · rw [h2]; exact .int _ _
  · rw [h3]; exact .int _ _
  · rw [h4]; exact .int _ _
  · rw [h5]; exact .int _ _
end
section
variable {P : Program} {C : Cfg} {w : World}
/-- A function with a body: its contract as a row wants it. -/
theorem calls_of_snd {f : FuncId} {fn : Func} {args res : List Q} {vals : Array Value} (h : Snd P C f args res) (hf : P.funcs[f]? = some fn) (hb : fn.body.isNone = false) (hname : (fn.name == "runtime.NumGoroutine") = false)
    (hG : GlobOk C w (fun b => b < w.heap.size)) (hl : vals.size = args.length) (hr : ∀ i, i < args.length → QRel w (fun b => b < w.heap.size) (args.getD i (.one .nilp)) (vals.getD i undef)) :
    Calls P f vals w fun e w' => ∃ v, e = .returned v ∧ RRel w' w.heap.size (C.sig f) res v ∧ Below w.heap.size w w' := by
  rcases h w vals hG hl hr with ⟨_, _, _, _, h⟩ | ⟨v, w', h1, _⟩
  · exact h
  · have hcf : (callFunc f vals).run P w = .ok (.enter f vals) w := by
      simp only [callFunc, Sem.run_bind, run_program, Result.andThen_ok, hf, hname, hb]
      rfl
    rw [hcf] at h1
    cases h1
theorem globOk_none (h : ∀ g, C.glob g = .undef) : GlobOk C w (fun b => b < w.heap.size) := fun g => by rw [h g]; trivial
theorem args_one {ok : Nat → Prop} {d : D} {v : Value} (h : CRel w ok d v) : ∀ i, i < [Q.one d].length → QRel w ok ([Q.one d].getD i (.one .nilp)) ((#[v] : Array Value).getD i undef) := by
  intro i hi
  simp at hi
  subst hi
  exact h
theorem rrel_bool {b0 : Nat} {b : Bool} {v : Value} (h : RRel w b0 [.one .bool] [.one (.bool b)] v) : v = .bool b := by
  obtain ⟨vals, bs, rfl, h, _⟩ := h
  cases h with
  | one l h t =>
    cases t
    cases h
    rfl
end
end Go.Proofs.EV
