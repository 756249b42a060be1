import Derived.WalkKit
import Derived.KernelRfl
import Derived.Below
import Derived.Laws.StructEq
import Derived.Laws.IdiomCopy
import Derived.Laws.OwnMore
import Derived.Laws.BytesString
/-! The evaluator: the model's code run over deep values. -/
set_option linter.unusedVariables false
namespace Go.Proofs.EV
open Go

/-- A cell's deep value: nothing in it is written while it is held. -/
inductive D where
  | int (k : IntKind) (n : Int)
  | bool (b : Bool)
  | str (s : ByteArray)
  | sl (sz : Nat) (es : List (List D))
  | pt (cs : List D)
  | nilp
  | fn (f : FuncId) (a b : List D)
  | nilf
  | nili
  | nilm
  | ifc (t : TypeId) (d : D)
  | mp (es : List (List D × List D))
  deriving Inhabited

/-- A deep value: one cell, or a struct or array by its cells. -/
inductive Q where
  | one (d : D)
  | agg (cs : List D)
  deriving Inhabited

/-- What a temporary holds. rw: an own row, whole, as a slice; rs: a part of one; rp: a pointer into an own box; re: a pointer into element i, cell j, of an own row; pe: the same of rows that are only read. -/
inductive V where
  | one (fr : Bool) (d : D)
  | agg (cs : List V)
  | tup (vs : List V)
  | fnv (f : FuncId) (a b : List V)
  | nils (sz : Nat)
  | rw (id : Nat)
  | rs (id off len : Nat)
  | rp (id off : Nat)
  | re (id i j : Nat)
  | pe (fr : Bool) (sz : Nat) (es : List (List D)) (i j : Nat)
  | rm (id : Nat)
  | rit (id : Nat)
  | undef
  deriving Inhabited

/-- An own object. nest: a slice of slices of one's own; hole: the element that was taken out, and the object that it is now. -/
inductive Ob where
  | row (arr : Bool) (sz : Nat) (es : List (List D))
  | box (cs : List V)
  | mp (es : List (List D × List D))
  | iter (s : ByteArray) (pos : Nat)
  | nest (sz : Nat) (hole : Option (Nat × Option Nat)) (es : List (List (List D)))
  | dead
  deriving Inhabited

/-- A type, as far as it is asked. -/
inductive TK where
  | int (k : IntKind) | bool | string
  | slice (e : TypeId) | array (n : Nat) (e : TypeId) | struct (fs : List (Nat × TypeId))
  | pointer (e : TypeId) | map (k e : TypeId) | func | iface | other
  deriving Inhabited

/-- The kinds of the leaves of what is read; nl: another kind, by its zero value. -/
inductive LK where
  | int (k : IntKind) | bool | str | sl (sz : Nat) | nl (z : D)
  deriving Inhabited

/-- eq: may two values be compared field by field. -/
structure TI where
  k : TK
  size : Nat
  lk : List LK
  eq : Bool
  deriving Inhabited

/-- A result's kind: own: a slice that is the caller's from then on. -/
inductive RK where
  | one (l : LK)
  | own (sz : Nat)
  | agg (ls : List LK)
  deriving Inhabited

def LIM : Nat := 17179869184

/-! ### Programs over own objects -/
inductive HM (α : Type) : Type 1 where
  | ret (v : α)
  | fail
  | get (id : Nat) (k : Ob → HM α)
  | put (id : Nat) (o : Ob) (k : HM α)
  | int (o : Option Int) (k : Int → HM α)
  | bool (o : Option Bool) (k : Bool → HM α)
  | str (o : Option ByteArray) (k : ByteArray → HM α)
  | es (o : Option (List (List D))) (k : List (List D) → HM α)
  | ds (o : Option (List D)) (k : List D → HM α)
  | d (o : Option D) (k : D → HM α)
  | qs (o : Option (List Q)) (k : List Q → HM α)
  | mps (o : Option (List (List D × List D))) (k : List (List D × List D) → HM α)
  | od (o : Option (Option (List D))) (k : Option (List D) → HM α)
  | any {β : Type} (o : Option β) (k : β → HM α)
  | gd (b : Bool) (k : HM α)
  | ite (b : Bool) (p q : HM α)

def HM.run {α R : Type} : HM α → List Ob → (α → List Ob → Option R) → Option R
  | .ret v, h, c => c v h
  | .fail, _, _ => none
  | .get id k, h, c => (k (h.getD id .dead)).run h c
  | .put id o k, h, c => k.run (h.set id o) c
  | .int o k, h, c => o.bind fun n => (k n).run h c
  | .bool o k, h, c => o.bind fun n => (k n).run h c
  | .str o k, h, c => o.bind fun n => (k n).run h c
  | .es o k, h, c => o.bind fun n => (k n).run h c
  | .ds o k, h, c => o.bind fun n => (k n).run h c
  | .d o k, h, c => o.bind fun n => (k n).run h c
  | .qs o k, h, c => o.bind fun n => (k n).run h c
  | .mps o k, h, c => o.bind fun n => (k n).run h c
  | .od o k, h, c => o.bind fun n => (k n).run h c
  | .any o k, h, c => o.bind fun n => (k n).run h c
  | .gd b k, h, c => cond b (k.run h c) none
  | .ite b p q, h, c => cond b (p.run h c) (q.run h c)

/-- The same, telling which objects are read and which are written. -/
def HM.runL {α R : Type} : HM α → List Ob → List Nat → List Nat → (α → List Ob → List Nat → List Nat → Option R) → Option R
  | .ret v, h, rs, ws, c => c v h rs ws
  | .fail, _, _, _, _ => none
  | .get id k, h, rs, ws, c => (k (h.getD id .dead)).runL h (id :: rs) ws c
  | .put id o k, h, rs, ws, c => k.runL (h.set id o) rs (id :: ws) c
  | .int o k, h, rs, ws, c => o.bind fun n => (k n).runL h rs ws c
  | .bool o k, h, rs, ws, c => o.bind fun n => (k n).runL h rs ws c
  | .str o k, h, rs, ws, c => o.bind fun n => (k n).runL h rs ws c
  | .es o k, h, rs, ws, c => o.bind fun n => (k n).runL h rs ws c
  | .ds o k, h, rs, ws, c => o.bind fun n => (k n).runL h rs ws c
  | .d o k, h, rs, ws, c => o.bind fun n => (k n).runL h rs ws c
  | .qs o k, h, rs, ws, c => o.bind fun n => (k n).runL h rs ws c
  | .mps o k, h, rs, ws, c => o.bind fun n => (k n).runL h rs ws c
  | .od o k, h, rs, ws, c => o.bind fun n => (k n).runL h rs ws c
  | .any o k, h, rs, ws, c => o.bind fun n => (k n).runL h rs ws c
  | .gd b k, h, rs, ws, c => cond b (k.runL h rs ws c) none
  | .ite b p q, h, rs, ws, c => cond b (p.runL h rs ws c) (q.runL h rs ws c)

/-- One behind the other: the first one sees no object. -/
def HM.andThen {α β : Type} : HM α → (α → HM β) → HM β
  | .ret v, k => k v
  | .fail, _ => .fail
  | .get _ _, _ => .fail
  | .put _ _ _, _ => .fail
  | .int o f, k => .int o fun n => (f n).andThen k
  | .bool o f, k => .bool o fun n => (f n).andThen k
  | .str o f, k => .str o fun n => (f n).andThen k
  | .es o f, k => .es o fun n => (f n).andThen k
  | .ds o f, k => .ds o fun n => (f n).andThen k
  | .d o f, k => .d o fun n => (f n).andThen k
  | .qs o f, k => .qs o fun n => (f n).andThen k
  | .mps o f, k => .mps o fun n => (f n).andThen k
  | .od o f, k => .od o fun n => (f n).andThen k
  | .any o f, k => .any o fun n => (f n).andThen k
  | .gd b f, k => .gd b (f.andThen k)
  | .ite b p q, k => .ite b (p.andThen k) (q.andThen k)

/-- What a program that sees no object yields. -/
def HM.out {α : Type} : HM α → Option α
  | .ret v => some v
  | .fail => none
  | .get _ _ => none
  | .put _ _ _ => none
  | .int o f => o.bind fun n => (f n).out
  | .bool o f => o.bind fun n => (f n).out
  | .str o f => o.bind fun n => (f n).out
  | .es o f => o.bind fun n => (f n).out
  | .ds o f => o.bind fun n => (f n).out
  | .d o f => o.bind fun n => (f n).out
  | .qs o f => o.bind fun n => (f n).out
  | .mps o f => o.bind fun n => (f n).out
  | .od o f => o.bind fun n => (f n).out
  | .any o f => o.bind fun n => (f n).out
  | .gd b f => cond b f.out none
  | .ite b p q => cond b p.out q.out

structure Cfg where
  ty : TypeId → TI
  M : FuncId → List Q → HM (List Q)
  sig : FuncId → List RK
  glob : Nat → V
  /-- what a region keeps when it is entered: temporaries -/
  keep : Nat → Option (List Nat)
  /-- how many objects came in: these keep their numbers -/
  nb : Nat
  /-- callees that are lent one's own objects; how many objects they make at most; what they answer -/
  bor : FuncId → Bool
  news : FuncId → Nat
  MM : FuncId → List V → List Ob → HM (List V × List Ob)
  /-- types of slices of slices of one's own, and of their elements -/
  nst : TypeId → Bool := fun _ => false

/-! ### Leaves -/
def D.int? (k : IntKind) : D → Option Int
  | .int k' n => if k = k' then some n else none
  | _ => none
def D.bool? : D → Option Bool
  | .bool b => some b
  | _ => none
def D.str? : D → Option ByteArray
  | .str s => some s
  | _ => none
def D.sl? (sz : Nat) : D → Option (List (List D))
  | .sl sz' es => if sz = sz' then some es else match es with
    | [] => some []
    | _ :: _ => none
  | _ => none
def Q.one? : Q → Option D
  | .one d => some d
  | _ => none
def Q.agg? : Q → Option (List D)
  | .agg cs => some cs
  | _ => none

/-- Cell j of element i. -/
def cellD (es : List (List D)) (i j : Nat) : D := (es.getD i []).getD j .nilp

/-- A leaf read, its kind held. -/
def leafO {α : Type} (fr : Bool) (l : LK) (o : Option D) (k : V → HM α) : HM α :=
  match l with
  | .int q => .int (o.bind (D.int? q)) fun n => k (.one true (.int q n))
  | .bool => .bool (o.bind D.bool?) fun b => k (.one true (.bool b))
  | .str => .str (o.bind D.str?) fun s => k (.one true (.str s))
  | .sl sz => .es (o.bind (D.sl? sz)) fun es => k (.one fr (.sl sz es))
  | .nl _ => .d o fun d => k (.one fr d)

/-- Leaves read one behind the other: of element i from cell j on. -/
def leafs {α : Type} (fr : Bool) (es : List (List D)) (i : Nat) : List LK → Nat → (List V → HM α) → HM α
  | [], _, k => k []
  | l :: ls, j, k => leafO fr l (some (cellD es i j)) fun v => leafs fr es i ls (j + 1) fun vs => k (v :: vs)

def isAgg : TK → Bool
  | .struct _ | .array _ _ => true
  | _ => false

/-- A value of a type out of its cells. -/
def mkVal (t : TI) (cs : List V) : V := if isAgg t.k then .agg cs else cs.headD .undef

def cellsOf : V → List V
  | .agg cs => cs
  | .tup _ | .undef => []
  | v => [v]

/-- What may stand in a cell. -/
def okCell : V → Bool
  | .agg _ | .tup _ | .undef => false
  | _ => true

def zeroD : LK → D
  | .int k => .int k 0
  | .bool => .bool false
  | .str => .str ⟨#[]⟩
  | .sl _ => .sl 0 []
  | .nl z => match z with
    | .nilm => .nilm
    | .nilf => .nilf
    | .nili => .nili
    | _ => .nilp
def zeroV : LK → V
  | .sl sz => .nils sz
  | l => .one true (zeroD l)

/-! ### Deep values out of values -/
def scalar : D → Bool
  | .int _ _ | .bool _ | .str _ | .nilp | .nilf | .nili | .nilm => true
  | _ => false

/-- One behind the other. -/
def mapHM {α β γ : Type} (f : α → (β → HM γ) → HM γ) : List α → (List β → HM γ) → HM γ
  | [], k => k []
  | v :: vs, k => f v fun d => mapHM f vs fun ds => k (d :: ds)

/-- A cell handed to memory that is held for good: own slices are frozen. -/
def freeze {α : Type} (v : V) (k : D → HM α) : HM α :=
  match v with
  | .one fr d => if fr || scalar d then k d else .fail
  | .nils sz => k (.sl sz [])
  | .rw id => .get id fun
      | .row _ sz es => .put id .dead (k (.sl sz es))
      | _ => .fail
  | .rs id off len => .get id fun
      | .row _ sz es => .put id .dead (k (.sl sz ((es.drop off).take len)))
      | _ => .fail
  | .rm id => .get id fun
      | .mp es => .put id .dead (k (.mp es))
      | _ => .fail
  | _ => .fail

/-- The same, of a pointer into a box of one's own too. -/
def freezeP {α : Type} (v : V) (k : D → HM α) : HM α :=
  match v with
  | .rp id off => .get id fun
      | .box cs => .put id .dead (mapHM freeze (cs.drop off) fun ds => k (.pt ds))
      | _ => .fail
  | v => freeze v k

/-- A cell handed to a callee that only reads. -/
def rowCells (sz : Nat) (es : List (List D)) : List D := (List.range (es.length * sz)).map fun t => cellD es (t / sz) (t % sz)
def snap {α : Type} : Nat → V → (D → HM α) → HM α
  | _, .one _ d, k => k d
  | _, .nils sz, k => k (.sl sz [])
  | _, .rw id, k => .get id fun
      | .row _ sz es => k (.sl sz es)
      | _ => .fail
  | _, .rs id off len, k => .get id fun
      | .row _ sz es => k (.sl sz ((es.drop off).take len))
      | _ => .fail
  | n + 1, .rp id off, k => .get id fun
      | .box cs => mapHM (snap n) (cs.drop off) fun ds => k (.pt ds)
      | _ => .fail
  | n + 1, .fnv f a b, k => mapHM (snap n) a fun da => mapHM (snap n) b fun db => k (.fn f da db)
  | _, .rm id, k => .get id fun
      | .mp es => k (.mp es)
      | _ => .fail
  | _, .re id 0 0, k => .get id fun
      | .row _ sz es => k (.pt (rowCells sz es))
      | _ => .fail
  | _, _, _ => .fail

def snapQ {α : Type} (v : V) (k : Q → HM α) : HM α :=
  match v with
  | .agg cs => mapHM (snap 8) cs fun ds => k (.agg ds)
  | v => snap 8 v fun d => k (.one d)

/-- Results taken over: s: the first free object. -/
def impt {α : Type} : List RK → List Q → Nat → (List V → HM α) → HM α
  | [], _, _, k => k []
  | r :: rs, qs, s, k =>
    let q := qs.headD (.one .nilp)
    match r with
    | .one l => leafO true l q.one? fun v => impt rs qs.tail s fun vs => k (v :: vs)
    | .own sz => .es (q.one?.bind (D.sl? sz)) fun es => .put s (.row false sz es) (impt rs qs.tail (s + 1) fun vs => k (.rw s :: vs))
    | .agg ls => .ds q.agg? fun cs => leafs true [cs] 0 ls 0 fun cs => impt rs qs.tail s fun vs => k (.agg cs :: vs)

/-- Results handed out: first all that is held for good, then what goes over to the caller. -/
def expA {α : Type} : List RK → List V → (List Q → HM α) → HM α
  | [], [], k => k []
  | .own _ :: rs, _ :: vs, k => expA rs vs fun qs => k (.one .nilp :: qs)
  | .one _ :: rs, v :: vs, k => freezeP v fun d => expA rs vs fun qs => k (.one d :: qs)
  | .agg ls :: rs, v :: vs, k => match v with
    | .agg cs => if ls.length = cs.length then mapHM freeze cs fun ds => expA rs vs fun qs => k (.agg ds :: qs) else .fail
    | _ => .fail
  | _, _, _ => .fail
def expB {α : Type} : List RK → List V → List Q → List Nat → (List Q → HM α) → HM α
  | [], [], [], _, k => k []
  | .own sz :: rs, v :: vs, _ :: qs, ids, k => match v with
    | .rw id => if ids.contains id then .fail else .get id fun
        | .row false sz' es => if sz = sz' then expB rs vs qs (id :: ids) fun r => k (.one (.sl sz es) :: r) else .fail
        | _ => .fail
    | .rs id 0 len => if ids.contains id then .fail else .get id fun
        | .row false sz' es => if sz = sz' then expB rs vs qs (id :: ids) fun r => k (.one (.sl sz (es.take len)) :: r) else .fail
        | _ => .fail
    | .nils _ => if sz = 0 then .fail else expB rs vs qs ids fun r => k (.one (.sl sz []) :: r)
    | _ => .fail
  | .one _ :: rs, _ :: vs, q :: qs, ids, k => expB rs vs qs ids fun r => k (q :: r)
  | .agg _ :: rs, _ :: vs, q :: qs, ids, k => expB rs vs qs ids fun r => k (q :: r)
  | _, _, _, _, _ => .fail
def expt {α : Type} (rks : List RK) (vs : List V) (k : List Q → HM α) : HM α := expA rks vs fun qs => expB rks vs qs [] k

/-! ### Operations -/
def constV : Value → V
  | .int k n => .one true (.int k n)
  | .bool b => .one true (.bool b)
  | .string s => .one true (.str s)
  | .slice none 0 0 => .nils 0
  | .pointer none => .one true .nilp
  | .map none => .one true .nilm
  | .nilFunc => .one true .nilf
  | .nilIface => .one true .nili
  | _ => .undef

def vint (k : IntKind) (n : Int) : V := .one true (.int k n)
def vbool (b : Bool) : V := .one true (.bool b)
def vstr (s : ByteArray) : V := .one true (.str s)

def strEq (a b : ByteArray) : Bool := a.toList == b.toList

/-- Cell by cell. -/
def eqD : D → D → Option Bool
  | .int k a, .int k' b => if k = k' then some (a == b) else none
  | .bool a, .bool b => some (a == b)
  | .str a, .str b => some (strEq a b)
  | _, _ => none
def eqFs (e : Nat → TypeId → Option Bool) : List (Nat × TypeId) → Option Bool
  | [] => some true
  | [f] => e f.1 f.2
  | f :: fs => (e f.1 f.2).bind fun b => (eqFs e fs).bind fun c => some (b && c)
def eqAt (C : Cfg) : Nat → TypeId → List V → List V → Option Bool
  | 0, _, _, _ => none
  | d + 1, T, xs, ys =>
    match (C.ty T).k, xs, ys with
    | .int _, [.one _ (.int k a)], [.one _ (.int k' b)] => if k = k' then some (a == b) else none
    | .bool, [.one _ (.bool a)], [.one _ (.bool b)] => some (a == b)
    | .string, [.one _ (.str a)], [.one _ (.str b)] => some (strEq a b)
    | .struct fs, xs, ys => if (C.ty T).eq then
        eqFs (fun o t => if o + (C.ty t).size ≤ xs.length ∧ o + (C.ty t).size ≤ ys.length then eqAt C d t ((xs.drop o).take (C.ty t).size) ((ys.drop o).take (C.ty t).size) else none) fs
      else none
    | _, _, _ => none
def retO (o : Option V) : HM V := match o with | some v => .ret v | none => .fail

def binHM (C : Cfg) (op : BinOp) (T : TypeId) (x y : V) : HM V :=
  match x, y with
  | .one _ (.int k a), .one _ (.int k' b) =>
    match op with
    | .shl => .gd (decide (0 ≤ b)) (.ret (vint k (k.wrap (a * 2 ^ (min b.toNat k.bits)))))
    | .shr => .gd (decide (0 ≤ b)) (.ret (vint k (a.fdiv (2 ^ (min b.toNat k.bits)))))
    | _ => if k = k' then
        match op with
        | .add => .ret (vint k (k.wrap (a + b)))
        | .sub => .ret (vint k (k.wrap (a - b)))
        | .mul => .ret (vint k (k.wrap (a * b)))
        | .quo => .gd (!decide (b = 0)) (.ret (vint k (k.wrap (a.tdiv b))))
        | .rem => .gd (!decide (b = 0)) (.ret (vint k (a.tmod b)))
        | .and => .ret (vint k (k.wrap (BitVec.ofInt k.bits a &&& BitVec.ofInt k.bits b).toNat))
        | .or => .ret (vint k (k.wrap (BitVec.ofInt k.bits a ||| BitVec.ofInt k.bits b).toNat))
        | .xor => .ret (vint k (k.wrap (BitVec.ofInt k.bits a ^^^ BitVec.ofInt k.bits b).toNat))
        | .eql => .ret (vbool (a == b))
        | .neq => .ret (vbool (a != b))
        | .lss => .ret (vbool (decide (a < b)))
        | .leq => .ret (vbool (decide (a ≤ b)))
        | .gtr => .ret (vbool (decide (a > b)))
        | .geq => .ret (vbool (decide (a ≥ b)))
        | _ => .fail
      else .fail
  | .one _ (.str a), .one _ (.str b) =>
    match op with
    | .add => .gd (decide (a.size + b.size ≤ LIM)) (.ret (vstr (a ++ b)))
    | .eql => .ret (vbool (strEq a b))
    | .neq => .ret (vbool (!strEq a b))
    | .lss => .ret (vbool (Op.bytesLess a.toList b.toList))
    | .geq => .ret (vbool (!Op.bytesLess a.toList b.toList))
    | .leq => .ret (vbool (Op.bytesLess a.toList b.toList || strEq a b))
    | .gtr => .ret (vbool (!(Op.bytesLess a.toList b.toList || strEq a b)))
    | _ => .fail
  | .one _ (.bool a), .one _ (.bool b) =>
    match (C.ty T).k, op with
    | .bool, .eql => .ret (vbool (a == b))
    | .bool, .neq => .ret (vbool (!(a == b)))
    | _, _ => .fail
  | .one _ .nili, .one _ (.ifc _ _) | .one _ (.ifc _ _), .one _ .nili =>
    match (C.ty T).k, op with
    | .iface, .eql => .ret (vbool false)
    | .iface, .neq => .ret (vbool true)
    | _, _ => .fail
  | .one _ (.sl _ es), .nils _ =>
    match (C.ty T).k, op with
    | .slice _, .eql => .gd (decide (0 < es.length)) (.ret (vbool false))
    | .slice _, .neq => .gd (decide (0 < es.length)) (.ret (vbool true))
    | _, _ => .fail
  | .agg xs, .agg ys =>
    match (C.ty T).k, op with
    | .struct _, .eql => .bool (eqAt C 20 T xs ys) fun b => .ret (vbool b)
    | .struct _, .neq => .bool (eqAt C 20 T xs ys) fun b => .ret (vbool (!b))
    | _, _ => .fail
  | _, _ => .fail

def pickV (c : Bool) : V → V → HM V
  | .one _ (.int k a), .one _ (.int k' b) => if k = k' then .ret (vint k (cond c a b)) else .fail
  | .one _ (.bool a), .one _ (.bool b) => .ret (vbool (cond c a b))
  | .one _ (.str a), .one _ (.str b) => .ret (vstr (cond c a b))
  | x, y => match c with
    | true => .ret x
    | false => .ret y

def rowStr? : List (List D) → Option (List UInt8)
  | [] => some []
  | e :: es => ((e.getD 0 .nilp).int? .u8).bind fun n => (rowStr? es).bind fun r => some (UInt8.ofNat n.toNat :: r)
def strRow (s : ByteArray) : List (List D) := s.data.toList.map fun b => [.int .u8 b.toNat]

/-- The rows that a slice shows. -/
def rowsOf {α : Type} (v : V) (k : Bool → Nat → List (List D) → HM α) : HM α :=
  match v with
  | .one fr (.sl sz es) => k fr sz es
  | .nils sz => k true sz []
  | .rw id => .get id fun
      | .row _ sz es => k true sz es
      | _ => .fail
  | .rs id off len => .get id fun
      | .row _ sz es => k true sz ((es.drop off).take len)
      | _ => .fail
  | _ => .fail

def loadHM (C : Cfg) (T : TypeId) (a : V) : HM V :=
  let t := C.ty T
  match a with
  | .rp id off => .get id fun
      | .box cs => if off + t.size ≤ cs.length then .ret (mkVal t ((cs.drop off).take t.size)) else .fail
      | _ => .fail
  | .re id i j => .get id fun
      | .row false sz es => .gd (decide (j + t.lk.length ≤ sz)) (leafs true es i t.lk j fun cs => .ret (mkVal t cs))
      | .row true sz es =>
        match t.k with
        | .array n e =>
          if sz = (C.ty e).size then
            if i = 0 ∧ j = 0 then .gd (decide (es.length = n)) (mapHM (fun i (k : List V → HM V) => leafs true es i (C.ty e).lk 0 k) (List.range n) fun css => .ret (.agg css.flatten)) else .fail
          else .gd (decide (j + t.lk.length ≤ sz)) (leafs true es i t.lk j fun cs => .ret (mkVal t cs))
        | _ => .gd (decide (j + t.lk.length ≤ sz)) (leafs true es i t.lk j fun cs => .ret (mkVal t cs))
      | _ => .fail
  | .pe fr sz es i j => .gd (decide (j + t.lk.length ≤ sz)) (leafs fr es i t.lk j fun cs => .ret (mkVal t cs))
  | .one fr (.pt cs) => .gd (decide (t.lk.length ≤ cs.length)) (leafs fr [cs] 0 t.lk 0 fun cs => .ret (mkVal t cs))
  | _ => .fail

/-- An element of a slice of slices of one's own is taken out: s: the object that it becomes. -/
def outNHM (id sz i s : Nat) (es : List (List (List D))) : HM V := .put id (.nest sz (some (i, some s)) es) (.put s (.row false sz (es.getD i [])) (.ret (.rw s)))
def loadNHM (C : Cfg) (T : TypeId) (a : V) (s : Nat) : HM V :=
  match a with
  | .re id i 0 => .get id fun
      | .nest sz hole es => if (C.ty T).size = 1 ∧ isAgg (C.ty T).k = false then
          match hole with
          | none => outNHM id sz i s es
          | some (k, some s1) => .get s1 fun
              | .row false sz1 es1 => if sz1 = sz ∧ s1 ≠ id then .put s1 .dead (outNHM id sz i s (es.set k es1)) else .fail
              | _ => .fail
          | some (_, none) => .fail
        else .fail
      | _ => loadHM C T a
  | a => loadHM C T a

/-- xs with ys in place of what stands from i on. -/
def splice {α : Type} (xs : List α) (i : Nat) (ys : List α) : List α := xs.take i ++ ys ++ xs.drop (i + ys.length)

def setRow (sz : Nat) (es : List (List D)) (i j : Nat) (ds : List D) : List (List D) :=
  es.set i ((List.range sz).map fun jj => if j ≤ jj ∧ jj < j + ds.length then ds.getD (jj - j) .nilp else cellD es i jj)

/-- Equal pieces, one behind the other. -/
def chunks {α : Type} (s : Nat) : Nat → List α → List (List α)
  | 0, _ => []
  | n + 1, xs => xs.take s :: chunks s n (xs.drop s)

def storeHM (C : Cfg) (T : TypeId) (a v : V) : HM V :=
  let t := C.ty T
  match a with
  | .rp id off => .get id fun
      | .box cs => if t.size = (cellsOf v).length ∧ off + t.size ≤ cs.length ∧ (cellsOf v).all okCell then .put id (.box (splice cs off (cellsOf v))) (.ret (.tup [])) else .fail
      | _ => .fail
  | .re id i j => mapHM freeze (cellsOf v) fun ds => .get id fun
      | .row arr sz es =>
        match arr, t.k with
        | true, .array n e =>
          if sz = (C.ty e).size then
            if ds.length = n * sz ∧ i = 0 ∧ j = 0 then .gd (decide (es.length = n)) (.put id (.row true sz (chunks sz n ds)) (.ret (.tup []))) else .fail
          else if ds.length = t.size then .gd (decide (j + t.size ≤ sz)) (.put id (.row arr sz (setRow sz es i j ds)) (.ret (.tup []))) else .fail
        | _, _ => if ds.length = t.size then .gd (decide (j + t.size ≤ sz)) (.put id (.row arr sz (setRow sz es i j ds)) (.ret (.tup []))) else .fail
      | _ => .fail
  | _ => .fail

/-- A slice of one's own becomes an element of a slice of slices of one's own. -/
def inNHM (id sz i s2 : Nat) (es : List (List (List D))) (rows : List (List D)) : HM V := .put s2 .dead (.put id (.nest sz none (es.set i rows)) (.ret (.tup [])))
def storeNHM (C : Cfg) (T : TypeId) (a v : V) : HM V :=
  match a, v with
  | .re id i 0, .rw s2 => .get id fun
      | .nest sz hole es => .get s2 fun
          | .row false sz2 rows => if sz2 = sz ∧ s2 ≠ id ∧ (C.ty T).size = 1 then
              match hole with
              | none => inNHM id sz i s2 es rows
              | some (k, _) => .gd (decide (i = k)) (inNHM id sz i s2 es rows)
            else .fail
          | _ => .fail
      | _ => storeHM C T a v
  | a, v => storeHM C T a v

/-- A new variable: its cells. -/
def newVarHM (C : Cfg) (T : TypeId) (s : Nat) (cs : List V) : HM V :=
  match (C.ty T).k with
  | .array n e => if 0 < n ∧ 0 < (C.ty e).size ∧ cs.length = n * (C.ty e).size then mapHM freeze cs fun ds => .put s (.row true (C.ty e).size (chunks (C.ty e).size n ds)) (.ret (.re s 0 0)) else .fail
  | _ => if cs.length = (C.ty T).size ∧ cs.all okCell then .put s (.box cs) (.ret (.rp s 0)) else .fail

def setParts : List (Nat × List V) → List V → List V
  | [], cs => cs
  | (o, p) :: ps, cs => setParts ps (splice cs o p)

def buildHM (C : Cfg) (T : TypeId) (parts : List (Nat × V)) : HM V :=
  let t := C.ty T
  match t.k with
  | .struct fs =>
    if parts.all fun (i, v) => decide (i < fs.length) && decide (0 < (cellsOf v).length) && decide ((cellsOf v).length = (C.ty (fs.getD i (0, 0)).2).size) && decide ((fs.getD i (0, 0)).1 + (cellsOf v).length ≤ t.lk.length) then
      .ret (.agg (setParts (parts.map fun (i, v) => ((fs.getD i (0, 0)).1, cellsOf v)) (t.lk.map zeroV)))
    else .fail
  | .array n e =>
    if 0 < (C.ty e).size ∧ parts.all fun (i, v) => decide (i < n) && decide ((cellsOf v).length = (C.ty e).size) then
      .ret (.agg (setParts (parts.map fun (i, v) => (i * (C.ty e).size, cellsOf v)) (t.lk.map zeroV)))
    else .fail
  | _ => .fail

def buildSliceHM (C : Cfg) (T : TypeId) (n : Nat) (parts : List (Nat × V)) (s : Nat) : HM V :=
  match (C.ty T).k with
  | .slice e =>
    let te := C.ty e
    if n * te.size ≤ 16777216 then
      if 0 < te.size ∧ parts.all fun (i, v) => decide (i < n) && decide ((cellsOf v).length = te.size) then
        mapHM (fun (p : Nat × V) k => mapHM freeze (cellsOf p.2) fun ds => k (p.1, ds)) parts fun ps =>
          .put s (.row false te.size (ps.foldl (fun es p => es.set p.1 p.2) (List.replicate n (te.lk.map zeroD)))) (.ret (.rw s))
      else .fail
    else .fail
  | _ => .fail

def lenHM (C : Cfg) (T : TypeId) (v : V) : HM V :=
  match (C.ty T).k, v with
  | .string, .one _ (.str s) => .ret (vint .i64 s.size)
  | .array n _, _ => .ret (vint .i64 n)
  | .slice _, .one _ (.sl _ es) => .ret (vint .i64 es.length)
  | .slice _, .nils _ => .ret (vint .i64 0)
  | .slice _, .rs _ _ len => .ret (vint .i64 len)
  | .slice _, .rw id => .get id fun
      | .row _ _ es => .ret (vint .i64 es.length)
      | .nest _ _ es => .ret (vint .i64 es.length)
      | _ => .fail
  | .map _ _, .rm id => .get id fun
      | .mp es => .ret (vint .i64 es.length)
      | _ => .fail
  | .map _ _, .one _ (.mp es) => .ret (vint .i64 es.length)
  | _, _ => .fail

/-- es, and behind it what y shows: k: what is done with the old row. -/
def moreHM (C : Cfg) (sz : Nat) (yt : TypeId) (y : V) (s : Nat) (es : List (List D)) (k : HM V → HM V) : HM V :=
  match (C.ty yt).k with
  | .string => match y with
    | .one _ (.str str) => if sz = 1 then .gd (decide (es.length + (strRow str).length ≤ LIM)) (k (.put s (.row false sz (es ++ strRow str)) (.ret (.rw s)))) else .fail
    | _ => .fail
  | .slice _ => rowsOf y fun fr sz' ys =>
      if sz' = sz then cond fr (.gd (decide (es.length + ys.length ≤ LIM)) (k (.put s (.row false sz (es ++ ys)) (.ret (.rw s)))))
        (.gd (ys.all fun r => r.all scalar) (.gd (decide (es.length + ys.length ≤ LIM)) (k (.put s (.row false sz (es ++ ys)) (.ret (.rw s))))))
      else match ys with
        | [] => .gd (decide (es.length ≤ LIM)) (k (.put s (.row false sz (es ++ [])) (.ret (.rw s))))
        | _ :: _ => .fail
  | _ => .fail

def appendHM (C : Cfg) (T : TypeId) (x y : V) (yt : TypeId) (s : Nat) : HM V :=
  match (C.ty T).k with
  | .slice e =>
    if (C.ty e).size = 0 then .fail else
    match x with
    | .nils _ => moreHM C (C.ty e).size yt y s [] fun m => m
    | .rw id => .get id fun
        | .row false sz' es => if sz' = (C.ty e).size then moreHM C (C.ty e).size yt y s es fun m => .put id .dead m else .fail
        | _ => .fail
    | _ => .fail
  | _ => .fail

def idxHM {α : Type} (i : V) (n : Nat) (k : Nat → HM α) : HM α :=
  match i with
  | .one _ (.int _ i) => .gd (decide (0 ≤ i)) (.gd (decide (i < n)) (k i.toNat))
  | _ => .fail

def indexAddrHM (C : Cfg) (T : TypeId) (x i : V) : HM V :=
  match (C.ty T).k with
  | .slice e =>
    if (C.ty e).size = 0 then .fail else
    match x with
    | .one fr (.sl sz es) => if sz = (C.ty e).size then idxHM i es.length fun i => .ret (.pe fr sz es i 0) else .fail
    | .rw id => .get id fun
        | .row _ sz es => if sz = (C.ty e).size then idxHM i es.length fun i => .ret (.re id i 0) else .fail
        | .nest _ _ es => if (C.ty e).size = 1 then idxHM i es.length fun i => .ret (.re id i 0) else .fail
        | _ => .fail
    | .rs id off len => .get id fun
        | .row _ sz _ => if sz = (C.ty e).size then idxHM i len fun i => .ret (.re id (off + i) 0) else .fail
        | _ => .fail
    | _ => .fail
  | .array n e =>
    if (C.ty e).size = 0 then .fail else
    match x with
    | .re id i0 j => .get id fun
        | .row true sz es => if sz = (C.ty e).size ∧ i0 = 0 ∧ j = 0 then idxHM i n fun i => .gd (decide (i < es.length)) (.ret (.re id i 0))
          else idxHM i n fun i => .ret (.re id i0 (j + i * (C.ty e).size))
        | .row false _ _ => idxHM i n fun i => .ret (.re id i0 (j + i * (C.ty e).size))
        | _ => .fail
    | .rp id off => idxHM i n fun i => .ret (.rp id (off + i * (C.ty e).size))
    | .pe fr sz es i0 j => idxHM i n fun i => .ret (.pe fr sz es i0 (j + i * (C.ty e).size))
    | .one fr (.pt cs) => idxHM i n fun i => .ret (.pe fr cs.length [cs] 0 (i * (C.ty e).size))
    | _ => .fail
  | _ => .fail

def byteAt (s : ByteArray) (i : Nat) : Int := ((s.data.toList.getD i 0).toNat : Int)

def intsOf (k : IntKind) : List V → Option (List Int)
  | [] => some []
  | .one _ (.int k' n) :: vs => if k = k' then (intsOf k vs).bind fun r => some (n :: r) else none
  | _ => none

def indexHM (C : Cfg) (T : TypeId) (x i : V) : HM V :=
  match (C.ty T).k, x with
  | .string, .one _ (.str s) => idxHM i s.size fun i => .ret (vint .u8 (byteAt s i))
  | .array n e, .agg cs =>
    match (C.ty e).k with
    | .int k => match intsOf k cs with
      | some ns => if n ≤ ns.length then idxHM i n fun i => .ret (vint k (ns.getD i 0)) else .fail
      | none => .fail
    | .bool => .fail
    | .string => .fail
    | _ => if (C.ty e).size = 0 then .fail else match (C.ty e).lk with
      | .int k :: _ => match intsOf k cs with
        | some ns => if n * (C.ty e).size ≤ ns.length then idxHM i n fun i => .ret (mkVal (C.ty e) ((List.range (C.ty e).size).map fun j => vint k (ns.getD (i * (C.ty e).size + j) 0))) else .fail
        | none => .fail
      | _ => .fail
  | _, _ => .fail

def intHM {α : Type} (v : V) (k : Int → HM α) : HM α :=
  match v with
  | .one _ (.int _ n) => k n
  | _ => .fail

def lowHM {α : Type} (lo : Option V) (h : Nat) (k : Nat → Nat → HM α) : HM α :=
  match lo with
  | none => k 0 h
  | some v => intHM v fun l => .gd (decide (0 ≤ l)) (.gd (decide (l ≤ h)) (k l.toNat h))
def boundsHM {α : Type} (lo hi : Option V) (n : Nat) (k : Nat → Nat → HM α) : HM α :=
  match hi with
  | none => lowHM lo n k
  | some v => intHM v fun h => .gd (decide (0 ≤ h)) (.gd (decide (h ≤ n)) (lowHM lo h.toNat k))

def sliceHM (C : Cfg) (T : TypeId) (x : V) (lo hi mx : Option V) : HM V :=
  match mx with
  | some _ => .fail
  | none =>
  match (C.ty T).k with
  | .string =>
    match x with
    | .one _ (.str s) => boundsHM lo hi s.size fun l h => .ret (vstr (s.extract l h))
    | _ => .fail
  | .slice e =>
    if (C.ty e).size = 0 then .fail else
    match x with
    | .one fr (.sl sz es) => if sz = (C.ty e).size then boundsHM lo hi es.length fun l h => .ret (.one fr (.sl sz ((es.drop l).take (h - l)))) else .fail
    | .rw id => .get id fun
        | .row _ sz es => if sz = (C.ty e).size then boundsHM lo hi es.length fun l h => .ret (.rs id l (h - l)) else .fail
        | _ => .fail
    | .rs id off len => .get id fun
        | .row _ sz _ => if sz = (C.ty e).size then boundsHM lo hi len fun l h => .ret (.rs id (off + l) (h - l)) else .fail
        | _ => .fail
    | .nils sz => boundsHM lo hi 0 fun _ _ => .ret (.nils sz)
    | _ => .fail
  | .array n e =>
    if (C.ty e).size = 0 then .fail else
    match x with
    | .re id i j => .get id fun
        | .row true sz es => if sz = (C.ty e).size ∧ i = 0 ∧ j = 0 then .gd (decide (es.length = n)) (boundsHM lo hi n fun l h => .ret (.rs id l (h - l))) else .fail
        | _ => .fail
    | _ => .fail
  | _ => .fail

def convHM (C : Cfg) (S T : TypeId) (x : V) (s : Nat) : HM V :=
  if (C.ty S).size = 0 then .fail else
  match (C.ty T).k with
  | .int k => match x with
    | .one _ (.int _ n) => .ret (vint k (k.wrap n))
    | _ => .fail
  | .string => match x with
    | .one _ (.str a) => .ret (vstr a)
    | x => match (C.ty S).k with
      | .slice e => match (C.ty e).k with
        | .int .u8 => rowsOf x fun _ sz es => if sz = 1 then .str ((rowStr? es).map fun l => ⟨l.toArray⟩) fun a => .ret (vstr a) else match es with
          | [] => .ret (vstr ⟨#[]⟩)
          | _ :: _ => .fail
        | _ => .fail
      | _ => .fail
  | .slice e => match (C.ty S).k with
    | .string => match x with
      | .one _ (.str a) => match (C.ty e).k with
        | .int .u8 => .gd (decide (a.size ≤ LIM)) (.put s (.row false 1 (strRow a)) (.ret (.rw s)))
        | _ => .fail
      | _ => .fail
    | _ => .fail
  | _ => .fail

/-- Keys: whole numbers, bools, strings, cell by cell. -/
def keyEq : List D → List D → Option Bool
  | [], [] => some true
  | x :: xs, y :: ys => (eqD x y).bind fun b => (keyEq xs ys).bind fun c => some (b && c)
  | _, _ => none
def mpGet (k : List D) : List (List D × List D) → Option (Option (List D))
  | [] => some none
  | e :: es => (keyEq k e.1).bind fun b => cond b (some (some e.2)) (mpGet k es)
def mpSet (k v : List D) : List (List D × List D) → Option (List (List D × List D))
  | [] => some [(k, v)]
  | e :: es => (keyEq k e.1).bind fun b => cond b (some ((k, v) :: es)) ((mpSet k v es).map (e :: ·))

/-- Types of keys: whole numbers, bools, strings, and structs and arrays of these, of other than one cell. -/
def contig (C : Cfg) : Nat → List (Nat × TypeId) → Nat → Bool
  | o, [], n => decide (o = n)
  | o, f :: fs, n => decide (f.1 = o) && contig C (o + (C.ty f.2).size) fs n
def keyTy (C : Cfg) : Nat → TypeId → Bool
  | 0, _ => false
  | n + 1, T => match (C.ty T).k with
    | .int _ | .bool | .string => true
    | .struct fs => (C.ty T).eq && decide ((C.ty T).size ≠ 1) && contig C 0 fs (C.ty T).size && fs.all fun f => keyTy C n f.2
    | .array m e => decide ((C.ty T).size ≠ 1) && decide ((C.ty T).size = m * (C.ty e).size) && keyTy C n e
    | _ => false
/-- Are a key's cells of its type's kinds? -/
def kfit (C : Cfg) : Nat → TypeId → List D → Bool
  | 0, _, _ => false
  | n + 1, T, xs => match (C.ty T).k with
    | .int k => match xs with
      | [.int k' _] => decide (k = k')
      | _ => false
    | .bool => match xs with
      | [.bool _] => true
      | _ => false
    | .string => match xs with
      | [.str _] => true
      | _ => false
    | .struct fs => fs.all fun f => kfit C n f.2 ((xs.drop f.1).take (C.ty f.2).size)
    | .array m e => (List.range m).all fun i => kfit C n e ((xs.drop (i * (C.ty e).size)).take (C.ty e).size)
    | _ => false
/-- Cells that are plain. -/
def scsD : List V → Option (List D)
  | [] => some []
  | .one _ d :: vs => if scalar d = true then (scsD vs).map (d :: ·) else none
  | _ => none
/-- Arrays are compared, too. -/
def binAHM (C : Cfg) (op : BinOp) (T : TypeId) (x y : V) : HM V :=
  match (C.ty T).k, x, y with
  | .array _ _, .agg xs, .agg ys =>
    match scsD xs, scsD ys with
    | some dx, some dy =>
      if ((C.ty T).eq = true ∧ keyTy C 20 T = true) ∧ (kfit C 20 T dx = true ∧ (dx.length = (C.ty T).size ∧ dy.length = (C.ty T).size)) then
        match op with
        | .eql => .bool (keyEq dx dy) fun b => .ret (vbool b)
        | .neq => .bool (keyEq dx dy) fun b => .ret (vbool (!b))
        | _ => .fail
      else .fail
    | _, _ => .fail
  | _, _, _ => binHM C op T x y

def aggV : V → Bool
  | .agg _ => true
  | _ => false
/-- A value of a type that a map may hold. -/
def valTy (C : Cfg) (T : TypeId) : Bool := decide ((C.ty T).size ≠ 0) && (!isAgg (C.ty T).k || decide ((C.ty T).size ≠ 1))
def makeMapHM (C : Cfg) (T : TypeId) (s : Nat) : HM V :=
  match (C.ty T).k with
  | .map _ _ => .put s (.mp []) (.ret (.rm s))
  | _ => .fail
def mapUpdateHM (C : Cfg) (T : TypeId) (m k v : V) : HM V :=
  match (C.ty T).k, m with
  | .map kt e, .rm id => cond (keyTy C 20 kt && (valTy C e && (aggV k == isAgg (C.ty kt).k && (aggV v == isAgg (C.ty e).k && (decide ((cellsOf k).length = (C.ty kt).size) && decide ((cellsOf v).length = (C.ty e).size)))))) (mapHM freeze (cellsOf k) fun kd => mapHM freeze (cellsOf v) fun vd => cond (kfit C 20 kt kd) (.get id fun
    | .mp es => .mps (mpSet kd vd es) fun es => .put id (.mp es) (.ret (.tup []))
    | _ => .fail) .fail) .fail
  | _, _ => .fail
def foundHM (C : Cfg) (kt e : TypeId) (k : V) (ok fr : Bool) (es : List (List D × List D)) : HM V :=
  cond (keyTy C 20 kt && (valTy C e && (aggV k == isAgg (C.ty kt).k && decide ((cellsOf k).length = (C.ty kt).size)))) (mapHM freeze (cellsOf k) fun kd => cond (kfit C 20 kt kd) (.od (mpGet kd es) fun r =>
    .gd (decide ((r.getD ((C.ty e).lk.map zeroD)).length = (C.ty e).size)) (leafs fr [r.getD ((C.ty e).lk.map zeroD)] 0 (C.ty e).lk 0 fun cs =>
      .ret (cond ok (.tup [mkVal (C.ty e) cs, vbool r.isSome]) (mkVal (C.ty e) cs)))) .fail) .fail
def lookupHM (C : Cfg) (T : TypeId) (m k : V) (ok : Bool) : HM V :=
  match (C.ty T).k with
  | .map kt e =>
    match m with
    | .rm id => .get id fun
        | .mp es => foundHM C kt e k ok true es
        | _ => .fail
    | .one fr (.mp es) => foundHM C kt e k ok fr es
    | .one fr .nilm => foundHM C kt e k ok fr []
    | _ => .fail
  | _ => .fail

def boundsOk (n : Nat) : Bool := decide (n ≤ LIM)

def makeSliceHM (C : Cfg) (T : TypeId) (l c : V) (s : Nat) : HM V :=
  match (C.ty T).k, l, c with
  | .slice e, .one _ (.int _ l), .one _ (.int _ c) =>
    if (C.ty e).size = 0 then .fail else .gd (decide (0 ≤ l)) (.gd (decide (l ≤ c)) (.gd (decide (c ≤ LIM)) (.put s (.row false (C.ty e).size (List.replicate l.toNat ((C.ty e).lk.map zeroD))) (.ret (.rw s)))))
  | _, _, _ => .fail

/-- A slice of slices of one's own out of none, or of one slice of one's own. -/
def buildNHM (C : Cfg) (T : TypeId) (n : Nat) (parts : List (Nat × V)) (s : Nat) : HM V :=
  match (C.ty T).k with
  | .slice e =>
    match (C.ty e).lk with
    | [.sl isz] => if 0 < isz ∧ (C.ty e).size = 1 then
        match n, parts with
        | 0, [] => .put s (.nest isz none []) (.ret (.rw s))
        | 1, [(0, .rw id)] => .get id fun
            | .row false sz es => if sz = isz then .put id .dead (.put s (.nest isz none [es]) (.ret (.rw s))) else .fail
            | _ => .fail
        | _, _ => .fail
      else .fail
    | _ => buildSliceHM C T n parts s
  | _ => .fail
def isSl : List LK → Bool
  | [.sl _] => true
  | _ => false
/-- A type of slices of slices. -/
def nstE (C : Cfg) (T : TypeId) : Bool :=
  match (C.ty T).k with
  | .slice e => isSl (C.ty e).lk
  | _ => false
/-- Two slices of slices of one's own, one behind the other. -/
def appendNHM (C : Cfg) (T : TypeId) (x y : V) (yt : TypeId) (s : Nat) : HM V :=
  match x, y with
  | .rw ix, .rw iy => .get ix fun
      | .nest sz none es => .get iy fun
          | .nest sz2 none ys =>
            match (C.ty T).k, (C.ty yt).k with
            | .slice e, .slice _ => if (sz2 = sz ∧ ix ≠ iy ∧ (C.ty e).size = 1) ∧ isSl (C.ty e).lk = true then .gd (decide (es.length + ys.length ≤ LIM)) (.put ix .dead (.put iy .dead (.put s (.nest sz none (es ++ ys)) (.ret (.rw s))))) else .fail
            | _, _ => .fail
          | _ => .fail
      | _ => appendHM C T x y yt s
  | _, _ => appendHM C T x y yt s
/-- A slice of slices of one's own, all of them nil. -/
def makeNHM (C : Cfg) (T : TypeId) (l c : V) (s : Nat) : HM V :=
  match (C.ty T).k, l, c with
  | .slice e, .one fl (.int kl l), .one fc (.int kc c) =>
    match (C.ty e).lk with
    | [.sl isz] => if 0 < isz ∧ (C.ty e).size = 1 then .gd (decide (0 ≤ l)) (.gd (decide (l ≤ c)) (.gd (decide (c ≤ LIM)) (.put s (.nest isz none (List.replicate l.toNat [])) (.ret (.rw s))))) else .fail
    | _ => makeSliceHM C T (.one fl (.int kl l)) (.one fc (.int kc c)) s
  | _, _, _ => .fail

def packVs : List V → V
  | [v] => v
  | vs => .tup vs
def callHM (C : Cfg) (g : FuncId) (rk : List RK) (args : List V) (s : Nat) : HM V :=
  mapHM snapQ args fun qs => (C.M g qs).andThen fun r => impt rk r s fun vs => .ret (packVs vs)

/-- The own objects that values lead to, each once, in order; s: those from s on are none of them. -/
def reachHM {α : Type} : Nat → List V → List Nat → (List Nat → HM α) → HM α
  | 0, _, _, _ => .fail
  | _ + 1, [], acc, k => k acc
  | n + 1, v :: vs, acc, k =>
    match v with
    | .rw id | .rs id _ _ | .re id _ _ | .rm id | .rit id => reachHM n vs (cond (acc.contains id) acc (acc ++ [id])) k
    | .rp id _ => cond (acc.contains id) (reachHM n vs acc k)
        (.get id fun
          | .box cs => reachHM n (cs ++ vs) (acc ++ [id]) k
          | _ => reachHM n vs (acc ++ [id]) k)
    | .agg cs | .tup cs => reachHM n (cs ++ vs) acc k
    | .fnv _ a b => reachHM n (a ++ b ++ vs) acc k
    | _ => reachHM n vs acc k

/-- Other numbers. -/
def V.ren (f : Nat → Option Nat) : V → V
  | .rw id => match f id with | some n => .rw n | none => .undef
  | .rs id o l => match f id with | some n => .rs n o l | none => .undef
  | .rp id o => match f id with | some n => .rp n o | none => .undef
  | .re id i j => match f id with | some n => .re n i j | none => .undef
  | .rm id => match f id with | some n => .rm n | none => .undef
  | .rit id => match f id with | some n => .rit n | none => .undef
  | .agg cs => .agg (rens f cs)
  | .tup cs => .tup (rens f cs)
  | .fnv g a b => .fnv g (rens f a) (rens f b)
  | v => v
where
  rens (f : Nat → Option Nat) : List V → List V
  | [] => []
  | v :: vs => V.ren f v :: rens f vs

def Ob.ren (f : Nat → Option Nat) : Ob → Ob
  | .box cs => .box (cs.map (V.ren f))
  | .nest sz hole es => .nest sz (hole.map fun p => (p.1, p.2.bind f)) es
  | o => o
def notNest : Ob → Bool
  | .nest _ _ _ => false
  | _ => true

def putsHM {α : Type} : List Nat → List Ob → HM α → HM α
  | id :: ids, o :: os, k => .put id o (putsHM ids os k)
  | _, _, k => k

/-- A call of a callee that is lent one's own objects. -/
def callBHM (C : Cfg) (g : FuncId) (args : List V) (s : Nat) : HM V :=
  reachHM 1000 args [] fun kh => cond (kh.all fun id => decide (id < s))
    (mapHM (fun id (k : Ob → HM V) => .get id k) kh fun obs => cond (obs.all notNest) (
      (C.MM g (args.map (V.ren fun id => kh.idxOf? id)) (obs.map (Ob.ren fun id => kh.idxOf? id))).andThen fun r =>
        cond (decide (r.2.length = kh.length + C.news g) && r.2.all notNest)
          (putsHM (kh ++ List.range' s (C.news g)) (r.2.map (Ob.ren fun n => (kh ++ List.range' s (C.news g))[n]?))
            (.ret (packVs (r.1.map (V.ren fun n => (kh ++ List.range' s (C.news g))[n]?)))))
          .fail) .fail)
    .fail

/-- A slice's elements made zero. -/
def clearHM (C : Cfg) (T : TypeId) (x : V) : HM V :=
  match (C.ty T).k with
  | .slice e =>
    if (C.ty e).size = 0 then .fail else
    match x with
    | .nils _ => .ret (.tup [])
    | .rs id off len => .get id fun
        | .row arr sz es => if sz = (C.ty e).size then .put id (.row arr sz (splice es off (List.replicate len ((C.ty e).lk.map zeroD)))) (.ret (.tup [])) else .fail
        | _ => .fail
    | _ => .fail
  | _ => .fail

def builtinHM (C : Cfg) (b : Builtin) (ts : List TypeId) (args : List V) (s : Nat) : HM V :=
  match b with
  | .len => match ts, args with
    | t :: _, [x] => lenHM C t x
    | _, _ => .fail
  | .append => match ts, args with
    | t :: u :: _, [x, y] => cond (C.nst t) (appendNHM C t x y u s) (appendHM C t x y u s)
    | _, _ => .fail
  | .min => match args with
    | [.one _ (.int k a), .one _ (.int k' b)] => if k = k' then .ret (vint k (min a b)) else .fail
    | _ => .fail
  | .max => match args with
    | [.one _ (.int k a), .one _ (.int k' b)] => if k = k' then .ret (vint k (max a b)) else .fail
    | _ => .fail
  | .clear => match ts, args with
    | t :: _, [x] => clearHM C t x
    | _, _ => .fail
  | _ => .fail

/-- How many results are the caller's. -/
def owns : List RK → Nat
  | [] => 0
  | .own _ :: rs => owns rs + 1
  | _ :: rs => owns rs

/-- How many objects a call may make. -/
def room (C : Cfg) (g : FuncId) : Nat := cond (C.bor g) (C.news g) (owns (C.sig g))
def callAny (C : Cfg) (g : FuncId) (args : List V) (s : Nat) : HM V := cond (C.bor g) (callBHM C g args s) (callHM C g (C.sig g) args s)

def fieldOf (C : Cfg) (T : TypeId) (f : Nat) : Option (Nat × TypeId) :=
  match (C.ty T).k with
  | .struct fs => fs[f]?
  | _ => none

def moveHM (C : Cfg) (ty : TypeId) (x : V) : HM V :=
  match x with
  | .nils 0 => match (C.ty ty).k with
    | .slice e => .ret (.nils (C.ty e).size)
    | _ => .ret (.nils 0)
  | v => .ret v
def nilCheckHM (x : V) : HM V :=
  match x with
  | .rp id o => .ret (.rp id o)
  | .re id i j => .ret (.re id i j)
  | .pe fr sz es i j => .ret (.pe fr sz es i j)
  | .one fr (.pt cs) => .ret (.one fr (.pt cs))
  | .fnv f a b => .ret (.fnv f a b)
  | .one fr (.fn f a b) => .ret (.one fr (.fn f a b))
  | _ => .fail
def unHM (op : UnOp) (x : V) : HM V :=
  match op, x with
  | .not, .one _ (.bool b) => .ret (vbool (!b))
  | .neg, .one _ (.int k n) => .ret (vint k (k.wrap (0 - n)))
  | _, _ => .fail
def fieldAddrHM (C : Cfg) (T : TypeId) (x : V) (f : Nat) : HM V :=
  match fieldOf C T f with
  | some (o, _) => match x with
    | .rp id off => .ret (.rp id (off + o))
    | .re id i j => .ret (.re id i (j + o))
    | .pe fr sz es i j => .ret (.pe fr sz es i (j + o))
    | .one fr (.pt cs) => .ret (.pe fr cs.length [cs] 0 o)
    | _ => .fail
  | none => .fail
def fieldHM (C : Cfg) (T : TypeId) (x : V) (f : Nat) : HM V :=
  match fieldOf C T f with
  | some (o, t) => match x with
    | .agg cs => if 0 < (C.ty t).size ∧ o + (C.ty t).size ≤ cs.length then .ret (mkVal (C.ty t) ((cs.drop o).take (C.ty t).size)) else .fail
    | _ => .fail
  | none => .fail
def extractHM (x : V) (i : Nat) : HM V :=
  match x with
  | .tup vs => retO vs[i]?
  | _ => .fail

def opHM (C : Cfg) (op : Op) (ty : TypeId) (ρ : Operand → V) (s : Nat) : HM V :=
  match op with
  | .move x | .assign x =>
    moveHM C ty (ρ x)
  | .pick c a b =>
    match ρ c with
    | .one _ (.bool c) => pickV c (ρ a) (ρ b)
    | _ => .fail
  | .alloc T => if (C.ty T).size = 0 then .fail else newVarHM C T s ((C.ty T).lk.map zeroV)
  | .box T v => if (C.ty T).size = 0 then .fail else newVarHM C T s (cellsOf (ρ v))
  | .build T ps => buildHM C T (ps.toList.map fun p => (p.1, ρ p.2))
  | .buildSlice T n ps => cond (C.nst T) (buildNHM C T n (ps.toList.map fun p => (p.1, ρ p.2)) s) (buildSliceHM C T n (ps.toList.map fun p => (p.1, ρ p.2)) s)
  | .load T a => if (C.ty T).size = 0 then .fail else cond (C.nst T) (loadNHM C T (ρ a) s) (loadHM C T (ρ a))
  | .store T a v => if (C.ty T).size = 0 then .fail else cond (C.nst T) (storeNHM C T (ρ a) (ρ v)) (storeHM C T (ρ a) (ρ v))
  | .nilCheck x =>
    nilCheckHM (ρ x)
  | .binOp op T x y _ => binAHM C op T (ρ x) (ρ y)
  | .unOp op _ x =>
    unHM op (ρ x)
  | .convert S T x => convHM C S T (ρ x) s
  | .makeFunc f a b =>
    match f with
    | .func f => .ret (.fnv f (a.toList.map ρ) (b.toList.map ρ))
    | _ => .fail
  | .makeMap T none => makeMapHM C T s
  | .mapUpdate T m k v | .insert T m k v => mapUpdateHM C T (ρ m) (ρ k) (ρ v)
  | .lookup T m k ok => lookupHM C T (ρ m) (ρ k) ok
  | .makeSlice T l c => cond (C.nst T) (makeNHM C T (ρ l) (ρ c) s) (makeSliceHM C T (ρ l) (ρ c) s)
  | .slice T x lo hi mx => sliceHM C T (ρ x) (lo.map ρ) (hi.map ρ) (mx.map ρ)
  | .fieldAddr T x f =>
    fieldAddrHM C T (ρ x) f
  | .field T x f =>
    fieldHM C T (ρ x) f
  | .indexAddr T x i => indexAddrHM C T (ρ x) (ρ i)
  | .index T x i => indexHM C T (ρ x) (ρ i)
  | .extract x i =>
    extractHM (ρ x) i
  | .call c =>
    let args := c.args.toList.map ρ
    match c.callee with
    | .builtin b => builtinHM C b c.argTypes.toList args s
    | .value (.func g) => callAny C g args s
    | .value f =>
      match ρ f with
      | .fnv g a b => if room C g ≤ 2 then callAny C g (a ++ args ++ b) s else .fail
      | .one fr (.fn g a b) => if room C g ≤ 2 then callAny C g (a.map (.one fr) ++ args ++ b.map (.one fr)) s else .fail
      | _ => .fail
    | _ => .fail
  | _ => .fail

/-- How many objects an operation may make. -/
def need (C : Cfg) (op : Op) (ty : TypeId) : Nat :=
  match op with
  | .alloc _ | .box _ _ | .buildSlice _ _ _ | .makeSlice _ _ _ | .makeMap _ _ | .convert _ _ _ => 1
  | .load T _ => cond (C.nst T) 1 0
  | .call c =>
    match c.callee with
    | .builtin .append => 1
    | .value (.func g) => room C g
    | .value _ => 2
    | _ => 0
  | _ => 0

/-! ### States and code -/
structure St where
  t : List V
  h : List Ob
  deriving Inhabited

inductive X where
  | nrm | ext (id : Nat) | ret
  deriving Inhabited

def St.val (C : Cfg) (t : List V) : Operand → V
  | .tmp i => t.getD i .undef
  | .const v => constV v
  | .global g => C.glob g
  | .func f => .fnv f [] []

def setDst (t : List V) (d : Option Nat) (v : V) : List V :=
  match d with
  | some d => t.set d v
  | none => t

/-- The own objects that values lead to, each once, in order. -/
def reach (h : List Ob) : Nat → List V → List Nat → List Nat
  | 0, _, acc => acc
  | _ + 1, [], acc => acc
  | n + 1, v :: vs, acc =>
    match v with
    | .rw id | .rs id _ _ | .re id _ _ | .rm id | .rit id => reach h n vs (cond (acc.contains id) acc (acc ++ [id]))
    | .rp id _ => cond (acc.contains id) (reach h n vs acc)
        (match h.getD id .dead with
         | .box cs => reach h n (cs ++ vs) (acc ++ [id])
         | _ => reach h n vs (acc ++ [id]))
    | .agg cs | .tup cs => reach h n (cs ++ vs) acc
    | .fnv _ a b => reach h n (a ++ b ++ vs) acc
    | _ => reach h n vs acc

/-- Nil slices become rows of their own, so that what a loop's rounds hand on has one form. -/
def rowNil (v : V) (h : List Ob) : V × List Ob :=
  match v with
  | .nils sz => if sz = 0 then (.nils sz, h) else (.rw h.length, h ++ [.row false sz []])
  | v => (v, h)
def rowNils : List V → List Ob → List V × List Ob
  | [], h => ([], h)
  | v :: vs, h =>
    match rowNil v h with
    | (v, h) => match rowNils vs h with
      | (vs, h) => (v :: vs, h)
def rowBox (o : Ob) (h : List Ob) : Ob × List Ob :=
  match o with
  | .box cs => match rowNils cs h with
    | (cs, h) => (.box cs, h)
  | o => (o, h)
def rowBoxes : Nat → Nat → List Ob → List Ob
  | 0, _, h => h
  | n + 1, i, h => match rowBox (h.getD i .dead) h with
    | (o, h) => rowBoxes n (i + 1) (h.set i o)

def maskT (kt : List Nat) : Nat → List V → List V
  | _, [] => []
  | i, v :: vs => cond (kt.contains i) v .undef :: maskT kt (i + 1) vs

/-- What was taken out of slices of slices and is led to no more goes back. -/
def backOne (kh : List Nat) (i : Nat) (h : List Ob) : List Ob :=
  match h.getD i .dead with
  | .nest sz (some (k, some s1)) es => cond (kh.contains s1) h
      (match h.getD s1 .dead with
       | .row false sz1 es1 => if sz1 = sz ∧ s1 ≠ i then (h.set s1 .dead).set i (.nest sz none (es.set k es1)) else h
       | _ => h)
  | _ => h
def backAll (kh : List Nat) : Nat → Nat → List Ob → List Ob
  | 0, _, h => h
  | n + 1, i, h => backAll kh n (i + 1) (backOne kh i h)
/-- Forget all but the temporaries that are named and what they lead to; nb: the first objects stay. -/
def boxCells (h : List Ob) (nb : Nat) : List V := ((List.range nb).map fun id => match h.getD id .dead with | .box cs => cs | _ => []).flatten
def forget (nb : Nat) (kt : List Nat) (st : St) : St :=
  match rowNils (maskT kt 0 st.t) (rowBoxes st.h.length 0 st.h) with
  | (t, h0) =>
    let kh := reach h0 1000 (t ++ boxCells h0 nb) (List.range nb)
    let h := backAll kh h0.length 0 h0
    ⟨t.map (V.ren fun id => kh.idxOf? id), kh.map fun id => (h.getD id .dead).ren fun id => kh.idxOf? id⟩

def evOps {R : Type} (C : Cfg) (ops : List Oper) : List Oper → St → (St → Option R) → Option R
  | [], st, k => k st
  | o :: os, st, k =>
    let go (t : List V) : Option R := (opHM C o.op o.type (St.val C t) st.h.length).run (st.h ++ List.replicate (need C o.op o.type) .dead) fun v h => evOps C ops os ⟨setDst t o.dst v, h⟩ k
    let skip (t : List V) : Option R := evOps C ops os ⟨setDst t o.dst (.tup []), st.h⟩ k
    match o.guard with
    | none => go st.t
    | some (g, want) =>
      match (ops[g]?).bind (·.dst) with
      | some d => match st.t.getD d .undef with
        | .one _ (.bool b) => match want with
          | true => cond b (go (st.t.set d (vbool true))) (skip (st.t.set d (vbool false)))
          | false => cond b (skip (st.t.set d (vbool true))) (go (st.t.set d (vbool false)))
        | .tup [] => skip st.t
        | _ => none
      | none => none

/-! ### Regions that draw -/
structure Lg where
  r : List Nat
  w : List Nat
  q : Option Nat
  deriving Inhabited
/-- The row that an operation reads a place of, or makes longer. -/
def staleOf (C : Cfg) (op : Op) (ρ : Operand → V) : Option Nat :=
  match op with
  | .indexAddr T x _ => match (C.ty T).k, ρ x with
    | .slice _, .rw id => some id
    | _, _ => none
  | .load T a => match (C.ty T).k, (C.ty T).lk, ρ a with
    | .int _, [.int _], .re id _ _ => cond (C.nst T) none (some id)
    | _, _, _ => none
  | .call c => match c.callee, c.args.toList with
    | .builtin .append, [x, y] => cond (C.nst (c.argTypes.toList.getD 0 0) && nstE C (c.argTypes.toList.getD 0 0)) none (match ρ x, ρ y with
      | .rw id, .rw _ => some id
      | _, _ => none)
    | _, _ => none
  | _ => none
def isRd : Op → Bool
  | .indexAddr _ _ _ => true
  | .load _ _ => true
  | _ => false
def isApp : Op → Bool
  | .call c => match c.callee with
    | .builtin .append => true
    | _ => false
  | _ => false
def isMv : Op → Bool
  | .move _ => true
  | _ => false

def evOpsL {R : Type} (C : Cfg) (ops : List Oper) : List Oper → Nat → St → List Lg → (St → List Lg → Option R) → Option R
  | [], _, st, lg, k => k st lg
  | o :: os, s, st, lg, k =>
    let go (t : List V) : Option R := (opHM C o.op o.type (St.val C t) s).runL st.h [] [] fun v h rs ws => evOpsL C ops os (s + need C o.op o.type) ⟨setDst t o.dst v, h⟩ (lg ++ [⟨rs, ws, staleOf C o.op (St.val C t)⟩]) k
    let skip (t : List V) : Option R := evOpsL C ops os (s + need C o.op o.type) ⟨setDst t o.dst (.tup []), st.h⟩ (lg ++ [⟨[], [], none⟩]) k
    match o.guard with
    | none => go st.t
    | some (g, want) =>
      match (ops[g]?).bind (·.dst) with
      | some d => match st.t.getD d .undef with
        | .one true (.bool b) => match want with
          | true => cond b (go (st.t.set d (vbool true))) (skip (st.t.set d (vbool false)))
          | false => cond b (skip (st.t.set d (vbool true))) (go (st.t.set d (vbool false)))
        | .tup [] => skip st.t
        | _ => none
      | none => none

def deps (o : Oper) : List Nat := (o.after.toList.filter fun e => Region.binds .any e).map (·.on)
/-- For each operation, what comes ahead of it in every order. -/
def trans : List Oper → List (List Nat) → List (List Nat)
  | [], acc => acc
  | o :: os, acc => trans os (acc ++ [deps o ++ (deps o).flatMap fun e => acc.getD e []])
def looks (ops : List Oper) (o : Oper) : List Nat :=
  (o.op.operands.toList.filterMap fun | .tmp t => some t | _ => none) ++
  (match o.guard with
   | some (g, _) => ((ops[g]?).bind (·.dst)).toList
   | none => [])
def disj (a b : List Nat) : Bool := a.all fun x => !b.contains x
/-- Two operations that may come up in either order. -/
def apartOps (ops : List Oper) (lg : List Lg) (i j : Nat) : Bool :=
  match ops[i]?, ops[j]?, lg[i]?, lg[j]? with
  | some a, some b, some la, some lb =>
    disj a.dst.toList (looks ops b) && disj a.dst.toList b.dst.toList && disj b.dst.toList (looks ops a) &&
    disj la.w lb.w && disj la.w lb.r && disj lb.w la.r
  | _, _, _, _ => false
def okDraw (ops : List Oper) (lg : List Lg) : Bool :=
  let tr := trans ops []
  (ops.zipIdx.all fun (o, i) => (deps o).all fun e => decide (e < i)) &&
  (List.range ops.length).all fun j => (List.range j).all fun i => (tr.getD j []).contains i || apartOps ops lg i j

/-- Operation i reads what A makes longer. -/
def stalePair (ops : List Oper) (lg : List Lg) (A i : Nat) : Bool :=
  match ops[i]?, ops[A]?, lg[i]?, lg[A]? with
  | some a, some b, some la, some lb =>
    isRd a.op && (isApp b.op && (la.q.isSome && (decide (la.q = lb.q) && (a.guard.isNone && (decide (i < A) &&
    (disj a.dst.toList (looks ops b) && (disj a.dst.toList b.dst.toList && (disj b.dst.toList (looks ops a) &&
    (la.w.isEmpty && ((la.r.all fun x => decide (la.q = some x)) && lg.zipIdx.all (fun p => (decide (p.2 = A) || p.1.w.all (fun x => !decide (la.q = some x))))))))))))))
  | _, _, _, _ => false
/-- Behind the growing of a row it is still read as it was, but nothing else is done meanwhile. -/
def okStale (ops : List Oper) (lg : List Lg) (A : Nat) : Bool :=
  let tr := trans ops []
  (ops.zipIdx.all fun (o, i) => (deps o).all fun e => decide (e < i)) &&
  ((List.range ops.length).all fun j => (List.range j).all fun i => (tr.getD j []).contains i || (apartOps ops lg i j || (decide (j = A) && stalePair ops lg A i))) &&
  (List.range ops.length).all fun i => (tr.getD A []).contains i || (!stalePair ops lg A i || (List.range ops.length).all fun k => decide (k = A) || ((tr.getD A []).contains k || ((tr.getD k []).contains i || (stalePair ops lg A k || ((ops[k]?).map fun o => isMv o.op).getD false))))

def needs (C : Cfg) : List Oper → Nat
  | [] => 0
  | o :: os => need C o.op o.type + needs C os

def evDraw {R : Type} (C : Cfg) (ops : List Oper) (st : St) (k : St → Option R) : Option R :=
  evOpsL C ops ops st.h.length ⟨st.t, st.h ++ List.replicate (needs C ops) .dead⟩ [] fun st lg => cond (okDraw ops lg || (List.range ops.length).any (okStale ops lg)) (k st) none

/-! ### Code -/
/-- A test's outcome is known from here on. -/
def setB (c : Operand) (b : Bool) (t : List V) : List V :=
  match c with
  | .tmp i => t.set i (vbool b)
  | _ => t
def keepAt (C : Cfg) (id : Nat) (st : St) : St :=
  match C.keep id with
  | some kt => forget C.nb kt st
  | none => st

def kSeq {R : Type} (f : St → (X → St → Option R) → Option R) (k : X → St → Option R) : X → St → Option R
  | .nrm, st => f st k
  | x, st => k x st
def kBlk {R : Type} (id : Nat) (k : X → St → Option R) : X → St → Option R
  | .ext i, st => if i = id then k .nrm st else k (.ext i) st
  | x, st => k x st
/-- The first region's number: by it a loop is named. -/
def firstR : Code → Nat
  | .region id _ _ => id
  | .seq a _ => firstR a
  | .block _ b => firstR b
  | .loop b => firstR b
  | _ => 0

abbrev Kx (R : Type) := X → St → Option R
def kRound {R : Type} (r : St → Option R) (g : St → St) (k : Kx R) : Kx R
  | .nrm, st => r (g st)
  | x, st => k x st
/-- Rounds: g: what is handed on. -/
def loopN {R : Type} (g : St → St) (f : St → Kx R → Option R) (k : Kx R) : Nat → St → Option R
  | 0, _ => none
  | m + 1, st => f st (kRound (loopN g f k m) g k)

/-- lp: how a loop is run. -/
def evK {R : Type} (C : Cfg) (lp : (St → St) → (St → Kx R → Option R) → Kx R → St → Option R) : Code → St → Kx R → Option R
  | .skip, st, k => k .nrm st
  | .region id ops draw, st, k => cond draw (evDraw C ops.toList (keepAt C id st) (k .nrm)) (evOps C ops.toList ops.toList (keepAt C id st) (k .nrm))
  | .seq a b, st, k => evK C lp a st (kSeq (evK C lp b) k)
  | .cond c a b, st, k =>
    match St.val C st.t c with
    | .one _ (.bool t) => cond t (evK C lp a ⟨setB c true st.t, st.h⟩ k) (evK C lp b ⟨setB c false st.t, st.h⟩ k)
    | _ => none
  | .block id b, st, k => evK C lp b st (kBlk id k)
  | .loop b, st, k => lp (keepAt C (firstR b)) (evK C lp b) k (keepAt C (firstR b) st)
  | .exit id, st, k => k (.ext id) st
  | .ret, st, k => k .ret st
  | _, _, _ => none

/-- The usual way to run a loop: n rounds at most. -/
def lpN {R : Type} (n : Nat) (g : St → St) (f : St → Kx R → Option R) (k : Kx R) (st : St) : Option R := loopN g f k n st

/-- A result: a temporary, or what a variable holds at the end. -/
def resHM (C : Cfg) (t : List V) : ResultVar → HM V
  | .tmp i => .ret (t.getD i .undef)
  | .cell a T => if (C.ty T).size = 0 then .fail else loadHM C T (t.getD a .undef)
def resRun {R : Type} (C : Cfg) (t : List V) : List ResultVar → List Ob → (List V → List Ob → Option R) → Option R
  | [], h, k => k [] h
  | r :: rs, h, k => (resHM C t r).run h fun v h => resRun C t rs h fun vs h => k (v :: vs) h
def kFin (C : Cfg) (rk : List RK) (fn : Func) : Kx (List Q)
  | .ext _, _ => none
  | _, st => resRun C st.t fn.results.toList st.h fun vs h => (expt rk vs HM.ret).run h fun qs _ => some qs

def inV : Q → V
  | .one d => .one (scalar d) d
  | .agg cs => .agg (cs.map fun d => V.one (scalar d) d)

def inSt (fn : Func) (args : List Q) : St := ⟨args.map inV ++ List.replicate (fn.ntmps - args.length) .undef, []⟩

def run1 (C : Cfg) (rk : List RK) (n : Nat) (fn : Func) (args : List Q) : Option (List Q) :=
  match fn.body with
  | some c => evK C (lpN n) c (inSt fn args) (kFin C rk fn)
  | none => none

/-- A function that is lent objects: what it returns, and the objects behind it. -/
def tidy (nb : Nat) (vs : List V) (h : List Ob) : List V × List Ob :=
  let kh := reach h 1000 (vs ++ boxCells h nb) (List.range nb)
  (vs.map (V.ren fun id => kh.idxOf? id), kh.map fun id => (h.getD id .dead).ren fun id => kh.idxOf? id)
def kFinB (C : Cfg) (fn : Func) : Kx (List V × List Ob)
  | .ext _, _ => none
  | _, st => resRun C st.t fn.results.toList st.h fun vs h => some (tidy C.nb vs h)
def inStB (fn : Func) (args : List V) (objs : List Ob) : St := ⟨args ++ List.replicate (fn.ntmps - args.length) .undef, objs⟩
def runB (C : Cfg) (n : Nat) (fn : Func) (args : List V) (objs : List Ob) : Option (List V × List Ob) :=
  match fn.body with
  | some c => evK C (lpN n) c (inStB fn args objs) (kFinB C fn)
  | none => none

/-! ### Where a loop stands -/
/-- What stands at a place, and what comes behind it; ms: the rounds that the loops around it still have. -/
def ctx {R : Type} (C : Cfg) (n : Nat) : Code → List Nat → List Nat → Kx R → Code × Kx R
  | .seq a b, 0 :: p, ms, k => ctx C n a p ms (kSeq (evK C (lpN n) b) k)
  | .seq _ b, _ :: p, ms, k => ctx C n b p ms k
  | .cond _ a _, 0 :: p, ms, k => ctx C n a p ms k
  | .cond _ _ b, _ :: p, ms, k => ctx C n b p ms k
  | .block id b, _ :: p, ms, k => ctx C n b p ms (kBlk id k)
  | .loop b, _ :: p, m :: ms, k => ctx C n b p ms (kRound (loopN (keepAt C (firstR b)) (evK C (lpN n) b) k m) (keepAt C (firstR b)) k)
  | c, _, _, k => (c, k)

/-- A loop of a function, from a state at its head on. -/
def loopAt (C : Cfg) (rk : List RK) (n : Nat) (fn : Func) (p ms : List Nat) (m : Nat) (st : St) : Option (List Q) :=
  match fn.body with
  | some c =>
    match ctx C n c p ms (kFin C rk fn) with
    | (.loop b, k) => loopN (keepAt C (firstR b)) (evK C (lpN n) b) k m st
    | _ => none
  | none => none

def loopAtB (C : Cfg) (n : Nat) (fn : Func) (p ms : List Nat) (m : Nat) (st : St) : Option (List V × List Ob) :=
  match fn.body with
  | some c =>
    match ctx C n c p ms (kFinB C fn) with
    | (.loop b, k) => loopN (keepAt C (firstR b)) (evK C (lpN n) b) k m st
    | _ => none
  | none => none

end Go.Proofs.EV
/-! What the evaluator's values say of the machine's. -/
set_option linter.unusedSectionVars false
namespace Go.Proofs.EV
open Go Go.RowKit

/-- Whether it is told that no question is taken back. -/
structure DrT where
  p : Prop
abbrev Dr := Inhabited DrT
def Dr.p [h : Dr] : Prop := h.default.p
variable [Dr]
/-- Below block number B the world w' is as w was; no question is taken back, where that is told. -/
structure Below (B : Nat) (w w' : World) : Prop where
  os : w'.os = w.os
  tape : w'.tape = w.tape
  output : w'.output = w.output
  size : w.heap.size ≤ w'.heap.size
  block : ∀ k, k < B → w'.heap[k]? = w.heap[k]?
  drawn : Dr.p → w.drawn ≤ w'.drawn
theorem Below.kit {B : Nat} {w w' : World} (h : Below B w w') : RowKit.Below B w w' := ⟨h.os, h.tape, h.output, h.size, h.block⟩
theorem Below.refl (B : Nat) (w : World) : Below B w w := ⟨rfl, rfl, rfl, Nat.le_refl _, fun _ _ => rfl, fun _ => Nat.le_refl _⟩
theorem Below.trans {B : Nat} {a b c : World} (h : Below B a b) (k : Below B b c) : Below B a c :=
  ⟨k.os.trans h.os, k.tape.trans h.tape, k.output.trans h.output, Nat.le_trans h.size k.size, fun i hi => (k.block i hi).trans (h.block i hi), fun q => Nat.le_trans (h.drawn q) (k.drawn q)⟩
theorem Below.mono {B B' : Nat} {w w' : World} (h : Below B w w') (hB : B' ≤ B) : Below B' w w' := ⟨h.os, h.tape, h.output, h.size, fun k hk => h.block k (Nat.lt_of_lt_of_le hk hB), h.drawn⟩
theorem Below.drew {B : Nat} {a w : World} (h : Below B a w) : Below B a w.drew := ⟨h.os, h.tape, h.output, h.size, h.block, fun q => Nat.le_succ_of_le (h.drawn q)⟩
theorem Below.heap_alloc (w : World) (o : Obj) (k : Nat) (h : k < w.heap.size) : (w.alloc o).heap[k]? = w.heap[k]? := RowKit.Below.heap_alloc w o k h
theorem Below.heap_setCell (w : World) (a : Addr) (u : Value) (k : Nat) (h : k ≠ a.block) : (w.setCell a u).heap[k]? = w.heap[k]? := RowKit.Below.heap_setCell w a u k h
theorem Below.alloc {B : Nat} {a w : World} (h : Below B a w) (hB : B ≤ w.heap.size) (o : Obj) : Below B a (w.alloc o) :=
  h.trans ⟨rfl, rfl, rfl, by simp, fun k hk => Below.heap_alloc _ _ _ (by omega), fun _ => Nat.le_refl _⟩
theorem Below.setCell {B : Nat} {a w : World} (h : Below B a w) {p : Addr} (hp : B ≤ p.block) (u : Value) : Below B a (w.setCell p u) :=
  h.trans ⟨rfl, rfl, rfl, by simp [World.setCell], fun k hk => Below.heap_setCell _ _ _ _ (by omega), fun _ => Nat.le_refl _⟩
theorem Below.cell {B : Nat} {w w' : World} (h : Below B w w') {p : Addr} (hp : p.block < B) : w'.cell? p = w.cell? p := h.kit.cell hp

/-- Where an own object lies: its block (none: a nil slice), its elements' cells, its capacity, its length. -/
structure Lk where
  b : Option Nat
  sz : Nat
  cap : Nat
  n : Nat

/-- hidO: blocks of which nothing is known: they stay as they are. lin: blocks of the elements of slices of slices of one's own: that one's block, and the place there. -/
structure Lks where
  f : Nat → Option Lk
  hidO : Nat → Prop
  lin : Nat → Option (Nat × Nat)
/-- What is neither one's own nor read. -/
def Lks.hid (L : Lks) (b : Nat) : Prop := L.hidO b ∨ (L.lin b).isSome = true
theorem Lks.hid_lin {L : Lks} {b : Nat} {p : Nat × Nat} (h : L.lin b = some p) : L.hid b := .inr (by rw [h]; rfl)
instance : CoeFun Lks (fun _ => Nat → Option Lk) := ⟨Lks.f⟩

def aggB : Value → Bool
  | .agg _ => true
  | _ => false

/-- Memory that is read: ok: the blocks that may be. -/
inductive CRel (w : World) (ok : Nat → Prop) : D → Value → Prop where
  | int (k n) : CRel w ok (.int k n) (.int k n)
  | bool (b) : CRel w ok (.bool b) (.bool b)
  | str (s) : CRel w ok (.str s) (.string s)
  | nilp : CRel w ok .nilp (.pointer none)
  | nilf : CRel w ok .nilf .nilFunc
  | nili : CRel w ok .nili .nilIface
  | nilm : CRel w ok .nilm (.map none)
  | sl0 (sz a c) : CRel w ok (.sl sz []) (.slice a 0 c)
  | sl (sz : Nat) (es : List (List D)) (b off c : Nat) (cv : Nat → Nat → Value) (hok : ok b) (hc : es.length ≤ c)
      (h1 : ∀ i j, i < es.length → j < sz → w.cell? ⟨b, off + i * sz + j, none⟩ = some (cv i j))
      (h2 : ∀ i j, i < es.length → j < sz → CRel w ok (cellD es i j) (cv i j)) : CRel w ok (.sl sz es) (.slice (some ⟨b, off, none⟩) es.length c)
  | pt (cs : List D) (b off : Nat) (cv : Nat → Value) (hok : ok b)
      (h1 : ∀ j, j < cs.length → w.cell? ⟨b, off + j, none⟩ = some (cv j))
      (h2 : ∀ j, j < cs.length → CRel w ok (cs.getD j .nilp) (cv j)) : CRel w ok (.pt cs) (.pointer (some ⟨b, off, none⟩))
  | fn (f : FuncId) (a b : List D) (va vb : Array Value) (ha : va.size = a.length) (hb : vb.size = b.length)
      (h1 : ∀ j, j < a.length → CRel w ok (a.getD j .nilp) (va.getD j undef))
      (h2 : ∀ j, j < b.length → CRel w ok (b.getD j .nilp) (vb.getD j undef)) : CRel w ok (.fn f a b) (.func (.func f) va vb)
  | ifc (t : TypeId) (d : D) (v : Value) (h : CRel w ok d v) : CRel w ok (.ifc t d) (.iface t v)
  | mp (ds : List (List D × List D)) (r clock : Nat) (es : Array MapEntry) (hok : ok r) (h0 : w.heap[r]? = some (.map es clock)) (hl : es.size = ds.length)
      (hk0 : ∀ i, i < ds.length → (es.getD i default).key.cells.size = (ds.getD i ([], [])).1.length)
      (hk : ∀ i j, i < ds.length → j < (ds.getD i ([], [])).1.length → CRel w ok ((ds.getD i ([], [])).1.getD j .nilp) ((es.getD i default).key.cells.getD j undef))
      (hks : ∀ i, i < ds.length → aggB (es.getD i default).key = decide ((ds.getD i ([], [])).1.length ≠ 1))
      (hvs : ∀ i, i < ds.length → aggB (es.getD i default).val = decide ((ds.getD i ([], [])).2.length ≠ 1))
      (hv0 : ∀ i, i < ds.length → (es.getD i default).val.cells.size = (ds.getD i ([], [])).2.length)
      (hv : ∀ i j, i < ds.length → j < (ds.getD i ([], [])).2.length → CRel w ok ((ds.getD i ([], [])).2.getD j .nilp) ((es.getD i default).val.cells.getD j undef)) : CRel w ok (.mp ds) (.map (some r))

theorem CRel.lift {w w' : World} {ok ok' : Nat → Prop} (h : ∀ b, ok b → ok' b ∧ w'.heap[b]? = w.heap[b]?) {d : D} {v : Value} (hr : CRel w ok d v) : CRel w' ok' d v := by
  have hc : ∀ b o, ok b → w'.cell? ⟨b, o, none⟩ = w.cell? ⟨b, o, none⟩ := fun b o hb => by simp only [World.cell?, (h b hb).2]
  induction hr with
  | int => exact .int _ _
  | bool => exact .bool _
  | str => exact .str _
  | nilp => exact .nilp
  | nilf => exact .nilf
  | nili => exact .nili
  | nilm => exact .nilm
  | sl0 => exact .sl0 _ _ _
  | sl sz es b off c cv hok hc0 h1 _ ih => exact .sl sz es b off c cv (h b hok).1 hc0 (fun i j hi hj => (hc b _ hok).trans (h1 i j hi hj)) (fun i j hi hj => ih i j hi hj)
  | pt cs b off cv hok h1 _ ih => exact .pt cs b off cv (h b hok).1 (fun j hj => (hc b _ hok).trans (h1 j hj)) (fun j hj => ih j hj)
  | fn f a b va vb ha hb _ _ i1 i2 => exact .fn f a b va vb ha hb i1 i2
  | ifc t d v _ ih => exact .ifc t d v ih
  | mp ds r clock es hok h0 hl hk0 _ hks hvs hv0 _ i1 i2 => exact .mp ds r clock es (h r hok).1 ((h r hok).2.trans h0) hl hk0 i1 hks hvs hv0 i2

theorem CRel.mono {w : World} {ok ok' : Nat → Prop} (h : ∀ b, ok b → ok' b) {d : D} {v : Value} (hr : CRel w ok d v) : CRel w ok' d v := hr.lift fun b hb => ⟨h b hb, rfl⟩

theorem CRel.scalar {w w' : World} {ok ok' : Nat → Prop} {d : D} {v : Value} (hr : CRel w ok d v) (hs : scalar d = true) : CRel w' ok' d v := by
  cases hr <;> first | (simp [EV.scalar] at hs; done) | constructor

/-- What may be read of a value that is fresh, or not. -/
def okS (ok : Nat → Prop) (base : Nat) (fr : Bool) (b : Nat) : Prop := ok b ∧ (fr = true → base ≤ b)

/-- A temporary's value. -/
inductive VRel (w : World) (ok : Nat → Prop) (base : Nat) (L : Lks) : V → Value → Prop where
  | one (fr : Bool) (d : D) (v : Value) (h : CRel w (okS ok base fr) d v) : VRel w ok base L (.one fr d) v
  | agg (cs : List V) (arr : Array Value) (hl : arr.size = cs.length) (h : ∀ i, i < cs.length → VRel w ok base L (cs.getD i .undef) (arr.getD i undef)) : VRel w ok base L (.agg cs) (.agg arr)
  | tup (cs : List V) (arr : Array Value) (hl : arr.size = cs.length) (h : ∀ i, i < cs.length → VRel w ok base L (cs.getD i .undef) (arr.getD i undef)) : VRel w ok base L (.tup cs) (.tuple arr)
  | fnv (f : FuncId) (a b : List V) (va vb : Array Value) (ha : va.size = a.length) (hb : vb.size = b.length)
      (h1 : ∀ i, i < a.length → VRel w ok base L (a.getD i .undef) (va.getD i undef))
      (h2 : ∀ i, i < b.length → VRel w ok base L (b.getD i .undef) (vb.getD i undef)) : VRel w ok base L (.fnv f a b) (.func (.func f) va vb)
  | nils (sz : Nat) : VRel w ok base L (.nils sz) (.slice none 0 0)
  | rw (id : Nat) (lk : Lk) (hl : L id = some lk) : VRel w ok base L (.rw id) (.slice (lk.b.map fun b => ⟨b, 0, none⟩) lk.n lk.cap)
  | rs (id off len : Nat) (lk : Lk) (a : Option Addr) (c : Nat) (hl : L id = some lk) (hn : off + len ≤ lk.n) (hc : len ≤ c)
      (ha : 0 < len → ∃ b, lk.b = some b ∧ a = some ⟨b, off * lk.sz, none⟩) (ha0 : off = 0 → a = lk.b.map fun b => ⟨b, 0, none⟩) (hcc : off + c ≤ lk.cap) : VRel w ok base L (.rs id off len) (.slice a len c)
  | rp (id off : Nat) (lk : Lk) (b : Nat) (hl : L id = some lk) (hb : lk.b = some b) : VRel w ok base L (.rp id off) (.pointer (some ⟨b, off, none⟩))
  | re (id i j : Nat) (lk : Lk) (b : Nat) (hl : L id = some lk) (hb : lk.b = some b) (hi : i < lk.n) : VRel w ok base L (.re id i j) (.pointer (some ⟨b, i * lk.sz + j, none⟩))
  | pe (fr : Bool) (sz : Nat) (es : List (List D)) (i j b off : Nat) (cv : Nat → Value) (hok : okS ok base fr b)
      (h1 : ∀ j, j < sz → w.cell? ⟨b, off + j, none⟩ = some (cv j))
      (h2 : ∀ j, j < sz → CRel w (okS ok base fr) (cellD es i j) (cv j)) : VRel w ok base L (.pe fr sz es i j) (.pointer (some ⟨b, off + j, none⟩))
  | rm (id : Nat) (lk : Lk) (b : Nat) (hl : L id = some lk) (hb : lk.b = some b) : VRel w ok base L (.rm id) (.map (some b))
  | rit (id : Nat) (lk : Lk) (b : Nat) (hl : L id = some lk) (hb : lk.b = some b) : VRel w ok base L (.rit id) (.pointer (some ⟨b, 0, none⟩))
  | undef (v : Value) : VRel w ok base L .undef v

def LkLe (L L' : Lks) : Prop := ∀ id lk, L id = some lk → L' id = some lk

theorem okS_lift {w w' : World} {ok ok' : Nat → Prop} (h : ∀ b, ok b → ok' b ∧ w'.heap[b]? = w.heap[b]?) (base : Nat) (fr : Bool) : ∀ b, okS ok base fr b → okS ok' base fr b ∧ w'.heap[b]? = w.heap[b]? :=
  fun b hb => ⟨⟨(h b hb.1).1, hb.2⟩, (h b hb.1).2⟩

theorem VRel.lift {w w' : World} {ok ok' : Nat → Prop} {base : Nat} {L L' : Lks} (h : ∀ b, ok b → ok' b ∧ w'.heap[b]? = w.heap[b]?) (hL : LkLe L L') {x : V} {v : Value} (hr : VRel w ok base L x v) : VRel w' ok' base L' x v := by
  induction hr with
  | one fr d v hd => exact .one fr d v (hd.lift (okS_lift h base fr))
  | agg cs arr hl _ ih => exact .agg cs arr hl ih
  | tup cs arr hl _ ih => exact .tup cs arr hl ih
  | fnv f a b va vb ha hb _ _ i1 i2 => exact .fnv f a b va vb ha hb i1 i2
  | nils sz => exact .nils sz
  | rw id lk hl => exact .rw id lk (hL _ _ hl)
  | rs id off len lk a c hl hn hc ha ha0 hcc => exact .rs id off len lk a c (hL _ _ hl) hn hc ha ha0 hcc
  | rp id off lk b hl hb => exact .rp id off lk b (hL _ _ hl) hb
  | re id i j lk b hl hb hi => exact .re id i j lk b (hL _ _ hl) hb hi
  | pe fr sz es i j b off cv hok h1 h2 =>
    exact .pe fr sz es i j b off cv (okS_lift h base fr b hok).1 (fun j hj => by rw [← h1 j hj]; simp only [World.cell?, (okS_lift h base fr b hok).2]) (fun j hj => (h2 j hj).lift (okS_lift h base fr))
  | rm id lk b hl hb => exact .rm id lk b (hL _ _ hl) hb
  | rit id lk b hl hb => exact .rit id lk b (hL _ _ hl) hb
  | undef v => exact .undef v

/-! ### Own objects -/
def live : Ob → Bool
  | .dead => false
  | _ => true

def obj (H : List Ob) (id : Nat) : Ob := H.getD id .dead

/-- A block that is an own object's. -/
def own (L : Lks) (H : List Ob) (b : Nat) : Prop := ∃ id lk, live (obj H id) = true ∧ L id = some lk ∧ lk.b = some b

structure okW (w : World) (L : Lks) (H : List Ob) (b : Nat) : Prop where
  lt : b < w.heap.size
  no : ¬ own L H b
  nh : ¬ L.hid b

/-- A row's cells. -/
def RowRel (w : World) (ok : Nat → Prop) (b sz : Nat) (es : List (List D)) (cap : Nat) : Prop :=
  ∃ (cs : Array Value) (T : TypeId) (fr : Nat × Nat), w.heap[b]? = some (.cells cs T fr) ∧ cap * sz ≤ cs.size ∧ es.length ≤ cap ∧ (∀ o, o < cs.size → w.frozen? ⟨b, o, none⟩ = false) ∧
    ∀ i j, i < es.length → j < sz → ∃ v, cs[i * sz + j]? = some v ∧ CRel w ok (cellD es i j) v

/-- An element of a slice of slices of one's own. -/
def InRel (w : World) (ok : Nat → Prop) (base : Nat) (L : Lks) (b k sz : Nat) (rows : List (List D)) (v : Value) : Prop :=
  ∃ (bi : Option Nat) (cap : Nat), v = .slice (bi.map fun x => ⟨x, 0, none⟩) rows.length cap ∧ (bi = none → rows = [] ∧ cap = 0) ∧
    ∀ x, bi = some x → base ≤ x ∧ L.lin x = some (b, k) ∧ ¬ L.hidO x ∧ RowRel w ok x sz rows cap

def ObRel (w : World) (ok : Nat → Prop) (base : Nat) (L : Lks) (lk : Lk) : Ob → Prop
  | .row arr sz es => lk.sz = sz ∧ lk.n = es.length ∧ 0 < sz ∧
      match lk.b with
      | none => es = [] ∧ arr = false ∧ lk.cap = 0
      | some b => RowRel w (okS ok base true) b sz es lk.cap
  | .box cs => ∃ (b : Nat) (arr : Array Value) (T : TypeId) (fr : Nat × Nat), lk.b = some b ∧ w.heap[b]? = some (.cells arr T fr) ∧ arr.size = cs.length ∧
      (∀ o, o < arr.size → w.frozen? ⟨b, o, none⟩ = false) ∧ ∀ i, i < cs.length → VRel w ok base L (cs.getD i .undef) (arr.getD i undef)
  | .mp ds => ∃ (r clock : Nat) (es : Array MapEntry), lk.b = some r ∧ w.heap[r]? = some (.map es clock) ∧ es.size = ds.length ∧
      (∀ i, i < ds.length → (es.getD i default).key.cells.size = (ds.getD i ([], [])).1.length) ∧
      (∀ i j, i < ds.length → j < (ds.getD i ([], [])).1.length → CRel w (okS ok base true) ((ds.getD i ([], [])).1.getD j .nilp) ((es.getD i default).key.cells.getD j undef)) ∧
      (∀ i, i < ds.length → aggB (es.getD i default).key = decide ((ds.getD i ([], [])).1.length ≠ 1)) ∧
      (∀ i, i < ds.length → aggB (es.getD i default).val = decide ((ds.getD i ([], [])).2.length ≠ 1)) ∧
      (∀ i, i < ds.length → (es.getD i default).val.cells.size = (ds.getD i ([], [])).2.length) ∧
      (∀ i j, i < ds.length → j < (ds.getD i ([], [])).2.length → CRel w (okS ok base true) ((ds.getD i ([], [])).2.getD j .nilp) ((es.getD i default).val.cells.getD j undef))
  | .iter s pos => ∃ r, lk.b = some r ∧ w.heap[r]? = some (.stringIter s pos)
  | .nest sz hole es => lk.sz = 1 ∧ lk.n = es.length ∧ 0 < sz ∧ (∀ p, hole = some p → p.1 < es.length) ∧
      ∃ (b : Nat) (cs : Array Value) (T : TypeId) (fr : Nat × Nat), lk.b = some b ∧ w.heap[b]? = some (.cells cs T fr) ∧ lk.cap ≤ cs.size ∧ es.length ≤ lk.cap ∧ (∀ o, o < cs.size → w.frozen? ⟨b, o, none⟩ = false) ∧
        ∀ k, k < es.length → ∃ v, cs[k]? = some v ∧ ((∀ p, hole = some p → p.1 ≠ k) → InRel w (okS ok base true) base L b k sz (es.getD k []) v) ∧
          ∀ s1, hole = some (k, some s1) → ∃ lk1, L s1 = some lk1 ∧ v = .slice (lk1.b.map fun x => ⟨x, 0, none⟩) lk1.n lk1.cap
  | .dead => True

structure HRel (w : World) (base : Nat) (L : Lks) (H : List Ob) : Prop where
  ob : ∀ id, live (obj H id) = true → ∃ lk, L id = some lk ∧ ObRel w (okW w L H) base L lk (obj H id)
  rng : ∀ id lk b, live (obj H id) = true → L id = some lk → lk.b = some b → base ≤ b ∧ b < w.heap.size
  inj : ∀ id id' lk lk' b, live (obj H id) = true → live (obj H id') = true → L id = some lk → L id' = some lk' → lk.b = some b → lk'.b = some b → id = id'
  out : ∀ id, H.length ≤ id → L id = none
  nh : ∀ id lk b, live (obj H id) = true → L id = some lk → lk.b = some b → ¬ L.hid b
  hlt : ∀ b, L.hid b → b < w.heap.size

theorem ObRel.lift {w w' : World} {ok ok' : Nat → Prop} {base : Nat} {L L' : Lks} {lk : Lk} {o : Ob} (h : ∀ b, ok b → ok' b ∧ w'.heap[b]? = w.heap[b]?) (hL : LkLe L L')
    (hb : ∀ b, lk.b = some b → w'.heap[b]? = w.heap[b]?) (hn : ∀ b x k, lk.b = some b → L.lin x = some (b, k) → ¬ L.hidO x → L'.lin x = some (b, k) ∧ ¬ L'.hidO x ∧ w'.heap[x]? = w.heap[x]?) (hr : ObRel w ok base L lk o) : ObRel w' ok' base L' lk o := by
  cases o with
  | row arr sz es =>
    obtain ⟨h1, h2, h3, h4⟩ := hr
    refine ⟨h1, h2, h3, ?_⟩
    cases e : lk.b with
    | none => rw [e] at h4; exact h4
    | some b =>
      rw [e] at h4
      obtain ⟨cs, T, fr, g1, g2, g3, g4, g5⟩ := h4
      refine ⟨cs, T, fr, (hb b e).trans g1, g2, g3, fun o ho => ?_, fun i j hi hj => ?_⟩
      · rw [← g4 o ho]; simp only [World.frozen?, hb b e]
      · obtain ⟨v, e1, e2⟩ := g5 i j hi hj
        exact ⟨v, e1, e2.lift (okS_lift h base true)⟩
  | box cs =>
    obtain ⟨b, arr, T, fr, g0, g1, g2, g3, g4⟩ := hr
    exact ⟨b, arr, T, fr, g0, (hb b g0).trans g1, g2, fun o ho => by rw [← g3 o ho]; simp only [World.frozen?, hb b g0], fun i hi => (g4 i hi).lift h hL⟩
  | mp ds =>
    obtain ⟨r, clock, es, g0, g1, g2, g3, g4, g4a, g4b, g5, g6⟩ := hr
    exact ⟨r, clock, es, g0, (hb r g0).trans g1, g2, g3, fun i j hi hj => (g4 i j hi hj).lift (okS_lift h base true), g4a, g4b, g5, fun i j hi hj => (g6 i j hi hj).lift (okS_lift h base true)⟩
  | iter s pos =>
    obtain ⟨r, g0, g1⟩ := hr
    exact ⟨r, g0, (hb r g0).trans g1⟩
  | nest sz hole es =>
    obtain ⟨h1, h2, h3, h4, b, cs, T, fr, g0, g1, g2, g3, g4, g5⟩ := hr
    refine ⟨h1, h2, h3, h4, b, cs, T, fr, g0, (hb b g0).trans g1, g2, g3, fun o ho => by rw [← g4 o ho]; simp only [World.frozen?, hb b g0], fun k hk => ?_⟩
    obtain ⟨v, e1, e2, e3⟩ := g5 k hk
    refine ⟨v, e1, fun hh => ?_, fun s1 hs => ?_⟩
    · obtain ⟨bi, cap, q1, q2, q3⟩ := e2 hh
      refine ⟨bi, cap, q1, q2, fun x hx => ?_⟩
      obtain ⟨r1, r2, r2', r3⟩ := q3 x hx
      obtain ⟨m1, m2, m3⟩ := hn b x k g0 r2 r2'
      refine ⟨r1, m1, m2, ?_⟩
      obtain ⟨cs, T, fr, p1, p2, p3, p4, p5⟩ := r3
      refine ⟨cs, T, fr, m3.trans p1, p2, p3, fun o ho => by rw [← p4 o ho]; simp only [World.frozen?, m3], fun i j hi hj => ?_⟩
      obtain ⟨v, u1, u2⟩ := p5 i j hi hj
      exact ⟨v, u1, u2.lift (okS_lift h base true)⟩
    · obtain ⟨lk1, q1, q2⟩ := e3 s1 hs
      exact ⟨lk1, hL _ _ q1, q2⟩
  | dead => trivial

/-- How a state may go on: what held goes on to hold. s, m: the objects s .. s+m-1 may be new. -/
structure Ext (base : Nat) (s m : Nat) (w : World) (L : Lks) (H : List Ob) (w' : World) (L' : Lks) (H' : List Ob) : Prop where
  le : LkLe L L'
  only : ∀ id, (id < s ∨ s + m ≤ id) → L' id = L id
  len : H'.length = H.length
  ok : ∀ b, okW w L H b → okW w' L' H' b ∧ w'.heap[b]? = w.heap[b]?
  below : Below base w w'
  hl : L'.hidO = L.hidO
  hd : ∀ b, L.hidO b → b < w.heap.size → w'.heap[b]? = w.heap[b]?

theorem Ext.refl (base s m : Nat) (w : World) (L : Lks) (H : List Ob) : Ext base s m w L H w L H := ⟨fun _ _ h => h, fun _ _ => rfl, rfl, fun _ h => ⟨h, rfl⟩, Below.refl _ _, rfl, fun _ _ _ => rfl⟩
theorem Ext.trans {base s m : Nat} {w w1 w2 : World} {L L1 L2 : Lks} {H H1 H2 : List Ob} (h : Ext base s m w L H w1 L1 H1) (k : Ext base s m w1 L1 H1 w2 L2 H2) : Ext base s m w L H w2 L2 H2 :=
  ⟨fun id lk e => k.le id lk (h.le id lk e), fun id hi => (k.only id hi).trans (h.only id hi), k.len.trans h.len, fun b hb => ⟨(k.ok b (h.ok b hb).1).1, ((k.ok b (h.ok b hb).1).2).trans (h.ok b hb).2⟩, h.below.trans k.below, k.hl.trans h.hl,
    fun b hb hlt => (k.hd b (by rw [h.hl]; exact hb) (Nat.lt_of_lt_of_le hlt h.below.size)).trans (h.hd b hb hlt)⟩

/-- What a piece of code leaves: nb: the objects that keep their numbers. -/
structure Fr (nb base : Nat) (w : World) (L : Lks) (H : List Ob) (w' : World) (L' : Lks) (H' : List Ob) : Prop where
  below : Below base w w'
  ok : ∀ b, okW w L H b → okW w' L' H' b ∧ w'.heap[b]? = w.heap[b]?
  ids : ∀ id, id < nb → L' id = L id
  hl : L'.hidO = L.hidO
  hd : ∀ b, L.hidO b → b < w.heap.size → w'.heap[b]? = w.heap[b]?
theorem Fr.refl (nb base : Nat) (w : World) (L : Lks) (H : List Ob) : Fr nb base w L H w L H := ⟨Below.refl _ _, fun _ h => ⟨h, rfl⟩, fun _ _ => rfl, rfl, fun _ _ _ => rfl⟩
theorem Fr.trans {nb base : Nat} {w w1 w2 : World} {L L1 L2 : Lks} {H H1 H2 : List Ob} (h : Fr nb base w L H w1 L1 H1) (k : Fr nb base w1 L1 H1 w2 L2 H2) : Fr nb base w L H w2 L2 H2 :=
  ⟨h.below.trans k.below, fun b hb => ⟨(k.ok b (h.ok b hb).1).1, ((k.ok b (h.ok b hb).1).2).trans (h.ok b hb).2⟩, fun id hi => (k.ids id hi).trans (h.ids id hi), k.hl.trans h.hl,
    fun b hb hlt => (k.hd b (by rw [h.hl]; exact hb) (Nat.lt_of_lt_of_le hlt h.below.size)).trans (h.hd b hb hlt)⟩
theorem Ext.fr {nb base s m : Nat} {w w' : World} {L L' : Lks} {H H' : List Ob} (h : Ext base s m w L H w' L' H') (hn : nb ≤ s) : Fr nb base w L H w' L' H' :=
  ⟨h.below, h.ok, fun id hi => h.only id (.inl (by omega)), h.hl, h.hd⟩

theorem Ext.v {base s m : Nat} {w w' : World} {L L' : Lks} {H H' : List Ob} (h : Ext base s m w L H w' L' H') {x : V} {v : Value} (hr : VRel w (okW w L H) base L x v) : VRel w' (okW w' L' H') base L' x v := hr.lift h.ok h.le

end Go.Proofs.EV
set_option linter.unusedVariables false
set_option linter.unusedSimpArgs false
/-! Each operation of the evaluator does what the machine's does. -/
set_option linter.unusedSectionVars false
namespace Go.Proofs.EV
open Go Go.RowKit
variable [Dr]

def zeroVal : LK → Value
  | .int k => .int k 0
  | .bool => .bool false
  | .str => .string ⟨#[]⟩
  | .sl _ => .slice none 0 0
  | .nl .nilm => .map none
  | .nl .nilf => .nilFunc
  | .nl .nili => .nilIface
  | .nl _ => .pointer none

/-- A row of the table of types is as the program's own. -/
structure TyOk (P : Program) (T : TypeId) (t : TI) : Prop where
  k : match t.k with
    | .int k => P.underlying T = some (.int k)
    | .bool => P.underlying T = some .bool
    | .string => P.underlying T = some .string
    | .slice e => P.underlying T = some (.slice e)
    | .array n e => P.underlying T = some (.array n e)
    | .struct fs => ∃ fields : Array Field, P.underlying T = some (.struct fields) ∧ fields.toList.map (fun f => (f.offset, f.type)) = fs ∧ ∀ f ∈ fields.toList, ∃ i, P.info? f.type = some i ∧ i.size ≠ 0 ∧ f.name ≠ "_"
    | .pointer e => P.underlying T = some (.pointer e)
    | .map k e => P.underlying T = some (.map k e)
    | .func => ∃ a b c, P.underlying T = some (.func a b c)
    | .iface => ∃ ms, P.underlying T = some (.interface ms)
    | .other => True
  arr : ∀ n e, t.k = .array n e → ∃ i, P.info? e = some i ∧ t.size = n * i.size
  e : t.eq = true → P.stoodInHeld T = false ∧ P.eqGuardType P.depth T = false
  one : isAgg t.k = false → t.size = 1
  za : ∀ i z, P.info? T = some i → i.zero = some z → aggB z = isAgg t.k
  i : ∃ i z, P.info? T = some i ∧ i.size = t.size ∧ i.bytes ≤ 8192 ∧ i.zero = some z ∧ z.cells.toList = t.lk.map zeroVal ∧ t.size = t.lk.length ∧ (isAgg t.k = true → ∃ a, z = .agg a) ∧ 0 < t.size

/-- Only types that are known are asked. -/
def CfgOk (P : Program) (C : Cfg) : Prop := ∀ T, ((match (C.ty T).k with | .other => False | _ => True) → TyOk P T (C.ty T)) ∧ ((C.ty T).k = .other → (C.ty T).size = 0)

structure OpOk (P : Program) (base s m : Nat) (w : World) (L : Lks) (H : List Ob) (prog : HM V) (sem : Sem Value) : Prop where
  out : ∀ (R : Type) (c : V → List Ob → Option R) (r : R), prog.run H c = some r →
    ∃ v H' vc w' L', c v H' = some r ∧ sem.run P w = .ok vc w' ∧ Ext base s m w L H w' L' H' ∧ HRel w' base L' H' ∧ VRel w' (okW w' L' H') base L' v vc

section
variable {P : Program} {base s m : Nat} {w : World} {L : Lks} {H : List Ob} {sem : Sem Value}

theorem OpOk.ret (hH : HRel w base L H) {v : V} {vc : Value} (hs : sem.run P w = .ok vc w) (hv : VRel w (okW w L H) base L v vc) : OpOk P base s m w L H (.ret v) sem :=
  ⟨fun _ _ _ h => ⟨v, H, vc, w, L, h, hs, Ext.refl .., hH, hv⟩⟩
/-- A return behind draws. -/
theorem OpOk.fail : OpOk P base s m w L H .fail sem := ⟨fun _ _ _ h => by cases h⟩
theorem OpOk.get {id : Nat} {k : Ob → HM V} (h : OpOk P base s m w L H (k (obj H id)) sem) : OpOk P base s m w L H (.get id k) sem := ⟨fun R c r hr => h.out R c r hr⟩
theorem OpOk.gd {b : Bool} {k : HM V} (h : b = true → OpOk P base s m w L H k sem) : OpOk P base s m w L H (.gd b k) sem := by
  refine ⟨fun R c r hr => ?_⟩
  cases b with
  | false => cases hr
  | true => exact (h rfl).out R c r hr
theorem OpOk.int {o : Option Int} {k : Int → HM V} (h : ∀ n, o = some n → OpOk P base s m w L H (k n) sem) : OpOk P base s m w L H (.int o k) sem := by
  refine ⟨fun R c r hr => ?_⟩
  cases o with
  | none => cases hr
  | some n => exact (h n rfl).out R c r hr
theorem OpOk.bool {o : Option Bool} {k : Bool → HM V} (h : ∀ n, o = some n → OpOk P base s m w L H (k n) sem) : OpOk P base s m w L H (.bool o k) sem := by
  refine ⟨fun R c r hr => ?_⟩
  cases o with
  | none => cases hr
  | some n => exact (h n rfl).out R c r hr
theorem OpOk.str {o : Option ByteArray} {k : ByteArray → HM V} (h : ∀ n, o = some n → OpOk P base s m w L H (k n) sem) : OpOk P base s m w L H (.str o k) sem := by
  refine ⟨fun R c r hr => ?_⟩
  cases o with
  | none => cases hr
  | some n => exact (h n rfl).out R c r hr
theorem OpOk.es {o : Option (List (List D))} {k : List (List D) → HM V} (h : ∀ n, o = some n → OpOk P base s m w L H (k n) sem) : OpOk P base s m w L H (.es o k) sem := by
  refine ⟨fun R c r hr => ?_⟩
  cases o with
  | none => cases hr
  | some n => exact (h n rfl).out R c r hr
theorem OpOk.d {o : Option D} {k : D → HM V} (h : ∀ n, o = some n → OpOk P base s m w L H (k n) sem) : OpOk P base s m w L H (.d o k) sem := by
  refine ⟨fun R c r hr => ?_⟩
  cases o with
  | none => cases hr
  | some n => exact (h n rfl).out R c r hr
theorem OpOk.ds {o : Option (List D)} {k : List D → HM V} (h : ∀ n, o = some n → OpOk P base s m w L H (k n) sem) : OpOk P base s m w L H (.ds o k) sem := by
  refine ⟨fun R c r hr => ?_⟩
  cases o with
  | none => cases hr
  | some n => exact (h n rfl).out R c r hr
theorem OpOk.qs {o : Option (List Q)} {k : List Q → HM V} (h : ∀ n, o = some n → OpOk P base s m w L H (k n) sem) : OpOk P base s m w L H (.qs o k) sem := by
  refine ⟨fun R c r hr => ?_⟩
  cases o with
  | none => cases hr
  | some n => exact (h n rfl).out R c r hr
theorem OpOk.od {o : Option (Option (List D))} {k : Option (List D) → HM V} (h : ∀ n, o = some n → OpOk P base s m w L H (k n) sem) : OpOk P base s m w L H (.od o k) sem := by
  refine ⟨fun R c r hr => ?_⟩
  cases o with
  | none => cases hr
  | some n => exact (h n rfl).out R c r hr
theorem OpOk.mps {o : Option (List (List D × List D))} {k : List (List D × List D) → HM V} (h : ∀ n, o = some n → OpOk P base s m w L H (k n) sem) : OpOk P base s m w L H (.mps o k) sem := by
  refine ⟨fun R c r hr => ?_⟩
  cases o with
  | none => cases hr
  | some n => exact (h n rfl).out R c r hr

theorem OpOk.retO (hH : HRel w base L H) {o : Option V} (h : ∀ v, o = some v → ∃ vc, sem.run P w = .ok vc w ∧ VRel w (okW w L H) base L v vc) : OpOk P base s m w L H (EV.retO o) sem := by
  cases o with
  | none => exact .fail
  | some v =>
    obtain ⟨vc, h1, h2⟩ := h v rfl
    exact .ret hH h1 h2

theorem vint_rel {ok : Nat → Prop} (k : IntKind) (n : Int) : VRel w ok base L (vint k n) (.int k n) := .one _ _ _ (.int k n)
theorem vbool_rel {ok : Nat → Prop} (b : Bool) : VRel w ok base L (vbool b) (.bool b) := .one _ _ _ (.bool b)
theorem vstr_rel {ok : Nat → Prop} (b : ByteArray) : VRel w ok base L (vstr b) (.string b) := .one _ _ _ (.str b)
theorem tup0_rel {ok : Nat → Prop} : VRel w ok base L (.tup []) (.tuple #[]) := .tup _ _ rfl (fun i hi => by simp at hi)

/-! ### What a cell's value looks like -/
theorem CRel.one {ok : Nat → Prop} {d : D} {v : Value} (h : CRel w ok d v) : v.oneCell' = true := by cases h <;> rfl
theorem VRel.okCell {ok : Nat → Prop} {x : V} {v : Value} (h : VRel w ok base L x v) (hx : okCell x = true) : v.oneCell' = true := by
  cases h <;> first | rfl | (simp [EV.okCell] at hx; done) | exact CRel.one (by assumption)
theorem VRel.cells {ok : Nat → Prop} {x : V} {v : Value} (h : VRel w ok base L x v) (hx : 0 < (cellsOf x).length) : v.cells.size = (cellsOf x).length ∧ ∀ i, i < (cellsOf x).length → VRel w ok base L ((cellsOf x).getD i .undef) (v.cells.getD i Go.undef) := by
  by_cases hagg : ∃ cs, x = .agg cs
  · obtain ⟨cs, rfl⟩ := hagg
    cases h with
    | agg _ arr hl h => exact ⟨hl, h⟩
  · have e0 : EV.okCell x = true := by cases x <;> first | rfl | exact absurd ⟨_, rfl⟩ hagg | (simp [cellsOf] at hx; done)
    have e1 : cellsOf x = [x] := by cases x <;> first | rfl | exact absurd ⟨_, rfl⟩ hagg | (simp [cellsOf] at hx; done)
    rw [e1] at hx ⊢
    have h1 := h.okCell e0
    have e2 : v.cells = #[v] := by cases v <;> first | rfl | (simp [Value.oneCell'] at h1)
    rw [e2]
    refine ⟨rfl, fun i hi => ?_⟩
    have : i = 0 := by simp at hi; exact hi
    subst this
    exact h
end

/-! ### The program's tables -/
section
variable {P : Program} {w : World} {C : Cfg}
theorem TyOk.und {T : TypeId} {t : TI} (h : TyOk P T t) : ∀ d, P.underlying T = some d → (underlying T).run P w = .ok d w := fun d hd => run_underlying hd w
theorem TyOk.size {T : TypeId} {t : TI} (h : TyOk P T t) : (sizeOf T).run P w = .ok t.size w := by
  obtain ⟨i, z, h1, h2, _⟩ := h.i
  simp [sizeOf, typeInfo, h1, h2]
theorem TyOk.info {T : TypeId} {t : TI} (h : TyOk P T t) : ∃ i, P.info? T = some i ∧ (typeInfo T).run P w = .ok i w ∧ i.size = t.size ∧ i.bytes ≤ 8192 := by
  obtain ⟨i, z, h1, h2, h3, _⟩ := h.i
  exact ⟨i, h1, by simp [typeInfo, h1], h2, h3⟩
theorem TyOk.zero {T : TypeId} {t : TI} (h : TyOk P T t) : ∃ z, (zeroValue T).run P w = .ok z w ∧ z.cells.toList = t.lk.map zeroVal := by
  obtain ⟨i, z, h1, h2, h3, h4, h5, _⟩ := h.i
  exact ⟨z, by simp [zeroValue, typeInfo, h1, h4], h5⟩
theorem TyOk.len {T : TypeId} {t : TI} (h : TyOk P T t) : t.size = t.lk.length := by
  obtain ⟨i, z, h1, h2, h3, h4, h5, h6, _⟩ := h.i
  exact h6
theorem TyOk.pos {T : TypeId} {t : TI} (h : TyOk P T t) : 0 < t.size := by
  obtain ⟨i, z, h1, h2, h3, h4, h5, h6, h7, h8⟩ := h.i
  exact h8
theorem TyOk.agg {T : TypeId} {t : TI} (h : TyOk P T t) (hk : match t.k with | .other => False | _ => True) : (Go.isAgg T).run P w = .ok (EV.isAgg t.k) w := by
  have hu := h.k
  cases e : t.k <;> rw [e] at hu hk <;> simp only at hu
  case struct fs =>
    obtain ⟨fields, h1, _⟩ := hu
    simp [Go.isAgg, run_underlying h1 w, EV.isAgg]
  case func =>
    obtain ⟨a, b, c, h1⟩ := hu
    simp [Go.isAgg, run_underlying h1 w, EV.isAgg]
  case iface =>
    obtain ⟨ms, h1⟩ := hu
    simp [Go.isAgg, run_underlying h1 w, EV.isAgg]
  case other => exact hk.elim
  all_goals simp [Go.isAgg, run_underlying hu w, EV.isAgg]
end

/-! ### Two operands -/
section
variable {P : Program} {base s m : Nat} {w : World} {L : Lks} {H : List Ob}

theorem VRel.int_inv {ok : Nat → Prop} {fr : Bool} {k : IntKind} {n : Int} {v : Value} (h : VRel w ok base L (.one fr (.int k n)) v) : v = .int k n := by
  cases h with
  | one _ _ _ h => cases h; rfl
theorem VRel.bool_inv {ok : Nat → Prop} {fr : Bool} {n : Bool} {v : Value} (h : VRel w ok base L (.one fr (.bool n)) v) : v = .bool n := by
  cases h with
  | one _ _ _ h => cases h; rfl
theorem VRel.str_inv {ok : Nat → Prop} {fr : Bool} {n : ByteArray} {v : Value} (h : VRel w ok base L (.one fr (.str n)) v) : v = .string n := by
  cases h with
  | one _ _ _ h => cases h; rfl

theorem eqGuard_int {op : BinOp} {T : TypeId} {x y : Operand} {k k' : IntKind} {a b : Int} : (eqGuard op T x y (.int k a) (.int k' b)).run P w = .ok () w := by
  unfold eqGuard; split <;> simp
theorem eqGuard_str {op : BinOp} {T : TypeId} {x y : Operand} {a b : ByteArray} : (eqGuard op T x y (.string a) (.string b)).run P w = .ok () w := by
  unfold eqGuard; split <;> simp
theorem eqGuard_bool {op : BinOp} {T : TypeId} {x y : Operand} {a b : Bool} : (eqGuard op T x y (.bool a) (.bool b)).run P w = .ok () w := by
  unfold eqGuard; split <;> simp

theorem bin_int (hH : HRel w base L H) (C : Cfg) (op : BinOp) (T : TypeId) (fr fr' : Bool) (k k' : IntKind) (a b : Int) (x y : Operand) :
    OpOk P base s m w L H (binHM C op T (.one fr (.int k a)) (.one fr' (.int k' b))) (do eqGuard op T x y (.int k a) (.int k' b); binOp op T (.int k a) (.int k' b)) := by
  have hg : ∀ (f : Unit → Sem Value), (eqGuard op T x y (.int k a) (.int k' b) >>= f).run P w = (f ()).run P w := fun f => by rw [Sem.run_bind, eqGuard_int]; rfl
  have key : ∀ (prog : HM V), OpOk P base s m w L H prog (binOp op T (.int k a) (.int k' b)) → OpOk P base s m w L H prog (do eqGuard op T x y (.int k a) (.int k' b); binOp op T (.int k a) (.int k' b)) := fun prog h => ⟨fun R c r hr => by
    obtain ⟨v, H', vc, w', L', h1, h2, h3⟩ := h.out R c r hr
    exact ⟨v, H', vc, w', L', h1, (hg _).trans h2, h3⟩⟩
  refine key _ ?_
  by_cases hkk : k = k'
  · subst hkk
    cases op <;> simp only [binHM, if_true] <;> first
      | exact .fail
      | exact .ret hH (by simp [binOp, Op.intArith, Op.intBits, Op.intCmp]) (vint_rel _ _)
      | exact .ret hH (by simp [binOp, Op.intArith, Op.intBits, Op.intCmp]) (vbool_rel _)
      | exact .gd fun hb => .ret hH (by simp at hb; simp [binOp, Op.intDiv, Op.shift, hb, Int.not_lt.2]) (vint_rel _ _)
  · cases op <;> simp only [binHM, hkk, if_false] <;> first
      | exact .fail
      | exact .gd fun hb => .ret hH (by simp at hb; simp [binOp, Op.intDiv, Op.shift, hb, Int.not_lt.2]) (vint_rel _ _)
theorem OpOk.guardOf {prog : HM V} {g : Sem Unit} {f : Sem Value} (hg : g.run P w = .ok () w) (h : OpOk P base s m w L H prog f) : OpOk P base s m w L H prog (do g; f) :=
  ⟨fun R c r hr => by
    obtain ⟨v, H', vc, w', L', h1, h2, h3⟩ := h.out R c r hr
    exact ⟨v, H', vc, w', L', h1, by rw [Sem.run_bind, hg]; exact h2, h3⟩⟩

theorem bin_str (hH : HRel w base L H) (C : Cfg) (op : BinOp) (T : TypeId) (fr fr' : Bool) (a b : ByteArray) (x y : Operand) :
    OpOk P base s m w L H (binHM C op T (.one fr (.str a)) (.one fr' (.str b))) (do eqGuard op T x y (.string a) (.string b); binOp op T (.string a) (.string b)) := by
  refine .guardOf eqGuard_str ?_
  cases op <;> simp only [binHM] <;> first
    | exact .fail
    | exact .ret hH (by simp [binOp, Op.stringOp, strEq]) (vbool_rel _)
    | exact .gd fun hb => .ret hH (by
        have hb' : a.size + b.size ≤ 17179869184 := of_decide_eq_true hb
        simp only [binOp, Op.stringOp]
        rw [if_neg (by rw [show IntKind.i64.max = 9223372036854775807 from by decide]; omega)]
        rfl) (vstr_rel _)

theorem bin_bool (hH : HRel w base L H) {C : Cfg} (hC : CfgOk P C) (op : BinOp) (T : TypeId) (fr fr' : Bool) (a b : Bool) (x y : Operand) :
    OpOk P base s m w L H (binHM C op T (.one fr (.bool a)) (.one fr' (.bool b))) (do eqGuard op T x y (.bool a) (.bool b); binOp op T (.bool a) (.bool b)) := by
  refine .guardOf eqGuard_bool ?_
  have hT := (hC T).1
  cases e : (C.ty T).k <;> simp only [binHM, e] <;> try exact .fail
  rw [e] at hT
  have hu := (hT trivial).k
  rw [e] at hu
  have he : (Op.equal T (.bool a) (.bool b)).run P w = .ok (a == b) w := run_equalIn_bool w 9999 T a b hu
  cases op <;> first
    | exact .fail
    | exact .ret hH (show ((do pure (.bool (← Op.equal T (.bool a) (.bool b)))) : Sem Value).run P w = _ by rw [Sem.run_bind, he]; rfl) (vbool_rel _)
    | exact .ret hH (show ((do pure (.bool (!(← Op.equal T (.bool a) (.bool b))))) : Sem Value).run P w = _ by rw [Sem.run_bind, he]; rfl) (vbool_rel _)

/-! ### Parts -/
/-- Cells, one by one. -/
def CsRel (w : World) (ok : Nat → Prop) (base : Nat) (L : Lks) (cs : List V) (arr : Array Value) : Prop :=
  arr.size = cs.length ∧ ∀ i, i < cs.length → VRel w ok base L (cs.getD i .undef) (arr.getD i undef)

theorem getD_of_lt {α : Type} {l : List α} {i : Nat} {d : α} (h : i < l.length) : l.getD i d = l[i] := by simp [List.getD, h]
theorem agetD_of_lt {α : Type} {l : Array α} {i : Nat} {d : α} (h : i < l.size) : l.getD i d = l[i] := by simp [Array.getD, h]

theorem CsRel.sub {ok : Nat → Prop} {cs : List V} {arr : Array Value} (h : CsRel w ok base L cs arr) {o n : Nat} (hn : o + n ≤ cs.length) : CsRel w ok base L ((cs.drop o).take n) (arr.extract o (o + n)) := by
  refine ⟨by simp [h.1]; omega, fun i hi => ?_⟩
  have hi' : i < n := by simp at hi; omega
  have e1 : ((cs.drop o).take n).getD i .undef = cs.getD (o + i) .undef := by
    rw [getD_of_lt hi, getD_of_lt (by omega)]; simp
  have e2 : (arr.extract o (o + n)).getD i undef = arr.getD (o + i) undef := by
    rw [agetD_of_lt (by simp [h.1]; omega), agetD_of_lt (by rw [h.1]; omega)]; simp
  rw [e1, e2]
  exact h.2 _ (by omega)

theorem mkVal_rel {ok : Nat → Prop} {t : TI} {cs : List V} {arr : Array Value} (h : CsRel w ok base L cs arr) (h1 : isAgg t.k = false → cs.length = 1) :
    VRel w ok base L (mkVal t cs) (if isAgg t.k then .agg arr else arr.getD 0 undef) := by
  unfold mkVal
  by_cases e : isAgg t.k = true
  · simp only [e, if_true]; exact .agg cs arr h.1 h.2
  · have e' : isAgg t.k = false := by simpa using e
    simp only [e', Bool.false_eq_true, if_false]
    have hl := h1 e'
    match cs, hl with
    | [c], _ => exact h.2 0 (by simp)

theorem part_ok {T : TypeId} {t : TI} (hT : TyOk P T t) (hk : match t.k with | .other => False | _ => True) {arr : Array Value} {o : Nat} (ho : o + t.size ≤ arr.size) :
    (part T arr o).run P w = .ok (if isAgg t.k then .agg (arr.extract o (o + t.size)) else arr.getD o undef) w := by
  simp only [part, Sem.run_bind, hT.agg hk, Result.andThen_ok]
  cases e : isAgg t.k with
  | true => simp [hT.size]
  | false =>
    have := hT.one e
    have hlt : o < arr.size := by omega
    simp [Array.getD, hlt]
end
end Go.Proofs.EV
set_option linter.unusedVariables false
set_option linter.unusedSimpArgs false
set_option linter.unusedSectionVars false
namespace Go.Proofs.EV
open Go Go.RowKit
variable [Dr]

section
variable {P : Program} {base s m : Nat} {w : World} {L : Lks} {H : List Ob} {C : Cfg}

def valOf (t : TI) (arr : Array Value) : Value := if isAgg t.k then .agg arr else arr.getD 0 undef

theorem CsRel.get1 {ok : Nat → Prop} {x : V} {arr : Array Value} (h : CsRel w ok base L [x] arr) : VRel w ok base L x (arr.getD 0 undef) := h.2 0 (by simp)

theorem eqFields_sound {D : Nat} {xa ya : Array Value} {e : Nat → TypeId → Option Bool}
    (he : ∀ o t b, e o t = some b → ∃ x y, (part t xa o).run P w = .ok x w ∧ (part t ya o).run P w = .ok y w ∧ (Op.equalIn D t x y).run P w = .ok b w) :
    ∀ (fs : List Field) (b : Bool), (∀ f ∈ fs, f.name ≠ "_") → eqFs e (fs.map fun f => (f.offset, f.type)) = some b → (Op.eqFields D xa ya fs).run P w = .ok b w
  | [], b, _, h => by simp only [List.map_nil, eqFs, Option.some.injEq] at h; subst h; rfl
  | [f], b, hn, h => by
    simp only [List.map_cons, List.map_nil, eqFs] at h
    obtain ⟨x, y, h1, h2, h3⟩ := he _ _ _ h
    simp only [Op.eqFields, if_pos (hn f (by simp)), Sem.run_bind, h1, h2, h3, Result.andThen_ok]
    cases b <;> simp
  | f :: g :: fs, b, hn, h => by
    simp only [List.map_cons, eqFs, Option.bind_eq_some_iff, Option.some.injEq] at h
    obtain ⟨b1, h1, b2, h2, h3⟩ := h
    obtain ⟨x, y, k1, k2, k3⟩ := he _ _ _ h1
    have ih := eqFields_sound he (g :: fs) b2 (fun f' hf' => hn f' (by simp only [List.mem_cons] at hf' ⊢; exact Or.inr hf')) (by simpa only [List.map_cons] using h2)
    rw [Op.eqFields]
    simp only [if_pos (hn f (by simp)), Sem.run_bind, k1, k2, k3, Result.andThen_ok]
    subst h3
    cases b1
    · simp
    · simpa using ih

theorem eqAt_sound (hC : CfgOk P C) {ok : Nat → Prop} : ∀ (d : Nat) (T : TypeId) (xs ys : List V) (xa ya : Array Value) (b : Bool) (D : Nat), d ≤ D → eqAt C d T xs ys = some b →
    CsRel w ok base L xs xa → CsRel w ok base L ys ya → (Op.equalIn D T (valOf (C.ty T) xa) (valOf (C.ty T) ya)).run P w = .ok b w
  | 0, T, xs, ys, xa, ya, b, D, _, h, _, _ => by simp [eqAt] at h
  | d + 1, T, xs, ys, xa, ya, b, D, hD, h, hx, hy => by
    obtain ⟨D, rfl⟩ : ∃ D', D = D' + 1 := ⟨D - 1, by omega⟩
    unfold eqAt at h
    split at h
    · rename_i k0 fr k a fr' k' a' hk
      split at h
      · rename_i hkk
        subst hkk
        have hT := ((hC T).1 (by rw [hk]; trivial)).k
        rw [hk] at hT
        have e1 := hx.get1.int_inv
        have e2 := hy.get1.int_inv
        simp only [valOf, hk, isAgg, Bool.false_eq_true, if_false, e1, e2]
        rw [run_equalIn_int w D T k k0 a a' hT]
        simp only [Option.some.injEq] at h
        rw [h]
      · cases h
    · rename_i fr a fr' a' hk
      have hT := ((hC T).1 (by rw [hk]; trivial)).k
      rw [hk] at hT
      have e1 := hx.get1.bool_inv
      have e2 := hy.get1.bool_inv
      simp only [valOf, hk, isAgg, Bool.false_eq_true, if_false, e1, e2]
      rw [run_equalIn_bool' w D T a a' hT]
      simp only [Option.some.injEq] at h
      rw [h]
    · rename_i fr a fr' a' hk
      have hT := ((hC T).1 (by rw [hk]; trivial)).k
      rw [hk] at hT
      have e1 := hx.get1.str_inv
      have e2 := hy.get1.str_inv
      simp only [valOf, hk, isAgg, Bool.false_eq_true, if_false, e1, e2]
      rw [run_equalIn_string w D T a a' hT]
      simp only [Option.some.injEq] at h
      rw [← h]; rfl
    · rename_i fs _ _ hk
      split at h
      · rename_i heq
        have hT := (hC T).1 (by rw [hk]; trivial)
        have hk' := hT.k
        rw [hk] at hk'
        obtain ⟨fields, h1, h2, h3⟩ := hk'
        have hf : P.fieldsOf T = fields := by simp [Program.fieldsOf, h1]
        simp only [valOf, hk, isAgg, if_true]
        rw [run_equalIn_struct w D T xa ya (by rw [hf]; exact h1) (hT.e heq).1, hf]
        refine eqFields_sound (fun o t b' hb' => ?_) fields.toList b (fun f hf' => ?_) (by rw [h2]; exact h)
        · split at hb'
          · rename_i hb
            have hne : (match (C.ty t).k with | .other => False | _ => True) := by
              cases d with
              | zero => simp [eqAt] at hb'
              | succ d => unfold eqAt at hb'; cases e : (C.ty t).k <;> simp_all
            have hT' := (hC t).1 hne
            refine ⟨_, _, part_ok hT' hne (by rw [hx.1]; exact hb.1), part_ok hT' hne (by rw [hy.1]; exact hb.2), ?_⟩
            have ih := eqAt_sound hC d t _ _ _ _ b' D (by omega) hb' (hx.sub hb.1) (hy.sub hb.2)
            have e3 : ∀ (arr : Array Value), o + (C.ty t).size ≤ arr.size → valOf (C.ty t) (arr.extract o (o + (C.ty t).size)) = if isAgg (C.ty t).k then .agg (arr.extract o (o + (C.ty t).size)) else arr.getD o undef := by
              intro arr ha
              unfold valOf
              cases e : isAgg (C.ty t).k with
              | true => rfl
              | false =>
                have h1 := hT'.one e
                have h2 : 0 < (arr.extract o (o + (C.ty t).size)).size := by simp; omega
                have h3 : o < arr.size := by omega
                simp only [Bool.false_eq_true, if_false]
                rw [agetD_of_lt h2, agetD_of_lt h3]
                simp
            rw [e3 _ (by rw [hx.1]; exact hb.1), e3 _ (by rw [hy.1]; exact hb.2)] at ih
            exact ih
          · cases hb'
        · obtain ⟨_, _, _, hn⟩ := h3 f hf'
          exact hn
      · cases h
    · cases h

theorem VRel.agg_inv {ok : Nat → Prop} {cs : List V} {v : Value} (h : VRel w ok base L (.agg cs) v) : ∃ arr, v = .agg arr ∧ CsRel w ok base L cs arr := by
  cases h with
  | agg _ arr hl h => exact ⟨arr, rfl, hl, h⟩

theorem bin_agg (hH : HRel w base L H) (hC : CfgOk P C) (op : BinOp) (T : TypeId) (xs ys : List V) (vx vy : Value) (x y : Operand)
    (hx : VRel w (okW w L H) base L (.agg xs) vx) (hy : VRel w (okW w L H) base L (.agg ys) vy) :
    OpOk P base s m w L H (binHM C op T (.agg xs) (.agg ys)) (do eqGuard op T x y vx vy; binOp op T vx vy) := by
  obtain ⟨xa, rfl, hxa⟩ := hx.agg_inv
  obtain ⟨ya, rfl, hya⟩ := hy.agg_inv
  have main : ∀ (b : Bool) fs, (C.ty T).k = .struct fs → eqAt C 20 T xs ys = some b → (Op.equalIn 10000 T (.agg xa) (.agg ya)).run P w = .ok b w ∧ (eqGuard op T x y (.agg xa) (.agg ya)).run P w = .ok () w := by
    intro b fs hk hb
    have h1 := eqAt_sound hC 20 T xs ys xa ya b 10000 (by omega) hb hxa hya
    simp only [valOf, hk, isAgg, if_true] at h1
    have heq : (C.ty T).eq = true := by
      unfold eqAt at hb
      simp only [hk] at hb
      split at hb <;> first | assumption | cases hb
    exact ⟨h1, run_eqGuard_agg w op T x y xa ya (((hC T).1 (by rw [hk]; trivial)).e heq).2⟩
  cases hk : (C.ty T).k <;> simp only [binHM, hk] <;> try exact .fail
  cases op <;> first
    | exact .fail
    | exact .bool fun b hb => .guardOf (main b _ hk hb).2 (.ret hH (by rw [run_eql_struct, (main b _ hk hb).1]; rfl) (vbool_rel _))
    | exact .bool fun b hb => .guardOf (main b _ hk hb).2 (.ret hH (by rw [run_neq_struct, (main b _ hk hb).1]; rfl) (vbool_rel _))

theorem nil_eq (d : Nat) {T t : TypeId} {v : Value} {ms : Array (String × TypeId)} (hu : P.underlying T = some (.interface ms)) : (Op.equalIn (d + 1) T .nilIface (.iface t v)).run P w = .ok false w := by
  rw [Op.equalIn, Sem.run_bind, run_underlying hu]
  rfl
theorem eq_nil (d : Nat) {T t : TypeId} {v : Value} {ms : Array (String × TypeId)} (hu : P.underlying T = some (.interface ms)) : (Op.equalIn (d + 1) T (.iface t v) .nilIface).run P w = .ok false w := by
  rw [Op.equalIn, Sem.run_bind, run_underlying hu]
  rfl

theorem bin_nil (hH : HRel w base L H) (hC : CfgOk P C) (op : BinOp) (T : TypeId) (fr fr' : Bool) (t : TypeId) (d : D) (vx vy : Value) (x y : Operand)
    (hx : VRel w (okW w L H) base L (.one fr .nili) vx) (hy : VRel w (okW w L H) base L (.one fr' (.ifc t d)) vy) :
    OpOk P base s m w L H (binHM C op T (.one fr .nili) (.one fr' (.ifc t d))) (do eqGuard op T x y vx vy; binOp op T vx vy) ∧
    OpOk P base s m w L H (binHM C op T (.one fr' (.ifc t d)) (.one fr .nili)) (do eqGuard op T x y vy vx; binOp op T vy vx) := by
  cases hx with
  | one _ _ _ hx =>
  cases hy with
  | one _ _ _ hy =>
  cases hx with
  | nili =>
  cases hy with
  | ifc _ _ v hv =>
  have hg1 : (eqGuard op T x y .nilIface (.iface t v)).run P w = .ok () w := by unfold eqGuard; split <;> simp
  have hg2 : (eqGuard op T x y (.iface t v) .nilIface).run P w = .ok () w := by unfold eqGuard; split <;> simp
  have hT := (hC T).1
  constructor
  · refine .guardOf hg1 ?_
    cases e : (C.ty T).k <;> simp only [binHM, e] <;> try exact .fail
    rw [e] at hT
    have hu := (hT trivial).k
    rw [e] at hu
    obtain ⟨ms, hu⟩ := hu
    have he : (Op.equal T .nilIface (.iface t v)).run P w = .ok false w := by
      exact nil_eq 9999 hu
    cases op <;> first
      | exact .fail
      | exact .ret hH (show ((do pure (.bool (← Op.equal T .nilIface (.iface t v)))) : Sem Value).run P w = _ by rw [Sem.run_bind, he]; rfl) (vbool_rel _)
      | exact .ret hH (show ((do pure (.bool (!(← Op.equal T .nilIface (.iface t v))))) : Sem Value).run P w = _ by rw [Sem.run_bind, he]; rfl) (vbool_rel _)
  · refine .guardOf hg2 ?_
    cases e : (C.ty T).k <;> simp only [binHM, e] <;> try exact .fail
    rw [e] at hT
    have hu := (hT trivial).k
    rw [e] at hu
    obtain ⟨ms, hu⟩ := hu
    have he : (Op.equal T (.iface t v) .nilIface).run P w = .ok false w := by
      exact eq_nil 9999 hu
    cases op <;> first
      | exact .fail
      | exact .ret hH (show ((do pure (.bool (← Op.equal T (.iface t v) .nilIface))) : Sem Value).run P w = _ by rw [Sem.run_bind, he]; rfl) (vbool_rel _)
      | exact .ret hH (show ((do pure (.bool (!(← Op.equal T (.iface t v) .nilIface)))) : Sem Value).run P w = _ by rw [Sem.run_bind, he]; rfl) (vbool_rel _)

theorem slice_nil_eq (d : Nat) {T e : TypeId} {a : Addr} {n c : Nat} (hu : P.underlying T = some (.slice e)) : (Op.equalIn (d + 1) T (.slice (some a) n c) (.slice none 0 0)).run P w = .ok false w := by
  simp [Op.equalIn, run_underlying hu]
theorem bin_slnil (hH : HRel w base L H) (hC : CfgOk P C) (op : BinOp) (T : TypeId) (fr : Bool) (sz sz' : Nat) (es : List (List D)) (vx vy : Value) (x y : Operand)
    (hx : VRel w (okW w L H) base L (.one fr (.sl sz es)) vx) (hy : VRel w (okW w L H) base L (.nils sz') vy) :
    OpOk P base s m w L H (binHM C op T (.one fr (.sl sz es)) (.nils sz')) (do eqGuard op T x y vx vy; binOp op T vx vy) := by
  cases hy with
  | nils =>
  cases hx with
  | one _ _ _ hx =>
  cases e : (C.ty T).k <;> simp only [binHM, e] <;> try exact .fail
  rename_i el
  cases op <;> try exact .fail
  all_goals
    refine .gd fun hpos => ?_
    have hpos := of_decide_eq_true hpos
    cases hx with
    | sl0 => exact absurd hpos (by simp)
    | sl _ _ b off c cv hok hc0 h1 h2 =>
    have hT := (hC T).1
    rw [e] at hT
    have hu := (hT trivial).k
    rw [e] at hu
    have he : (Op.equal T (.slice (some ⟨b, off, none⟩) es.length c) (.slice none 0 0)).run P w = .ok false w := slice_nil_eq 9999 hu
    first
    | exact .guardOf (show (eqGuard .eql T x y (.slice (some ⟨b, off, none⟩) es.length c) (.slice none 0 0)).run P w = .ok () w by unfold eqGuard; simp) (.ret hH (show ((do pure (.bool (← Op.equal T (.slice (some ⟨b, off, none⟩) es.length c) (.slice none 0 0)))) : Sem Value).run P w = _ by rw [Sem.run_bind, he]; rfl) (vbool_rel _))
    | exact .guardOf (show (eqGuard .neq T x y (.slice (some ⟨b, off, none⟩) es.length c) (.slice none 0 0)).run P w = .ok () w by unfold eqGuard; simp) (.ret hH (show ((do pure (.bool (!(← Op.equal T (.slice (some ⟨b, off, none⟩) es.length c) (.slice none 0 0))))) : Sem Value).run P w = _ by rw [Sem.run_bind, he]; rfl) (vbool_rel _))

/-- Every binary operation. -/
theorem bin_ok (hH : HRel w base L H) (hC : CfgOk P C) (op : BinOp) (T : TypeId) (a b : V) (vx vy : Value) (x y : Operand)
    (hx : VRel w (okW w L H) base L a vx) (hy : VRel w (okW w L H) base L b vy) :
    OpOk P base s m w L H (binHM C op T a b) (do eqGuard op T x y vx vy; binOp op T vx vy) := by
  by_cases hi : (∃ fr k n, a = .one fr (.int k n)) ∧ ∃ fr k n, b = .one fr (.int k n)
  · obtain ⟨⟨fr, k, n, rfl⟩, fr', k', n', rfl⟩ := hi
    rw [hx.int_inv, hy.int_inv]
    exact bin_int hH C op T fr fr' k k' n n' x y
  by_cases hi2 : (∃ fr n, a = .one fr (.str n)) ∧ ∃ fr n, b = .one fr (.str n)
  · obtain ⟨⟨fr, n, rfl⟩, fr', n', rfl⟩ := hi2
    rw [hx.str_inv, hy.str_inv]
    exact bin_str hH C op T fr fr' n n' x y
  by_cases hi3 : (∃ fr n, a = .one fr (.bool n)) ∧ ∃ fr n, b = .one fr (.bool n)
  · obtain ⟨⟨fr, n, rfl⟩, fr', n', rfl⟩ := hi3
    rw [hx.bool_inv, hy.bool_inv]
    exact bin_bool hH hC op T fr fr' n n' x y
  by_cases hi4 : (∃ cs, a = .agg cs) ∧ ∃ cs, b = .agg cs
  · obtain ⟨⟨cs, rfl⟩, cs', rfl⟩ := hi4
    exact bin_agg hH hC op T cs cs' vx vy x y hx hy
  by_cases hi5 : (∃ fr, a = .one fr .nili) ∧ ∃ fr t d, b = .one fr (.ifc t d)
  · obtain ⟨⟨fr, rfl⟩, fr', t, d, rfl⟩ := hi5
    exact (bin_nil hH hC op T fr fr' t d vx vy x y hx hy).1
  by_cases hi6 : (∃ fr, b = .one fr .nili) ∧ ∃ fr t d, a = .one fr (.ifc t d)
  · obtain ⟨⟨fr, rfl⟩, fr', t, d, rfl⟩ := hi6
    exact (bin_nil hH hC op T fr fr' t d vy vx x y hy hx).2
  by_cases hi7 : (∃ fr sz es, a = .one fr (.sl sz es)) ∧ ∃ sz, b = .nils sz
  · obtain ⟨⟨fr, sz, es, rfl⟩, sz', rfl⟩ := hi7
    exact bin_slnil hH hC op T fr sz sz' es vx vy x y hx hy
  have : binHM C op T a b = .fail := by
    unfold binHM
    split
    · exact absurd ⟨⟨_, _, _, rfl⟩, _, _, _, rfl⟩ hi
    · exact absurd ⟨⟨_, _, rfl⟩, _, _, rfl⟩ hi2
    · exact absurd ⟨⟨_, _, rfl⟩, _, _, rfl⟩ hi3
    · exact absurd ⟨⟨_, rfl⟩, _, _, _, rfl⟩ hi5
    · exact absurd ⟨⟨_, rfl⟩, _, _, _, rfl⟩ hi6
    · exact absurd ⟨⟨_, _, _, rfl⟩, _, rfl⟩ hi7
    · exact absurd ⟨⟨_, rfl⟩, _, rfl⟩ hi4
    · rfl
  rw [this]
  exact .fail

theorem pick_ok (hH : HRel w base L H) (c : Bool) (a b : V) (va vb : Value)
    (ha : VRel w (okW w L H) base L a va) (hb : VRel w (okW w L H) base L b vb) : OpOk P base s m w L H (pickV c a b) (pure (if c then va else vb)) := by
  unfold pickV
  split
  · rename_i fr k a fr' k' b
    split
    · rename_i hk
      subst hk
      rw [ha.int_inv, hb.int_inv]
      exact .ret hH (by cases c <;> rfl) (vint_rel _ _)
    · exact .fail
  · rw [ha.bool_inv, hb.bool_inv]
    exact .ret hH (by cases c <;> rfl) (vbool_rel _)
  · rw [ha.str_inv, hb.str_inv]
    exact .ret hH (by cases c <;> rfl) (vstr_rel _)
  · cases c
    · exact .ret hH rfl hb
    · exact .ret hH rfl ha
end
end Go.Proofs.EV
set_option linter.unusedVariables false
set_option linter.unusedSimpArgs false
set_option linter.unusedSectionVars false
namespace Go.Proofs.EV
open Go Go.RowKit
variable [Dr]

section
variable {P : Program} {base s m : Nat} {w : World} {L : Lks} {H : List Ob} {C : Cfg} {sem : Sem Value}

/-! ### Changes of the own objects -/
theorem obj_set (H : List Ob) (id : Nat) (o : Ob) (j : Nat) : obj (H.set id o) j = if id = j ∧ j < H.length then o else obj H j := by
  unfold obj
  simp only [List.getD_eq_getElem?_getD, List.getElem?_set]
  by_cases h : id = j
  · subst h
    by_cases h2 : id < H.length
    · simp [h2]
    · simp [h2]
  · simp [h]
theorem live_lt {id : Nat} (h : live (obj H id) = true) : id < H.length := by
  rcases Nat.lt_or_ge id H.length with h' | h'
  · exact h'
  · simp [obj, List.getD_eq_getElem?_getD, List.getElem?_eq_none h', live] at h

theorem okW_kill {id b : Nat} (h : okW w L H b) : okW w L (H.set id .dead) b := by
  refine ⟨h.1, fun ⟨j, lk, h1, h2, h3⟩ => h.2 ⟨j, lk, ?_, h2, h3⟩, h.nh⟩
  rw [obj_set] at h1
  split at h1
  · cases h1
  · exact h1

theorem HRel.kill (hH : HRel w base L H) (id : Nat) : HRel w base L (H.set id .dead) ∧ Ext base s m w L H w L (H.set id .dead) := by
  have hl : ∀ j, live (obj (H.set id .dead) j) = true → live (obj H j) = true ∧ obj (H.set id .dead) j = obj H j := by
    intro j h
    rw [obj_set] at h ⊢
    split at h
    · cases h
    · rename_i hn; rw [if_neg hn]; exact ⟨h, rfl⟩
  refine ⟨⟨fun j hj => ?_, fun j lk b hj => hH.rng j lk b (hl j hj).1, fun j j' lk lk' b hj hj' => hH.inj j j' lk lk' b (hl j hj).1 (hl j' hj').1, fun j hj => hH.out j (by simpa using hj), fun j lk b hj => hH.nh j lk b (hl j hj).1, hH.hlt⟩, ⟨fun _ _ h => h, fun _ _ => rfl, by simp, fun b hb => ⟨okW_kill hb, rfl⟩, Below.refl _ _, rfl, fun _ _ _ => rfl⟩⟩
  obtain ⟨lk, h1, h2⟩ := hH.ob j (hl j hj).1
  rw [(hl j hj).2]
  exact ⟨lk, h1, h2.lift (fun b hb => ⟨okW_kill hb, rfl⟩) (fun _ _ h => h) (fun _ _ => rfl) (fun _ _ _ _ h h' => ⟨h, h', rfl⟩)⟩

/-- A killed object's block may be read from then on. -/
theorem okW_killed (hH : HRel w base L H) {id : Nat} {lk : Lk} {b : Nat} (hv : live (obj H id) = true) (hl : L id = some lk) (hb : lk.b = some b) : okS (okW w L (H.set id .dead)) base true b := by
  have hr := hH.rng id lk b hv hl hb
  refine ⟨⟨hr.2, fun ⟨j, lk', h1, h2, h3⟩ => ?_, hH.nh id lk b hv hl hb⟩, fun _ => hr.1⟩
  rw [obj_set] at h1
  split at h1
  · cases h1
  · rename_i hn
    have := hH.inj id j lk lk' b hv h1 hl h2 hb h3
    subst this
    exact hn ⟨rfl, live_lt hv⟩

def upd (L : Lks) (s : Nat) (lk : Lk) : Lks := ⟨fun i => if i = s then some lk else L i, L.hidO, L.lin⟩

/-- An object is made in a block of its own. -/
theorem HRel.new (hH : HRel w base L H) (hs : s < H.length) (hm : 0 < m) (hL : L s = none) (hb : base ≤ w.heap.size) {w' : World} {o : Obj} (hw : w'.heap = w.heap.push o) (hbel : Below base w w')
    {lk : Lk} {ob : Ob} (hlk : lk.b = some w.heap.size) (hlv : live ob = true) (hob : ObRel w' (okW w' (upd L s lk) (H.set s ob)) base (upd L s lk) lk ob) :
    HRel w' base (upd L s lk) (H.set s ob) ∧ Ext base s m w L H w' (upd L s lk) (H.set s ob) := by
  have hdead : live (obj H s) = false := by
    cases e : live (obj H s) with
    | false => rfl
    | true => obtain ⟨lk', h1, _⟩ := hH.ob s e; rw [hL] at h1; cases h1
  have hle : LkLe L (upd L s lk) := by
    intro j lk' hj
    have : j ≠ s := fun e => by rw [e, hL] at hj; cases hj
    simp [upd, this, hj]
  have hold : ∀ b, b < w.heap.size → w'.heap[b]? = w.heap[b]? := by
    intro b hb'
    rw [hw, Array.getElem?_push]
    rw [if_neg (by omega)]
  have hsz : w'.heap.size = w.heap.size + 1 := by rw [hw]; simp
  have hob' : ∀ j, j ≠ s → obj (H.set s ob) j = obj H j := by
    intro j hj
    rw [obj_set, if_neg (by omega)]
  have hobs : obj (H.set s ob) s = ob := by rw [obj_set, if_pos ⟨rfl, hs⟩]
  have hLs : ∀ j, j ≠ s → upd L s lk j = L j := fun j hj => by simp [upd, hj]
  have hLss : upd L s lk s = some lk := by simp [upd]
  have hok : ∀ b, okW w L H b → okW w' (upd L s lk) (H.set s ob) b ∧ w'.heap[b]? = w.heap[b]? := by
    intro b hb'
    refine ⟨⟨by rw [hsz]; have := hb'.1; omega, fun ⟨j, lk', h1, h2, h3⟩ => ?_, hb'.nh⟩, hold b hb'.1⟩
    by_cases hj : j = s
    · subst hj
      rw [hLss] at h2
      cases h2
      rw [hlk] at h3
      cases h3
      exact absurd hb'.1 (by omega)
    · rw [hob' j hj] at h1
      rw [hLs j hj] at h2
      exact hb'.2 ⟨j, lk', h1, h2, h3⟩
  refine ⟨⟨fun j hj => ?_, fun j lk' b hj hl hb' => ?_, fun j j' lk1 lk2 b hj hj' h1 h2 h3 h4 => ?_, fun j hj => ?_, fun j lk' b hj hl hb' => ?_, fun b hb' => by have := hH.hlt b hb'; omega⟩, hle, fun j hj => hLs j (by omega), by simp, hok, hbel, rfl, fun b hb' _ => hold b (hH.hlt b (.inl hb'))⟩
  · by_cases e : j = s
    · subst e
      rw [hobs]
      exact ⟨lk, hLss, hob⟩
    · rw [hob' j e] at hj ⊢
      obtain ⟨lk', h1, h2⟩ := hH.ob j hj
      exact ⟨lk', by rw [hLs j e]; exact h1, h2.lift hok hle (fun b hb' => hold b (hH.rng j lk' b hj h1 hb').2) (fun _ x _ _ h h' => ⟨h, h', hold x (hH.hlt x (Lks.hid_lin h))⟩)⟩
  · by_cases e : j = s
    · subst e
      rw [hLss] at hl
      cases hl
      rw [hlk] at hb'
      cases hb'
      exact ⟨hb, by omega⟩
    · rw [hob' j e] at hj
      rw [hLs j e] at hl
      have := hH.rng j lk' b hj hl hb'
      exact ⟨this.1, by omega⟩
  · by_cases e : j = s
    · by_cases e' : j' = s
      · omega
      · subst e
        rw [hLss] at h1
        cases h1
        rw [hlk] at h3
        cases h3
        rw [hob' j' e'] at hj'
        rw [hLs j' e'] at h2
        have := (hH.rng j' lk2 _ hj' h2 h4).2
        omega
    · by_cases e' : j' = s
      · subst e'
        rw [hLss] at h2
        cases h2
        rw [hlk] at h4
        cases h4
        rw [hob' j e] at hj
        rw [hLs j e] at h1
        have := (hH.rng j lk1 _ hj h1 h3).2
        omega
      · rw [hob' j e] at hj
        rw [hob' j' e'] at hj'
        rw [hLs j e] at h1
        rw [hLs j' e'] at h2
        exact hH.inj j j' lk1 lk2 b hj hj' h1 h2 h3 h4
  · rw [List.length_set] at hj
    have : j ≠ s := by omega
    rw [hLs j this]
    exact hH.out j hj
  · by_cases e : j = s
    · subst e
      rw [hLss] at hl
      cases hl
      rw [hlk] at hb'
      cases hb'
      exact fun h => by have := hH.hlt _ h; omega
    · rw [hob' j e] at hj
      rw [hLs j e] at hl
      exact hH.nh j lk' b hj hl hb'

/-- An object's block is written. -/
theorem HRel.upd (hH : HRel w base L H) {id : Nat} {lk : Lk} {b : Nat} (hl : L id = some lk) (hb : lk.b = some b) (hlv : live (obj H id) = true) {w' : World}
    (hsz : w'.heap.size = w.heap.size) (hw : ∀ b', b' ≠ b → w'.heap[b']? = w.heap[b']?) (hbel : Below base w w')
    {ob : Ob} (hlo : live ob = true) (hob : ObRel w' (okW w' L (H.set id ob)) base L lk ob) :
    HRel w' base L (H.set id ob) ∧ Ext base s m w L H w' L (H.set id ob) := by
  have hid := live_lt hlv
  have hown : ∀ b', own L (H.set id ob) b' ↔ own L H b' := by
    intro b'
    refine ⟨fun ⟨j, lk', h1, h2, h3⟩ => ⟨j, lk', ?_, h2, h3⟩, fun ⟨j, lk', h1, h2, h3⟩ => ⟨j, lk', ?_, h2, h3⟩⟩
    · rw [obj_set] at h1
      split at h1
      · rename_i e; rw [← e.1]; exact hlv
      · exact h1
    · rw [obj_set]
      split
      · exact hlo
      · exact h1
  have hok : ∀ b', okW w L H b' → okW w' L (H.set id ob) b' ∧ w'.heap[b']? = w.heap[b']? := by
    intro b' hb'
    refine ⟨⟨by rw [hsz]; exact hb'.1, fun h => hb'.2 ((hown b').1 h), hb'.nh⟩, hw b' fun e => hb'.2 ⟨id, lk, hlv, hl, by rw [hb, e]⟩⟩
  have hobj : ∀ j, j ≠ id → obj (H.set id ob) j = obj H j := fun j hj => by rw [obj_set, if_neg (by omega)]
  have hlive : ∀ j, live (obj (H.set id ob) j) = true → live (obj H j) = true := fun j h => by
    by_cases e : j = id
    · rw [e]; exact hlv
    · rw [hobj j e] at h; exact h
  refine ⟨⟨fun j hj => ?_, fun j lk' b' hj h1 h2 => ?_, fun j j' lk1 lk2 b' hj hj' => hH.inj j j' lk1 lk2 b' (hlive j hj) (hlive j' hj'), fun j hj => hH.out j (by simpa using hj), fun j lk' b' hj => hH.nh j lk' b' (hlive j hj), fun b' hb' => by rw [hsz]; exact hH.hlt b' hb'⟩, fun _ _ h => h, fun _ _ => rfl, by simp, hok, hbel, rfl, fun b' hb' _ => hw b' fun e => hH.nh id lk b hlv hl hb (e ▸ .inl hb')⟩
  · by_cases e : j = id
    · subst e
      rw [obj_set, if_pos ⟨rfl, hid⟩]
      exact ⟨lk, hl, hob⟩
    · rw [hobj j e] at hj ⊢
      obtain ⟨lk', h1, h2⟩ := hH.ob j hj
      refine ⟨lk', h1, h2.lift hok (fun _ _ h => h) (fun b' hb' => hw b' fun eb => e ?_) (fun _ x _ _ h h' => ⟨h, h', hw x fun eb => hH.nh id lk b hlv hl hb (eb ▸ Lks.hid_lin h)⟩)⟩
      exact hH.inj j id lk' lk b hj hlv h1 hl (by rw [hb', eb]) hb
  · rw [hsz]; exact hH.rng j lk' b' (hlive j hj) h1 h2

theorem OpOk.of {H1 : List Ob} {prog prog1 : HM V} (hx : Ext base s m w L H w L H1) (hp : ∀ (R : Type) (c : V → List Ob → Option R), prog.run H c = prog1.run H1 c) (h : OpOk P base s m w L H1 prog1 sem) : OpOk P base s m w L H prog sem :=
  ⟨fun R c r hr => by
    rw [hp] at hr
    obtain ⟨v, H', vc, w', L', h1, h2, h3, h4⟩ := h.out R c r hr
    exact ⟨v, H', vc, w', L', h1, h2, hx.trans h3, h4⟩⟩

/-! ### Freezing -/
/-- What freezing hands on. -/
structure Frz (base s m : Nat) (w : World) (L : Lks) (H H' : List Ob) : Prop where
  h : HRel w base L H'
  x : Ext base s m w L H w L H'

theorem row_sub {ok : Nat → Prop} {b sz cap off len : Nat} {es : List (List D)} (h : RowRel w ok b sz es cap) (hok : ok b) (hn : off + len ≤ es.length) (c : Nat) (hc : len ≤ c) :
    CRel w ok (.sl sz ((es.drop off).take len)) (.slice (some ⟨b, off * sz, none⟩) len c) := by
  obtain ⟨cs, T, fr, h1, h2, h3, h4, h5⟩ := h
  have hlen : ((es.drop off).take len).length = len := by simp; omega
  have hg : ∀ i j, i < len → cellD ((es.drop off).take len) i j = cellD es (off + i) j := by
    intro i j hi
    unfold cellD
    congr 1
    rw [getD_of_lt (by omega), getD_of_lt (by omega)]
    simp
  have := CRel.sl (w := w) (ok := ok) sz ((es.drop off).take len) b (off * sz) c (fun i j => cs.getD ((off + i) * sz + j) undef) hok (by rw [hlen]; exact hc)
    (fun i j hi hj => by
      obtain ⟨v, e1, _⟩ := h5 (off + i) j (by omega) hj
      simp only [World.cell?, h1]
      simp only [Option.isSome_none, Bool.false_eq_true, if_false, Array.getD_eq_getD_getElem?]
      rw [show off * sz + i * sz + j = (off + i) * sz + j by rw [Nat.add_mul]]
      rw [e1]; rfl)
    (fun i j hi hj => by
      rw [hlen] at hi
      obtain ⟨v, e1, e2⟩ := h5 (off + i) j (by omega) hj
      rw [hg i j hi, Array.getD_eq_getD_getElem?, e1]
      exact e2)
  rw [hlen] at this
  exact this

theorem map_killed (hH : HRel w base L H) {id : Nat} {es : List (List D × List D)} {lk : Lk} {b : Nat} (e : obj H id = .mp es) (hl : L id = some lk) (hb : lk.b = some b) :
    CRel w (okS (okW w L (H.set id .dead)) base true) (.mp es) (.map (some b)) := by
  have hlv : live (obj H id) = true := by rw [e]; rfl
  obtain ⟨lk', h1, h2⟩ := hH.ob id hlv
  rw [hl] at h1; cases h1
  rw [e] at h2
  obtain ⟨r, clock, ms, g0, g1, g2, g3, g4, g4a, g4b, g5, g6⟩ := h2
  rw [hb] at g0; cases g0
  have hm : ∀ b, okS (okW w L H) base true b → okS (okW w L (H.set id .dead)) base true b := fun b hb => ⟨okW_kill hb.1, hb.2⟩
  exact .mp es b clock ms (okW_killed hH hlv hl hb) g1 g2 g3 (fun i j hi hj => (g4 i j hi hj).mono hm) g4a g4b g5 (fun i j hi hj => (g6 i j hi hj).mono hm)

theorem freeze_ok (hH : HRel w base L H) {v : V} {vc : Value} (hv : VRel w (okW w L H) base L v vc) {k : D → HM V}
    (h : ∀ d H', Frz base s m w L H H' → CRel w (okS (okW w L H') base true) d vc → OpOk P base s m w L H' (k d) sem) : OpOk P base s m w L H (freeze v k) sem := by
  have hrefl : Frz base s m w L H H := ⟨hH, Ext.refl ..⟩
  cases hv with
  | one fr d _ hd =>
    simp only [freeze]
    cases e : fr || scalar d with
    | false => exact .fail
    | true =>
      refine h d H hrefl ?_
      rw [Bool.or_eq_true] at e
      rcases e with rfl | e
      · exact hd
      · exact hd.scalar e
  | nils sz => exact h _ H hrefl (.sl0 ..)
  | rw id lk hl =>
    simp only [freeze]
    refine .get ?_
    cases e : obj H id with
    | row arr sz es =>
      have hlv : live (obj H id) = true := by rw [e]; rfl
      obtain ⟨lk', h1, h2⟩ := hH.ob id hlv
      rw [hl] at h1; cases h1
      rw [e] at h2
      obtain ⟨g1, g2, g3, g4⟩ := h2
      have hk := hH.kill (s := s) (m := m) id
      refine .of hk.2 (fun _ _ => rfl) (h _ _ ⟨hk.1, hk.2⟩ ?_)
      cases eb : lk.b with
      | none =>
        rw [eb] at g4
        obtain ⟨g4, _, _⟩ := g4
        subst g4
        rw [g2]
        exact .sl0 ..
      | some b =>
        rw [eb] at g4
        have hok := okW_killed hH hlv hl eb
        have g5 : RowRel w (okS (okW w L (H.set id .dead)) base true) b sz es lk.cap := by
          obtain ⟨cs, T, fr, q1, q2, q3, q4, q5⟩ := g4
          exact ⟨cs, T, fr, q1, q2, q3, q4, fun i j hi hj => by
            obtain ⟨v, e1, e2⟩ := q5 i j hi hj
            exact ⟨v, e1, e2.mono fun b hb => ⟨okW_kill hb.1, hb.2⟩⟩⟩
        have := row_sub g5 hok (off := 0) (len := es.length) (by omega) lk.cap (by obtain ⟨_, _, _, _, _, q, _⟩ := g5; exact q)
        simpa [g2] using this
    | box _ => exact .fail
    | mp _ => exact .fail
    | iter _ _ => exact .fail
    | nest _ _ _ => exact .fail
    | dead => exact .fail
  | rs id off len lk a c hl hn hc ha ha0 hcc =>
    simp only [freeze]
    refine .get ?_
    cases e : obj H id with
    | row arr sz es =>
      have hlv : live (obj H id) = true := by rw [e]; rfl
      obtain ⟨lk', h1, h2⟩ := hH.ob id hlv
      rw [hl] at h1; cases h1
      rw [e] at h2
      obtain ⟨g1, g2, g3, g4⟩ := h2
      have hk := hH.kill (s := s) (m := m) id
      refine .of hk.2 (fun _ _ => rfl) (h _ _ ⟨hk.1, hk.2⟩ ?_)
      rcases Nat.eq_zero_or_pos len with rfl | hpos
      · simp only [List.take_zero]; exact .sl0 ..
      · obtain ⟨b, eb, rfl⟩ := ha hpos
        rw [eb] at g4
        have hok := okW_killed hH hlv hl eb
        have g5 : RowRel w (okS (okW w L (H.set id .dead)) base true) b sz es lk.cap := by
          obtain ⟨cs, T, fr, q1, q2, q3, q4, q5⟩ := g4
          exact ⟨cs, T, fr, q1, q2, q3, q4, fun i j hi hj => by
            obtain ⟨v, e1, e2⟩ := q5 i j hi hj
            exact ⟨v, e1, e2.mono fun b hb => ⟨okW_kill hb.1, hb.2⟩⟩⟩
        rw [g1]
        exact row_sub g5 hok (by omega) c hc
    | box _ => exact .fail
    | mp _ => exact .fail
    | iter _ _ => exact .fail
    | nest _ _ _ => exact .fail
    | dead => exact .fail
  | agg => exact .fail
  | tup => exact .fail
  | fnv => exact .fail
  | rp => exact .fail
  | re => exact .fail
  | pe => exact .fail
  | rm id lk b hl hb =>
    simp only [freeze]
    refine .get ?_
    cases e : obj H id with
    | mp es =>
      have hk := hH.kill (s := s) (m := m) id
      exact .of hk.2 (fun _ _ => rfl) (h _ _ ⟨hk.1, hk.2⟩ (map_killed hH e hl hb))
    | box _ => exact .fail
    | row _ _ _ => exact .fail
    | iter _ _ => exact .fail
    | nest _ _ _ => exact .fail
    | dead => exact .fail
  | rit => exact .fail
  | undef => exact .fail

theorem Frz.trans {H' H'' : List Ob} (h : Frz base s m w L H H') (k : Frz base s m w L H' H'') : Frz base s m w L H H'' := ⟨k.h, h.x.trans k.x⟩
theorem Frz.ok {H' : List Ob} (h : Frz base s m w L H H') : ∀ b, okS (okW w L H) base true b → okS (okW w L H') base true b := fun b hb => ⟨(h.x.ok b hb.1).1, hb.2⟩

/-- Many cells. -/
theorem freezes_ok (vs : List V) : ∀ {H : List Ob} (hH : HRel w base L H) (vcs : List Value) (hl : vs.length = vcs.length) (hv : ∀ i, i < vs.length → VRel w (okW w L H) base L (vs.getD i .undef) (vcs.getD i undef)) {k : List D → HM V}
    (h : ∀ ds H', Frz base s m w L H H' → ds.length = vs.length → (∀ i, i < ds.length → CRel w (okS (okW w L H') base true) (ds.getD i .nilp) (vcs.getD i undef)) → OpOk P base s m w L H' (k ds) sem), OpOk P base s m w L H (mapHM freeze vs k) sem := by
  induction vs with
  | nil => exact fun hH vcs hl hv k h => h [] _ ⟨hH, Ext.refl ..⟩ rfl (fun i hi => by simp at hi)
  | cons v vs ih =>
    intro H hH vcs hl hv k h
    match vcs, hl with
    | vc :: vcs, hl =>
      refine freeze_ok hH (by simpa using hv 0 (by simp)) fun d H' hf hd => ?_
      refine .of (H1 := H') (Ext.refl ..) (fun _ _ => rfl) ?_
      refine ih hf.h vcs (by simpa using hl) (fun i hi => ?_) fun ds H'' hf' hlen hds => ?_
      · have := hv (i + 1) (by simpa using hi)
        simp only [List.getD_cons_succ] at this
        exact hf.x.v this
      · have hf2 := hf.trans hf'
        have := h (d :: ds) H'' hf2 (by simp [hlen]) (fun i hi => by
          cases i with
          | zero => simpa using hd.mono hf'.ok
          | succ i => simpa using hds i (by simpa using hi))
        exact this
end
end Go.Proofs.EV
set_option linter.unusedVariables false
set_option linter.unusedSimpArgs false
set_option linter.unusedSectionVars false
namespace Go.Proofs.EV
open Go Go.RowKit
variable [Dr]

section
variable {P : Program} {base s m : Nat} {w : World} {L : Lks} {H : List Ob} {C : Cfg} {sem : Sem Value}

theorem add_plain (b o n : Nat) : (⟨b, o, none⟩ : Addr).add n = ⟨b, o + n, none⟩ := by unfold Addr.add; split <;> simp_all

/-! ### Leaves -/
theorem leaf_ok {fr : Bool} {l : LK} {o : Option D} {v : Value} (hd0 : ∀ d, o = some d → CRel w (okS (okW w L H) base fr) d v) {k : V → HM V}
    (h : ∀ x, EV.okCell x = true → VRel w (okW w L H) base L x v → OpOk P base s m w L H (k x) sem) : OpOk P base s m w L H (leafO fr l o k) sem := by
  cases l with
  | int q =>
    refine .int fun n hn => ?_
    obtain ⟨d, rfl, h2⟩ := Option.bind_eq_some_iff.1 hn
    have hd := hd0 d rfl
    cases d <;> simp only [D.int?] at h2 <;> try cases h2
    split at h2 <;> cases h2
    rename_i hk
    subst hk
    cases hd
    exact h _ rfl (vint_rel _ _)
  | bool =>
    refine .bool fun n hn => ?_
    obtain ⟨d, rfl, h2⟩ := Option.bind_eq_some_iff.1 hn
    have hd := hd0 d rfl
    cases d <;> simp only [D.bool?] at h2 <;> cases h2
    cases hd
    exact h _ rfl (vbool_rel _)
  | str =>
    refine .str fun n hn => ?_
    obtain ⟨d, rfl, h2⟩ := Option.bind_eq_some_iff.1 hn
    have hd := hd0 d rfl
    cases d <;> simp only [D.str?] at h2 <;> cases h2
    cases hd
    exact h _ rfl (vstr_rel _)
  | sl sz =>
    refine .es fun es hn => ?_
    obtain ⟨d, rfl, h2⟩ := Option.bind_eq_some_iff.1 hn
    have hd := hd0 d rfl
    cases d <;> simp only [D.sl?] at h2 <;> try cases h2
    split at h2
    · rename_i hk
      cases h2
      subst hk
      exact h _ rfl (.one _ _ _ hd)
    · split at h2 <;> cases h2
      refine h _ rfl (.one _ _ _ ?_)
      cases hd with
      | sl0 => exact .sl0 ..
      | sl => exact .sl0 ..
  | nl z =>
    refine .d fun d hn => ?_
    exact h _ rfl (.one _ _ _ (hd0 d hn))

theorem leafs_ok {fr : Bool} {es : List (List D)} {i : Nat} (cv : Nat → Value) : ∀ (ls : List LK) (j : Nat) (hd : ∀ jj, jj < ls.length → CRel w (okS (okW w L H) base fr) (cellD es i (j + jj)) (cv (j + jj))) {k : List V → HM V}
    (h : ∀ xs, xs.length = ls.length → xs.all EV.okCell = true → (∀ jj, jj < xs.length → VRel w (okW w L H) base L (xs.getD jj .undef) (cv (j + jj))) → OpOk P base s m w L H (k xs) sem), OpOk P base s m w L H (leafs fr es i ls j k) sem
  | [], j, hd, k, h => h [] rfl rfl (fun jj hj => by simp at hj)
  | l :: ls, j, hd, k, h => by
    refine leaf_ok (v := cv j) (fun d e => by cases e; exact hd 0 (by simp)) fun x hx0 hx => ?_
    refine leafs_ok cv ls (j + 1) (fun jj hj => by have := hd (jj + 1) (by simpa using hj); rwa [show j + (jj + 1) = j + 1 + jj by omega] at this) fun xs hl h0 hxs => ?_
    refine h (x :: xs) (by simp [hl]) (by simp [hx0, h0]) fun jj hj => ?_
    cases jj with
    | zero => simpa using hx
    | succ jj =>
      have := hxs jj (by simpa using hj)
      rw [show j + 1 + jj = j + (jj + 1) by omega] at this
      simpa using this

/-! ### Reading variables -/
theorem hk_of {t : TK} (h : ∃ x, t = x ∧ x ≠ .other) : (match t with | .other => False | _ => True) := by
  obtain ⟨x, rfl, h⟩ := h
  cases t <;> first | trivial | exact absurd rfl h

def known (t : TK) : Prop := match t with | .other => False | _ => True

theorem run_loadVar {T : TypeId} {t : TI} (hT : TyOk P T t) (hk : known t.k) (b off : Nat) (cv : Nat → Value) (h : ∀ j, j < t.size → w.cell? ⟨b, off + j, none⟩ = some (cv j)) :
    (loadVar T ⟨b, off, none⟩).run P w = .ok (valOf t ((List.range t.size).map cv).toArray) w := by
  simp only [loadVar, Sem.run_bind, hT.agg hk, Result.andThen_ok]
  cases e : isAgg t.k with
  | true =>
    simp only [if_true, Sem.run_bind, hT.size, Result.andThen_ok]
    rw [run_loadCells w _ t.size cv (fun j hj => by rw [add_plain]; exact h j hj)]
    simp [valOf, e]
  | false =>
    have h1 := hT.one e
    have h0 := h 0 (by omega)
    simp only [Bool.false_eq_true, if_false, run_load]
    simp only [Nat.add_zero] at h0
    rw [h0]
    simp [valOf, e, h1]

theorem mkVal_ok {ok : Nat → Prop} {T : TypeId} {t : TI} (hT : TyOk P T t) {xs : List V} {arr : Array Value} (h : CsRel w ok base L xs arr) (hl : xs.length = t.size) : VRel w ok base L (mkVal t xs) (valOf t arr) :=
  mkVal_rel h fun e => hl.trans (hT.one e)

theorem cs_range {ok : Nat → Prop} {xs : List V} {cv : Nat → Value} {n : Nat} (hn : xs.length = n) (h : ∀ j, j < n → VRel w ok base L (xs.getD j .undef) (cv j)) : CsRel w ok base L xs ((List.range n).map cv).toArray := by
  refine ⟨by simp [hn], fun i hi => ?_⟩
  have : (((List.range n).map cv).toArray).getD i undef = cv i := by
    rw [agetD_of_lt (by simp; omega)]
    simp
  rw [this]
  exact h i (by omega)

/-- Cells that are read, as leaves. -/
theorem leafsVal_ok (hH : HRel w base L H) {fr : Bool} {es : List (List D)} {i j : Nat} {T : TypeId} {t : TI} (hT : TyOk P T t) (hk : known t.k) {a : Addr} (b off : Nat) (ha : a = ⟨b, off, none⟩) (cv : Nat → Value)
    (h1 : ∀ jj, jj < t.lk.length → w.cell? ⟨b, off + jj, none⟩ = some (cv (j + jj))) (h2 : ∀ jj, jj < t.lk.length → CRel w (okS (okW w L H) base fr) (cellD es i (j + jj)) (cv (j + jj))) :
    OpOk P base s m w L H (leafs fr es i t.lk j fun cs => .ret (mkVal t cs)) (loadVar T a) := by
  subst ha
  refine leafs_ok cv t.lk j h2 fun xs hl h0 hxs => ?_
  have hsz := hT.len
  exact .ret hH (run_loadVar hT hk b off (fun jj => cv (j + jj)) (fun jj hj => h1 jj (by omega))) (mkVal_ok hT (cs_range (by omega) fun jj hj => hxs jj (by omega)) (by omega))

theorem known_of {t : TK} (h : isAgg t = true) : known t := by cases t <;> first | trivial | (simp [isAgg] at h; done)

/-- Every type that is asked with success is known. -/
theorem sureAddr_run (a : Addr) : (Instr.sureAddr (.pointer (some a))).run P w = .ok a w := rfl

theorem row_cell {ok : Nat → Prop} {b sz cap i j : Nat} {es : List (List D)} (h : RowRel w ok b sz es cap) (hi : i < es.length) (hj : j < sz) :
    ∃ v, w.cell? ⟨b, i * sz + j, none⟩ = some v ∧ CRel w ok (cellD es i j) v := by
  obtain ⟨cs, T, fr, h1, h2, h3, h4, h5⟩ := h
  obtain ⟨v, e1, e2⟩ := h5 i j hi hj
  exact ⟨v, by simp only [World.cell?, h1]; simpa using e1, e2⟩

def cellV (w : World) (b o : Nat) : Value := (w.cell? ⟨b, o, none⟩).getD undef
theorem cellV_of {b o : Nat} {v : Value} (h : w.cell? ⟨b, o, none⟩ = some v) : w.cell? ⟨b, o, none⟩ = some (cellV w b o) ∧ cellV w b o = v := by
  have : cellV w b o = v := by simp [cellV, h]
  exact ⟨by rw [this]; exact h, this⟩

/-- What an own row says. -/
theorem HRel.row (hH : HRel w base L H) {id : Nat} {arr : Bool} {sz : Nat} {es : List (List D)} {lk : Lk} (e : obj H id = .row arr sz es) (hl : L id = some lk) :
    lk.sz = sz ∧ lk.n = es.length ∧ 0 < sz ∧ (match lk.b with | none => es = [] ∧ arr = false ∧ lk.cap = 0 | some b => RowRel w (okS (okW w L H) base true) b sz es lk.cap) := by
  obtain ⟨lk', h1, h2⟩ := hH.ob id (by rw [e]; rfl)
  rw [hl] at h1; cases h1
  rw [e] at h2
  exact h2

theorem HRel.nest (hH : HRel w base L H) {id sz : Nat} {hole : Option (Nat × Option Nat)} {es : List (List (List D))} {lk : Lk} (e : obj H id = .nest sz hole es) (hl : L id = some lk) :
    ObRel w (okW w L H) base L lk (.nest sz hole es) := by
  obtain ⟨lk', h1, h2⟩ := hH.ob id (by rw [e]; rfl)
  rw [hl] at h1; cases h1
  rw [e] at h2
  exact h2
theorem HRel.box (hH : HRel w base L H) {id : Nat} {cs : List V} {lk : Lk} {b : Nat} (e : obj H id = .box cs) (hl : L id = some lk) (hb : lk.b = some b) :
    ∃ (arr : Array Value) (T : TypeId) (fr : Nat × Nat), w.heap[b]? = some (.cells arr T fr) ∧ (∀ o, o < arr.size → w.frozen? ⟨b, o, none⟩ = false) ∧ CsRel w (okW w L H) base L cs arr := by
  obtain ⟨lk', h1, h2⟩ := hH.ob id (by rw [e]; rfl)
  rw [hl] at h1; cases h1
  rw [e] at h2
  obtain ⟨b', arr, T, fr, q0, q1, q2, q3, q4⟩ := h2
  rw [hb] at q0; cases q0
  exact ⟨arr, T, fr, q1, q3, q2, q4⟩

theorem mapLeafs_ok (cv : Nat → Nat → Value) {fr : Bool} {es : List (List D)} (ls : List LK) : ∀ (is : List Nat) (hd : ∀ i, i ∈ is → ∀ jj, jj < ls.length → CRel w (okS (okW w L H) base fr) (cellD es i (0 + jj)) (cv i (0 + jj))) {k : List (List V) → HM V}
    (h : ∀ xss : List (List V), xss.length = is.length → (∀ i, i < is.length → (xss.getD i []).length = ls.length) → (∀ i jj, i < is.length → jj < ls.length → VRel w (okW w L H) base L ((xss.getD i []).getD jj .undef) (cv (is.getD i 0) jj)) → OpOk P base s m w L H (k xss) sem),
    OpOk P base s m w L H (mapHM (fun i (k : List V → HM V) => leafs fr es i ls 0 k) is k) sem
  | [], hd, k, h => h [] rfl (fun i hi => by simp at hi) (fun i jj hi => by simp at hi)
  | i :: is, hd, k, h => by
    refine leafs_ok (cv i) ls 0 (hd i (by simp)) fun xs hl h0 hxs => ?_
    refine mapLeafs_ok cv ls is (fun i' hi' => hd i' (by simp [hi'])) fun xss hls h1 h2 => ?_
    refine h (xs :: xss) (by simp [hls]) (fun i' hi' => ?_) (fun i' jj hi' hj => ?_)
    · cases i' with
      | zero => simpa using hl
      | succ i' => simpa using h1 i' (by simpa using hi')
    · cases i' with
      | zero => have := hxs jj (by omega); simpa using this
      | succ i' => simpa using h2 i' jj (by simpa using hi') hj

theorem flatten_get {sz : Nat} : ∀ (xss : List (List V)) (h : ∀ i, i < xss.length → (xss.getD i []).length = sz) (i j : Nat), i < xss.length → j < sz → xss.flatten.getD (i * sz + j) .undef = (xss.getD i []).getD j .undef
  | xs :: xss, h, 0, j, hi, hj => by
    have h0 := h 0 (by simp)
    simp at h0
    simp only [List.flatten_cons, Nat.zero_mul, Nat.zero_add, List.getD_cons_zero]
    rw [List.getD_eq_getElem?_getD, List.getElem?_append_left (by omega), List.getD_eq_getElem?_getD]
  | xs :: xss, h, i + 1, j, hi, hj => by
    have h0 := h 0 (by simp)
    simp at h0
    have ih := flatten_get xss (fun i hi => by have := h (i + 1) (by simpa using hi); simpa using this) i j (by simpa using hi) hj
    simp only [List.flatten_cons, List.getD_cons_succ]
    rw [← ih, List.getD_eq_getElem?_getD, List.getElem?_append_right (by rw [h0, Nat.add_mul]; omega), List.getD_eq_getElem?_getD]
    congr 2
    rw [h0, Nat.add_mul]; omega
theorem flatten_len {sz : Nat} : ∀ (xss : List (List V)) (h : ∀ i, i < xss.length → (xss.getD i []).length = sz), xss.flatten.length = xss.length * sz
  | [], _ => by simp
  | xs :: xss, h => by
    have h0 := h 0 (by simp)
    simp at h0
    have ih := flatten_len xss (fun i hi => by have := h (i + 1) (by simpa using hi); simpa using this)
    simp [h0, ih, Nat.add_mul]; omega

theorem load_ok (hH : HRel w base L H) (hC : CfgOk P C) {T : TypeId} (hk : known (C.ty T).k) {a : V} {va : Value} (ha : VRel w (okW w L H) base L a va) : OpOk P base s m w L H (loadHM C T a) (Instr.loadAt T va) := by
  have hT := (hC T).1 hk
  have hlen := hT.len
  have hrun : ∀ (ad : Addr), (Instr.loadAt T (.pointer (some ad))).run P w = (loadVar T ad).run P w := fun ad => rfl
  have conv : ∀ {prog : HM V} (ad : Addr), OpOk P base s m w L H prog (loadVar T ad) → OpOk P base s m w L H prog (Instr.loadAt T (.pointer (some ad))) := fun ad h => ⟨fun R c r hr => by rw [hrun]; exact h.out R c r hr⟩
  unfold loadHM
  cases ha with
  | rp id off lk b hl hb =>
    refine .get ?_
    cases e : obj H id with
    | box cs =>
      dsimp only
      split
      · rename_i hle
        obtain ⟨arr, TT, fr, q1, q2, q3⟩ := hH.box e hl hb
        refine conv _ (.ret hH (run_loadVar hT hk b off (fun j => arr.getD (off + j) undef) fun j hj => ?_) (mkVal_ok hT (cs_range (by simp; omega) fun j hj => ?_) (by simp; omega)))
        · simp only [World.cell?, q1]
          have : off + j < arr.size := by rw [q3.1]; omega
          simp [Array.getD, this]
        · have := q3.2 (off + j) (by omega)
          have e2 : ((cs.drop off).take (C.ty T).size).getD j .undef = cs.getD (off + j) .undef := by
            rw [getD_of_lt (by simp; omega), getD_of_lt (by omega)]; simp
          rw [e2]; exact this
      · exact .fail
    | row _ _ _ => exact .fail
    | mp _ => exact .fail
    | iter _ _ => exact .fail
    | nest _ _ _ => exact .fail
    | dead => exact .fail
  | re id i j lk b hl hb hi =>
    refine .get ?_
    have elem : ∀ (arr : Bool) (sz : Nat) (es : List (List D)), obj H id = .row arr sz es →
        OpOk P base s m w L H (.gd (decide (j + (C.ty T).lk.length ≤ sz)) (leafs true es i (C.ty T).lk j fun cs => .ret (mkVal (C.ty T) cs))) (Instr.loadAt T (.pointer (some ⟨b, i * lk.sz + j, none⟩))) := by
      intro arr sz es e
      obtain ⟨g1, g2, g3, g4⟩ := hH.row e hl
      rw [hb] at g4
      refine .gd fun hle => conv _ ?_
      have hle := of_decide_eq_true hle
      refine leafsVal_ok hH hT hk b (i * lk.sz + j) rfl (fun jj => cellV w b (i * sz + jj)) (fun jj hj => ?_) (fun jj hj => ?_)
      · obtain ⟨v, e1, e2⟩ := row_cell g4 (by omega : i < es.length) (by omega : j + jj < sz)
        rw [g1, Nat.add_assoc]
        exact (cellV_of e1).1
      · obtain ⟨v, e1, e2⟩ := row_cell g4 (by omega : i < es.length) (by omega : j + jj < sz)
        rw [(cellV_of e1).2]; exact e2
    cases e : obj H id with
    | row arr sz es =>
      cases arr with
      | false => exact elem _ _ _ e
      | true =>
        dsimp only
        split
        · rename_i n e1 hk1
          split
          · rename_i hsz
            split
            · rename_i hij
              obtain ⟨rfl, rfl⟩ := hij
              refine .gd fun hn => ?_
              have hn := of_decide_eq_true hn
              obtain ⟨g1, g2, g3, g4⟩ := hH.row e hl
              rw [hb] at g4
              obtain ⟨ei, i1, i2⟩ := hT.arr n e1 hk1
              have hke : known (C.ty e1).k := by
                cases h : (C.ty e1).k <;> first | trivial | (have := (hC e1).2 h; omega)
              have hTe := (hC e1).1 hke
              obtain ⟨ei', z', j1, j2, _⟩ := hTe.i
              rw [i1] at j1; cases j1
              have hle := hTe.len
              have hagg : isAgg (C.ty T).k = true := by rw [hk1]; rfl
              have hval : ∀ arr, valOf (C.ty T) arr = .agg arr := fun arr => by simp [valOf, hagg]
              refine mapLeafs_ok (fun i jj => cellV w b (i * sz + jj)) _ _ (fun i hi jj hj => ?_) fun xss hls h1 h2 => ?_
              · simp at hi
                obtain ⟨v, e1, e2⟩ := row_cell g4 (by omega : i < es.length) (by omega : jj < sz)
                rw [Nat.zero_add, (cellV_of e1).2]; exact e2
              · simp at hls h1
                have hfl := flatten_len xss (sz := (C.ty e1).lk.length) (fun i hi => h1 i (by omega))
                have htot : xss.flatten.length = (C.ty T).size := by rw [hfl, hls, i2, j2, hle]
                refine conv _ (.ret hH ((run_loadVar hT hk b (0 * lk.sz + 0) (fun jj => cellV w b jj) fun jj hj => ?_).trans (by rw [hval])) (.agg _ _ ?_ ?_))
                · have hsp : 0 < sz := g3
                  have hq : jj / sz < n := by rw [Nat.div_lt_iff_lt_mul hsp, hsz, ← j2, ← i2]; exact hj
                  obtain ⟨v, e1, e2⟩ := row_cell g4 (by omega : jj / sz < es.length) (Nat.mod_lt jj hsp)
                  have hdm : jj / sz * sz + jj % sz = jj := by rw [Nat.mul_comm]; exact Nat.div_add_mod jj sz
                  rw [hdm] at e1
                  simpa using (cellV_of e1).1
                · simp [htot]
                · intro jj hj
                  rw [htot] at hj
                  have hsp : 0 < sz := g3
                  have hq : jj / sz < n := by rw [Nat.div_lt_iff_lt_mul hsp, hsz, ← j2, ← i2]; exact hj
                  have hm := Nat.mod_lt jj hsp
                  have hdm : jj / sz * sz + jj % sz = jj := by rw [Nat.mul_comm]; exact Nat.div_add_mod jj sz
                  have e3 := flatten_get xss (sz := (C.ty e1).lk.length) (fun i hi => h1 i (by omega)) (jj / sz) (jj % sz) (by omega) (by omega)
                  rw [← hle, ← hsz, hdm] at e3
                  rw [e3]
                  have e4 := h2 (jj / sz) (jj % sz) (by simpa using hq) (by omega)
                  have e5 : (List.range n).getD (jj / sz) 0 = jj / sz := by rw [getD_of_lt (by simpa using hq)]; simp
                  rw [e5, hdm] at e4
                  rw [agetD_of_lt (by simpa using hj)]
                  simpa using e4
            · exact .fail
          · exact elem _ _ _ e
        · exact elem _ _ _ e
    | box _ => exact .fail
    | mp _ => exact .fail
    | iter _ _ => exact .fail
    | nest _ _ _ => exact .fail
    | dead => exact .fail
  | pe fr sz es i j b off cv hok h1 h2 =>
    refine .gd fun hle => conv _ ?_
    have hle := of_decide_eq_true hle
    refine leafsVal_ok hH hT hk b (off + j) rfl cv (fun jj hj => ?_) (fun jj hj => h2 (j + jj) (by omega))
    rw [Nat.add_assoc]
    exact h1 (j + jj) (by omega)
  | one fr d v hd =>
    cases hd with
    | pt cs b off cv hok h1 h2 =>
      refine .gd fun hle => conv _ ?_
      have hle := of_decide_eq_true hle
      refine leafsVal_ok hH hT hk b off rfl cv (fun jj hj => ?_) (fun jj hj => ?_)
      · simpa using h1 jj (by omega)
      · simpa [cellD] using h2 jj (by omega)
    | _ => exact .fail
  | _ => exact .fail
end
end Go.Proofs.EV
set_option linter.unusedVariables false
set_option linter.unusedSimpArgs false
set_option linter.unusedSectionVars false
namespace Go.Proofs.EV
open Go Go.RowKit
variable [Dr]

def setL (arr : Array Value) : Nat → List Value → Array Value
  | _, [] => arr
  | o, v :: r => setL (arr.setIfInBounds o v) (o + 1) r
theorem setL_size : ∀ (vs : List Value) (arr : Array Value) (o : Nat), (setL arr o vs).size = arr.size
  | [], _, _ => rfl
  | v :: r, arr, o => by rw [setL, setL_size r]; simp
theorem setL_out : ∀ (vs : List Value) (arr : Array Value) (o i : Nat), (i < o ∨ o + vs.length ≤ i) → (setL arr o vs)[i]? = arr[i]?
  | [], _, _, _, _ => rfl
  | v :: r, arr, o, i, h => by
    rw [setL, setL_out r _ _ _ (by simp at h; omega), Array.getElem?_setIfInBounds_ne (by simp at h; omega)]
theorem setL_in : ∀ (vs : List Value) (arr : Array Value) (o j : Nat), j < vs.length → o + vs.length ≤ arr.size → (setL arr o vs)[o + j]? = vs[j]?
  | v :: r, arr, o, 0, _, h => by
    rw [setL, setL_out r _ _ _ (by omega)]
    simp only [Nat.add_zero, List.getElem?_cons_zero]
    simp at h
    rw [Array.getElem?_setIfInBounds_self_of_lt (by omega)]
  | v :: r, arr, o, j + 1, hj, h => by
    rw [setL, show o + (j + 1) = o + 1 + j by omega, setL_in r _ (o + 1) j (by simpa using hj) (by simp at h ⊢; omega)]
    simp

theorem setCells_heap : ∀ (vs : List Value) (w : World) (b o : Nat) (arr : Array Value) (T : TypeId) (fr : Nat × Nat), w.heap[b]? = some (.cells arr T fr) → (w.setCells b o vs).heap[b]? = some (.cells (setL arr o vs) T fr)
  | [], _, _, _, _, _, _, h => h
  | v :: r, w, b, o, arr, T, fr, h => by
    rw [World.setCells, setL]
    refine setCells_heap r _ b (o + 1) _ T fr ?_
    simp [World.setCell, Array.getElem?_modify, h]
theorem setCells_other : ∀ (vs : List Value) (w : World) (b o b' : Nat), b' ≠ b → (w.setCells b o vs).heap[b']? = w.heap[b']?
  | [], _, _, _, _, _ => rfl
  | v :: r, w, b, o, b', h => by
    rw [World.setCells, setCells_other r _ b (o + 1) b' h]
    exact Below.heap_setCell _ _ _ _ h
theorem setCells_size : ∀ (vs : List Value) (w : World) (b o : Nat), (w.setCells b o vs).heap.size = w.heap.size
  | [], _, _, _ => rfl
  | v :: r, w, b, o => by
    rw [World.setCells, setCells_size r]
    simp [World.setCell]
theorem setCells_below : ∀ (vs : List Value) (w : World) (B b o : Nat), B ≤ b → Below B w (w.setCells b o vs)
  | [], _, _, _, _, _ => Below.refl ..
  | v :: r, w, B, b, o, h => ((Below.refl B w).setCell (p := ⟨b, o, none⟩) h v).trans (setCells_below r _ B b (o + 1) h)

theorem splice_len {α : Type} (xs : List α) (i : Nat) (ys : List α) (h : i + ys.length ≤ xs.length) : (splice xs i ys).length = xs.length := by
  simp [splice]; omega
theorem splice_get {α : Type} (xs : List α) (i : Nat) (ys : List α) (d : α) (h : i + ys.length ≤ xs.length) (j : Nat) : (splice xs i ys).getD j d = if i ≤ j ∧ j < i + ys.length then ys.getD (j - i) d else xs.getD j d := by
  unfold splice
  simp only [List.getD_eq_getElem?_getD]
  rw [List.append_assoc]
  by_cases h1 : j < i
  · rw [List.getElem?_append_left (by simp; omega), if_neg (by omega)]
    simp [h1]
  · rw [List.getElem?_append_right (by simp; omega)]
    simp only [List.length_take, Nat.min_eq_left (by omega : i ≤ xs.length)]
    by_cases h2 : j < i + ys.length
    · rw [List.getElem?_append_left (by omega), if_pos (by omega)]
    · rw [List.getElem?_append_right (by omega), if_neg (by omega)]
      simp only [List.getElem?_drop]
      congr 2
      omega

section
variable {P : Program} {base s m : Nat} {w : World} {L : Lks} {H : List Ob} {C : Cfg} {sem : Sem Value}

/-- What a new object leaves as it was. -/
theorem newLift (hH : HRel w base L H) (hL : L s = none) {w' : World} {o : Obj} (hw : w'.heap = w.heap.push o) {lk : Lk} (ob : Ob) (hlk : lk.b = some w.heap.size) :
    (∀ b, okW w L H b → okW w' (upd L s lk) (H.set s ob) b ∧ w'.heap[b]? = w.heap[b]?) ∧ LkLe L (upd L s lk) := by
  have hsz : w'.heap.size = w.heap.size + 1 := by rw [hw]; simp
  refine ⟨fun b hb => ⟨⟨by have := hb.1; omega, fun ⟨j, lk', h1, h2, h3⟩ => ?_, hb.nh⟩, by rw [hw, Array.getElem?_push, if_neg (by have := hb.1; omega)]⟩, fun j lk' hj => ?_⟩
  · by_cases hj : j = s
    · subst hj
      simp [upd] at h2
      subst h2
      rw [hlk] at h3
      cases h3
      exact absurd hb.1 (by omega)
    · rw [obj_set, if_neg (by omega)] at h1
      simp [upd, hj] at h2
      exact hb.2 ⟨j, lk', h1, h2, h3⟩
  · have : j ≠ s := fun e => by rw [e, hL] at hj; cases hj
    simp [upd, this, hj]

theorem below_push (hb : base ≤ w.heap.size) {w' : World} {o : Obj} (h1 : w'.os = w.os) (h2 : w'.tape = w.tape) (h3 : w'.output = w.output) (hw : w'.heap = w.heap.push o) (hd : Dr.p → w.drawn ≤ w'.drawn := by first | exact fun _ => Nat.le_refl _ | exact fun _ => Nat.le_succ _) : Below base w w' :=
  ⟨h1, h2, h3, by rw [hw]; simp, fun k hk => by rw [hw, Array.getElem?_push, if_neg (by omega)], hd⟩

theorem updLift (hH : HRel w base L H) {id : Nat} {lk : Lk} {b : Nat} (hl : L id = some lk) (hb : lk.b = some b) (hlv : live (obj H id) = true) {w' : World}
    (hsz : w'.heap.size = w.heap.size) (hw : ∀ b', b' ≠ b → w'.heap[b']? = w.heap[b']?) (ob : Ob) : ∀ b', okW w L H b' → okW w' L (H.set id ob) b' ∧ w'.heap[b']? = w.heap[b']? := by
  intro b' hb'
  refine ⟨⟨by rw [hsz]; exact hb'.1, fun ⟨j, lk', h1, h2, h3⟩ => hb'.2 ⟨j, lk', ?_, h2, h3⟩, hb'.nh⟩, hw b' fun e => hb'.2 ⟨id, lk, hlv, hl, by rw [hb, e]⟩⟩
  rw [obj_set] at h1
  split at h1
  · rename_i e; rw [← e.1]; exact hlv
  · exact h1

/-- A new row. -/
theorem newRow_ok (hH : HRel w base L H) (hs : s < H.length) (hm : 0 < m) (hL : L s = none) (hb : base ≤ w.heap.size) {w' : World} {arr : Array Value} {T : TypeId} (hw : w'.heap = w.heap.push (.cells arr T (0, 0))) (hbel : Below base w w')
    (ar : Bool) {sz cap : Nat} {es : List (List D)} (hsz : 0 < sz) (hc : arr.size = cap * sz) (hn : es.length ≤ cap)
    (hcs : ∀ i j, i < es.length → j < sz → ∃ v, arr[i * sz + j]? = some v ∧ CRel w (okS (okW w L H) base true) (cellD es i j) v) :
    HRel w' base (upd L s ⟨some w.heap.size, sz, cap, es.length⟩) (H.set s (.row ar sz es)) ∧ Ext base s m w L H w' (upd L s ⟨some w.heap.size, sz, cap, es.length⟩) (H.set s (.row ar sz es)) := by
  have hl := newLift hH hL hw (.row ar sz es) (lk := ⟨some w.heap.size, sz, cap, es.length⟩) rfl
  have hg : w'.heap[w.heap.size]? = some (.cells arr T (0, 0)) := by rw [hw]; simp
  refine HRel.new hH hs hm hL hb hw hbel rfl rfl ⟨rfl, rfl, hsz, arr, T, (0, 0), hg, (by rw [hc]; exact Nat.le_refl _), hn, fun o ho => ?_, fun i j hi hj => ?_⟩
  · simp [World.frozen?, hg]
  · obtain ⟨v, e1, e2⟩ := hcs i j hi hj
    exact ⟨v, e1, e2.lift (okS_lift hl.1 base true)⟩
/-- A new box. -/
theorem newBox_ok (hH : HRel w base L H) (hs : s < H.length) (hm : 0 < m) (hL : L s = none) (hb : base ≤ w.heap.size) {w' : World} {arr : Array Value} {T : TypeId} (hw : w'.heap = w.heap.push (.cells arr T (0, 0))) (hbel : Below base w w')
    {cs : List V} (hcs : CsRel w (okW w L H) base L cs arr) :
    HRel w' base (upd L s ⟨some w.heap.size, 0, 0, 0⟩) (H.set s (.box cs)) ∧ Ext base s m w L H w' (upd L s ⟨some w.heap.size, 0, 0, 0⟩) (H.set s (.box cs)) := by
  have hl := newLift hH hL hw (.box cs) (lk := ⟨some w.heap.size, 0, 0, 0⟩) rfl
  have hg : w'.heap[w.heap.size]? = some (.cells arr T (0, 0)) := by rw [hw]; simp
  refine HRel.new hH hs hm hL hb hw hbel rfl rfl ⟨w.heap.size, arr, T, (0, 0), rfl, hg, hcs.1, fun o ho => ?_, fun i hi => ?_⟩
  · simp [World.frozen?, hg]
  · exact (hcs.2 i hi).lift hl.1 hl.2

theorem upd_s {lk : Lk} : upd L s lk s = some lk := by simp [upd]

theorem chunks_len {α : Type} (sz : Nat) : ∀ (n : Nat) (xs : List α), (chunks sz n xs).length = n
  | 0, _ => rfl
  | n + 1, xs => by simp [chunks, chunks_len sz n]
theorem chunks_get (sz : Nat) : ∀ (n : Nat) (xs : List D) (i j : Nat), i < n → j < sz → cellD (chunks sz n xs) i j = xs.getD (i * sz + j) .nilp
  | n + 1, xs, 0, j, _, hj => by
    unfold cellD
    simp [chunks, List.getD_eq_getElem?_getD, List.getElem?_take, hj]
  | n + 1, xs, i + 1, j, hi, hj => by
    have ih := chunks_get sz n (xs.drop sz) i j (by omega) hj
    unfold cellD at ih ⊢
    simp only [chunks, List.getD_cons_succ]
    rw [ih]
    simp only [List.getD_eq_getElem?_getD, List.getElem?_drop]
    congr 2
    rw [Nat.add_mul]; omega

/-- A step into a new world. -/
theorem OpOk.made {H' : List Ob} {w' : World} {L' : Lks} {v : V} {vc : Value} (hs : sem.run P w = .ok vc w') (hH : HRel w' base L' H') (hx : Ext base s m w L H w' L' H') (hv : VRel w' (okW w' L' H') base L' v vc) {prog : HM V}
    (hp : ∀ (R : Type) (c : V → List Ob → Option R), prog.run H c = c v H') : OpOk P base s m w L H prog sem :=
  ⟨fun R c r hr => ⟨v, H', vc, w', L', by rw [hp] at hr; exact hr, hs, hx, hH, hv⟩⟩

theorem newVar_ok (hH : HRel w base L H) (hC : CfgOk P C) {T : TypeId} (hk : known (C.ty T).k) (hs : s < H.length) (hm : 0 < m) (hL : L s = none) (hb : base ≤ w.heap.size)
    {cs : List V} {vc : Value} (hcs : CsRel w (okW w L H) base L cs vc.cells) : OpOk P base s m w L H (newVarHM C T s cs) (do pure (.pointer (some (← newVar T vc)))) := by
  have hT := (hC T).1 hk
  have hrun : ((do pure (.pointer (some (← newVar T vc)))) : Sem Value).run P w = .ok (.pointer (some ⟨w.heap.size, 0, none⟩)) (w.alloc (.cells vc.cells T (0, 0))) := rfl
  have hbel : Below base w (w.alloc (.cells vc.cells T (0, 0))) := (Below.refl base w).alloc hb _
  unfold newVarHM
  split
  · rename_i n e1 hk1
    split
    · rename_i hn
      obtain ⟨hn0, hep, hn⟩ := hn
      refine freezes_ok cs hH vc.cells.toList (by simp [hcs.1]) (fun i hi => ?_) fun ds H' hf hlen hds => ?_
      · have := hcs.2 i hi
        simpa [List.getD_eq_getElem?_getD, Array.getD_eq_getD_getElem?] using this
      · obtain ⟨ei, i1, i2⟩ := hT.arr n e1 hk1
        have hpos := hT.pos
        have key := newRow_ok (s := s) (m := m) hf.h (by rw [hf.x.len]; exact hs) hm hL hb (w' := w.alloc (.cells vc.cells T (0, 0))) (T := T) (arr := vc.cells) rfl hbel true (sz := (C.ty e1).size) (cap := n) (es := chunks (C.ty e1).size n ds) hep (by rw [hcs.1, hn]) (by rw [chunks_len]; omega)
          (fun i j hi hj => by
            rw [chunks_len] at hi
            rw [chunks_get _ _ _ _ _ hi hj]
            have hlt : i * (C.ty e1).size + j < n * (C.ty e1).size := by
              have : (i + 1) * (C.ty e1).size ≤ n * (C.ty e1).size := Nat.mul_le_mul_right _ hi
              rw [Nat.add_mul] at this; omega
            have h1 := hds (i * (C.ty e1).size + j) (by rw [hlen, hn]; exact hlt)
            have hsz : i * (C.ty e1).size + j < vc.cells.size := by rw [hcs.1, hn]; exact hlt
            refine ⟨vc.cells[i * (C.ty e1).size + j], Array.getElem?_eq_getElem hsz, ?_⟩
            have e3 : vc.cells.toList.getD (i * (C.ty e1).size + j) undef = vc.cells[i * (C.ty e1).size + j] := by rw [getD_of_lt (by simpa using hsz)]; simp
            rw [e3] at h1
            exact h1)
        refine .made hrun key.1 key.2 ?_ (fun _ _ => rfl)
        have := VRel.re (w := w.alloc (.cells vc.cells T (0, 0))) (ok := okW (w.alloc (.cells vc.cells T (0, 0))) (upd L s ⟨some w.heap.size, (C.ty e1).size, n, (chunks (C.ty e1).size n ds).length⟩) (H'.set s (.row true (C.ty e1).size (chunks (C.ty e1).size n ds)))) (base := base) s 0 0 ⟨some w.heap.size, (C.ty e1).size, n, (chunks (C.ty e1).size n ds).length⟩ w.heap.size (upd_s (L := L)) rfl (by show 0 < (chunks (C.ty e1).size n ds).length; rw [chunks_len]; exact hn0)
        simpa using this
    · exact .fail
  · split
    · rename_i hn
      have key := newBox_ok (s := s) (m := m) hH hs hm hL hb (w' := w.alloc (.cells vc.cells T (0, 0))) (T := T) (arr := vc.cells) rfl hbel hcs
      exact .made hrun key.1 key.2 (.rp s 0 _ w.heap.size upd_s rfl) (fun _ _ => rfl)
    · exact .fail

theorem oneCells {ok : Nat → Prop} {cs : List V} {arr : Array Value} (h : CsRel w ok base L cs arr) (ho : cs.all EV.okCell = true) : ∀ v ∈ arr.toList, v.oneCell' = true := by
  intro v hv
  obtain ⟨i, hi, rfl⟩ := List.getElem_of_mem hv
  have hi' : i < cs.length := by simpa [h.1] using hi
  have h1 := h.2 i hi'
  have h2 : EV.okCell (cs.getD i .undef) = true := by
    rw [getD_of_lt hi']
    exact List.all_eq_true.1 ho _ (List.getElem_mem hi')
  have := h1.okCell h2
  rw [agetD_of_lt (by simpa using hi)] at this
  simpa using this

theorem run_storeVar {T : TypeId} {t : TI} (hT : TyOk P T t) {vc : Value} {b off : Nat} {arr : Array Value} {TT : TypeId} {fr : Nat × Nat} (hb : w.heap[b]? = some (.cells arr TT fr)) (hfr : ∀ o, o < arr.size → w.frozen? ⟨b, o, none⟩ = false)
    (hsz : vc.cells.size = t.size) (hle : off + t.size ≤ arr.size) (h1 : ∀ v ∈ vc.cells.toList, v.oneCell' = true) :
    (do storeVar T ⟨b, off, none⟩ vc; pure (.tuple #[]) : Sem Value).run P w = .ok (.tuple #[]) (w.setCells b off vc.cells.toList) := by
  have hc : ∀ j, j < vc.cells.toList.length → (w.cell? ⟨b, off + 0 + j, none⟩).isSome = true := by
    intro j hj
    have : off + j < arr.size := by simp at hj; omega
    simp [World.cell?, hb, this]
  have := run_storeCells_cells (P := P) b off vc.cells.toList 0 w hc (fun j hj => hfr _ (by simp at hj; omega)) h1
  simp only [storeVar, Sem.run_bind, hT.size, Result.andThen_ok, hsz, ne_eq, not_true_eq_false, if_false, this, Nat.add_zero]
  simp [this]

theorem setRow_len (sz : Nat) (es : List (List D)) (i j : Nat) (ds : List D) : (setRow sz es i j ds).length = es.length := by simp [setRow]
theorem setRow_get (sz : Nat) (es : List (List D)) (i j : Nat) (ds : List D) (i' j' : Nat) (hi : i' < es.length) (hj : j' < sz) :
    cellD (setRow sz es i j ds) i' j' = if i' = i ∧ j ≤ j' ∧ j' < j + ds.length then ds.getD (j' - j) .nilp else cellD es i' j' := by
  unfold cellD setRow
  by_cases h : i' = i
  · subst h
    simp [List.getD_eq_getElem?_getD, List.getElem?_set, hi, hj, cellD]
  · simp [List.getD_eq_getElem?_getD, List.getElem?_set, h, Ne.symm h]

/-- An own row's cells are written. -/
theorem rowStore_ok (hH : HRel w base L H) {id b : Nat} {arr : Bool} {sz : Nat} {es es' : List (List D)} {lk : Lk} (e : obj H id = .row arr sz es) (hl : L id = some lk) (hb : lk.b = some b)
    {o : Nat} {vs : List Value} (hlen : es'.length = es.length) (ho : o + vs.length ≤ es.length * sz) (h1 : ∀ v ∈ vs, v.oneCell' = true)
    (hes : ∀ i j, i < es.length → j < sz → (∃ q, q < vs.length ∧ i * sz + j = o + q ∧ CRel w (okS (okW w L H) base true) (cellD es' i j) (vs.getD q undef)) ∨ ((i * sz + j < o ∨ o + vs.length ≤ i * sz + j) ∧ cellD es' i j = cellD es i j)) :
    (storeCells ⟨b, o, none⟩ vs 0).run P w = .ok () (w.setCells b o vs) ∧ HRel (w.setCells b o vs) base L (H.set id (.row arr sz es')) ∧ Ext base s m w L H (w.setCells b o vs) L (H.set id (.row arr sz es')) := by
  obtain ⟨g1, g2, g3, g4⟩ := hH.row e hl
  rw [hb] at g4
  obtain ⟨cs, T, fr, q1, q2, q3, q4, q5⟩ := g4
  have hlv : live (obj H id) = true := by rw [e]; rfl
  have hbase := (hH.rng id lk b hlv hl hb).1
  have hcs : o + vs.length ≤ cs.size := by
    have : es.length * sz ≤ lk.cap * sz := Nat.mul_le_mul_right _ q3
    omega
  have hrun := run_storeCells_cells (P := P) b o vs 0 w (fun j hj => by
    have : o + j < cs.size := by omega
    simp [World.cell?, q1, this]) (fun j hj => q4 _ (by omega)) h1
  rw [Nat.add_zero] at hrun
  have hlift := updLift hH hl hb hlv (w' := w.setCells b o vs) (setCells_size ..) (fun b' hb' => setCells_other _ _ _ _ _ hb') (.row arr sz es')
  refine ⟨hrun, HRel.upd (s := s) (m := m) hH hl hb hlv (setCells_size ..) (fun b' hb' => setCells_other _ _ _ _ _ hb') (setCells_below _ _ _ _ _ hbase) rfl ⟨g1, by rw [hlen]; exact g2, g3, ?_⟩⟩
  rw [hb]
  refine ⟨setL cs o vs, T, fr, setCells_heap _ _ _ _ _ _ _ q1, by rw [setL_size]; exact q2, by rw [hlen]; exact q3, fun o' ho' => by rw [World.frozen?_setCells]; exact q4 o' (by rwa [setL_size] at ho'), fun i j hi hj => ?_⟩
  rw [hlen] at hi
  rcases hes i j hi hj with ⟨q, k1, k2, k3⟩ | ⟨k1, k2⟩
  · refine ⟨vs.getD q undef, ?_, k3.lift (okS_lift hlift base true)⟩
    rw [k2, setL_in _ _ _ _ k1 hcs, List.getD_eq_getElem?_getD, List.getElem?_eq_getElem k1]
    rfl
  · obtain ⟨v, e1, e2⟩ := q5 i j hi hj
    exact ⟨v, by rw [setL_out _ _ _ _ k1]; exact e1, by rw [k2]; exact e2.lift (okS_lift hlift base true)⟩

theorem store_ok (hH : HRel w base L H) (hC : CfgOk P C) {T : TypeId} (hk : known (C.ty T).k) {a x : V} {va vc : Value} (ha : VRel w (okW w L H) base L a va) (hx : VRel w (okW w L H) base L x vc) :
    OpOk P base s m w L H (storeHM C T a x) (do Instr.storeAt T va vc; pure (.tuple #[])) := by
  have hT := (hC T).1 hk
  unfold storeHM
  cases ha with
  | rp id off lk b hl hb =>
    refine .get ?_
    cases e : obj H id with
    | box cs =>
      dsimp only
      split
      · rename_i hle
        obtain ⟨h1, h2, h3⟩ := hle
        obtain ⟨arr, TT, fr, q1, q2, q3⟩ := hH.box e hl hb
        have hxc := hx.cells (by have := hT.pos; omega)
        have hlv : live (obj H id) = true := by rw [e]; rfl
        have hrun := run_storeVar (P := P) (w := w) hT (vc := vc) (off := off) q1 q2 (by rw [hxc.1, h1]) (by rw [q3.1]; exact h2) (oneCells hxc h3)
        have hbase := (hH.rng id lk b hlv hl hb).1
        have key := HRel.upd (s := s) (m := m) hH hl hb hlv (w' := w.setCells b off vc.cells.toList) (setCells_size ..) (fun b' hb' => setCells_other _ _ _ _ _ hb') (setCells_below _ _ _ _ _ hbase) (ob := .box (splice cs off (cellsOf x))) rfl
          ⟨b, setL arr off vc.cells.toList, TT, fr, hb, setCells_heap _ _ _ _ _ _ _ q1, by rw [setL_size, splice_len _ _ _ (by omega), q3.1], fun o ho => by rw [World.frozen?_setCells]; exact q2 o (by rwa [setL_size] at ho), fun i hi => ?_⟩
        · exact .made hrun key.1 key.2 tup0_rel (fun _ _ => rfl)
        · have hlift := updLift hH hl hb hlv (w' := w.setCells b off vc.cells.toList) (setCells_size ..) (fun b' hb' => setCells_other _ _ _ _ _ hb') (.box (splice cs off (cellsOf x)))
          have hlen : (splice cs off (cellsOf x)).length = cs.length := splice_len _ _ _ (by omega)
          have hvl : vc.cells.toList.length = (cellsOf x).length := by simp [hxc.1]
          rw [splice_get _ _ _ _ (by omega)]
          rw [Array.getD_eq_getD_getElem?]
          by_cases hin : off ≤ i ∧ i < off + (cellsOf x).length
          · rw [if_pos hin]
            have e2 := setL_in vc.cells.toList arr off (i - off) (by omega) (by rw [hvl]; have := q3.1; omega)
            rw [show off + (i - off) = i by omega] at e2
            rw [e2]
            have := hxc.2 (i - off) (by omega)
            simpa [Array.getD_eq_getD_getElem?] using this.lift hlift (fun _ _ h => h)
          · rw [if_neg hin, setL_out _ _ _ _ (by omega)]
            have := q3.2 i (by omega)
            simpa [Array.getD_eq_getD_getElem?] using this.lift hlift (fun _ _ h => h)
      · exact .fail
    | row _ _ _ => exact .fail
    | mp _ => exact .fail
    | iter _ _ => exact .fail
    | nest _ _ _ => exact .fail
    | dead => exact .fail
  | re id i j lk b hl hb hi =>
    by_cases hc0 : 0 < (cellsOf x).length
    · have hxc := hx.cells hc0
      refine freezes_ok (cellsOf x) hH vc.cells.toList (by simp [hxc.1]) (fun q hq => ?_) fun ds H' hf hlen hds => ?_
      · have := hxc.2 q hq
        simpa [List.getD_eq_getElem?_getD, Array.getD_eq_getD_getElem?] using this
      · have hvl : vc.cells.toList.length = ds.length := by simp [hxc.1, hlen]
        have hone : ∀ v ∈ vc.cells.toList, v.oneCell' = true := by
          intro v hv
          obtain ⟨q, hq, rfl⟩ := List.getElem_of_mem hv
          have := (hds q (by omega)).one
          rwa [getD_of_lt hq] at this
        refine .get ?_
        have elem : ∀ (arr : Bool) (sz : Nat) (es : List (List D)), obj H' id = .row arr sz es →
            OpOk P base s m w L H' (if ds.length = (C.ty T).size then .gd (decide (j + (C.ty T).size ≤ sz)) (.put id (.row arr sz (setRow sz es i j ds)) (.ret (.tup []))) else .fail) (do Instr.storeAt T (.pointer (some ⟨b, i * lk.sz + j, none⟩)) vc; pure (.tuple #[])) := by
          intro arr sz es e
          split
          · rename_i hle1
            refine .gd fun hle2 => ?_
            have hle : ds.length = (C.ty T).size ∧ j + (C.ty T).size ≤ sz := ⟨hle1, of_decide_eq_true hle2⟩
            obtain ⟨g1, g2, g3, g4⟩ := hf.h.row e hl
            have hin : (i + 1) * sz ≤ es.length * sz := Nat.mul_le_mul_right _ (by omega)
            rw [Nat.add_mul] at hin
            have key := rowStore_ok (P := P) (s := s) (m := m) hf.h e hl hb (es' := setRow sz es i j ds) (o := i * lk.sz + j) (vs := vc.cells.toList) (setRow_len ..) (by rw [g1]; omega) hone (fun i' j' hi' hj' => ?_)
            · refine .made ?_ key.2.1 key.2.2 tup0_rel (fun _ _ => rfl)
              have hsz : vc.cells.size = (C.ty T).size := by rw [← hle.1, ← hvl]; simp
              simp only [Instr.storeAt, storeVar, Instr.sureAddr, Sem.run_bind, hT.size, Result.andThen_ok, hsz, ne_eq, not_true_eq_false, if_false, key.1, Sem.run_pure]
            · rw [setRow_get _ _ _ _ _ _ _ hi' hj', g1]
              by_cases hh : i' = i ∧ j ≤ j' ∧ j' < j + ds.length
              · obtain ⟨rfl, h2, h3⟩ := hh
                left
                refine ⟨j' - j, by omega, by omega, ?_⟩
                rw [if_pos ⟨rfl, h2, h3⟩]
                exact hds (j' - j) (by omega)
              · right
                rw [if_neg hh]
                refine ⟨?_, rfl⟩
                by_cases hii : i' = i
                · subst hii; omega
                · rcases Nat.lt_or_gt_of_ne hii with h | h
                  · have : (i' + 1) * sz ≤ i * sz := Nat.mul_le_mul_right _ h
                    rw [Nat.add_mul] at this; omega
                  · have : (i + 1) * sz ≤ i' * sz := Nat.mul_le_mul_right _ h
                    rw [Nat.add_mul] at this; omega
          · exact .fail
        cases e : obj H' id with
        | row arr sz es =>
          dsimp only
          split
          · rename_i n e1 hk1
            split
            · rename_i hsz
              split
              · rename_i hle
                obtain ⟨h1, rfl, rfl⟩ := hle
                refine .gd fun hn => ?_
                have hn := of_decide_eq_true hn
                obtain ⟨g1, g2, g3, g4⟩ := hf.h.row e hl
                obtain ⟨ei, i1, i2⟩ := hT.arr n e1 hk1
                have hke : known (C.ty e1).k := by
                  cases h : (C.ty e1).k <;> first | trivial | (have := (hC e1).2 h; omega)
                obtain ⟨ei', z', j1, j2, _⟩ := ((hC e1).1 hke).i
                rw [i1] at j1; cases j1
                have hTs : (C.ty T).size = n * sz := by rw [i2, j2, hsz]
                have key := rowStore_ok (P := P) (s := s) (m := m) hf.h e hl hb (es' := chunks sz n ds) (o := 0 * lk.sz + 0) (vs := vc.cells.toList) (by rw [chunks_len, hn]) (by rw [hvl, h1, hn]; omega) hone (fun i' j' hi' hj' => ?_)
                · refine .made ?_ key.2.1 key.2.2 tup0_rel (fun _ _ => rfl)
                  have hszc : vc.cells.size = (C.ty T).size := by rw [hTs, ← h1, ← hvl]; simp
                  simp only [Instr.storeAt, storeVar, Instr.sureAddr, Sem.run_bind, hT.size, Result.andThen_ok, hszc, ne_eq, not_true_eq_false, if_false, key.1, Sem.run_pure]
                · left
                  have hlt : i' * sz + j' < n * sz := by
                    have : (i' + 1) * sz ≤ n * sz := Nat.mul_le_mul_right _ (by omega)
                    rw [Nat.add_mul] at this; omega
                  refine ⟨i' * sz + j', by omega, by omega, ?_⟩
                  rw [chunks_get _ _ _ _ _ (by omega) hj']
                  exact hds _ (by omega)
              · exact .fail
            · exact elem _ _ _ e
          · exact elem _ _ _ e
        | box _ => exact .fail
        | mp _ => exact .fail
        | iter _ _ => exact .fail
        | nest _ _ _ => exact .fail
        | dead => exact .fail
    · have e0 : cellsOf x = [] := List.length_eq_zero_iff.1 (by omega)
      have hp := hT.pos
      rw [e0]
      refine .get ?_
      cases e : obj H id with
      | row arr sz es =>
        obtain ⟨g1, g2, g3, g4⟩ := hH.row e hl
        dsimp only
        split
        · rename_i n e1 hk1
          split
          · rename_i hsz
            split
            · rename_i hle
              obtain ⟨h1, _, _⟩ := hle
              refine .gd fun hn => ?_
              have hn := of_decide_eq_true hn
              have h2 : n * sz = 0 := h1.symm
              rcases Nat.mul_eq_zero.1 h2 with h3 | h3 <;> omega
            · exact .fail
          · rw [if_neg (by simp; omega)]; exact .fail
        · rw [if_neg (by simp; omega)]; exact .fail
      | box _ => exact .fail
      | mp _ => exact .fail
      | iter _ _ => exact .fail
      | nest _ _ _ => exact .fail
      | dead => exact .fail
  | _ => exact .fail
end
end Go.Proofs.EV
set_option linter.unusedVariables false
set_option linter.unusedSimpArgs false
set_option linter.unusedSectionVars false
namespace Go.Proofs.EV
open Go Go.RowKit
variable [Dr]

section
variable {P : Program} {base s m : Nat} {w : World} {L : Lks} {H : List Ob} {C : Cfg} {sm : Sem Value}

theorem known_of_pos (hC : CfgOk P C) {T : TypeId} (h : (C.ty T).size ≠ 0) : known (C.ty T).k := by
  cases e : (C.ty T).k <;> first | trivial | exact absurd ((hC T).2 e) h

theorem OpOk.sem {sm' : Sem Value} {prog : HM V} (he : sm'.run P w = sm.run P w) (h : OpOk P base s m w L H prog sm') : OpOk P base s m w L H prog sm :=
  ⟨fun R c r hr => by rw [← he]; exact h.out R c r hr⟩

theorem idx_ok {i : V} {vi : Value} (hi : VRel w (okW w L H) base L i vi) {n : Nat} {k : Nat → HM V}
    (h : ∀ (q : IntKind) (z : Int), vi = .int q z → 0 ≤ z → z < n → OpOk P base s m w L H (k z.toNat) sm) : OpOk P base s m w L H (idxHM i n k) sm := by
  unfold idxHM
  split
  · rw [hi.int_inv] at h
    exact .gd fun h1 => .gd fun h2 => h _ _ rfl (of_decide_eq_true h1) (of_decide_eq_true h2)
  · exact .fail

theorem structFields (hC : CfgOk P C) {T : TypeId} {f o : Nat} {t : TypeId} (h : fieldOf C T f = some (o, t)) :
    known (C.ty T).k ∧ ∃ (fields : Array Field) (fd : Field), P.underlying T = some (.struct fields) ∧ fields[f]? = some fd ∧ fd.offset = o ∧ fd.type = t ∧ ∃ i, P.info? t = some i ∧ i.size ≠ 0 := by
  unfold fieldOf at h
  split at h
  · rename_i fs hk
    have hkn : known (C.ty T).k := by rw [hk]; trivial
    have hu := ((hC T).1 hkn).k
    rw [hk] at hu
    obtain ⟨fields, h1, h2, h3⟩ := hu
    refine ⟨hkn, ?_⟩
    rw [← h2, List.getElem?_map] at h
    cases e : fields.toList[f]? with
    | none => rw [e] at h; cases h
    | some fd =>
      rw [e] at h
      simp only [Option.map_some, Option.some.injEq, Prod.mk.injEq] at h
      obtain ⟨i, q1, q2, _⟩ := h3 fd (List.mem_of_getElem? e)
      exact ⟨fields, fd, h1, by simpa using e, h.1, h.2, i, by rw [← h.2]; exact q1, q2⟩
  · cases h

theorem fieldAddr_ok (hH : HRel w base L H) (hC : CfgOk P C) (T : TypeId) (f : Nat) {x : V} {vx : Value} (hx : VRel w (okW w L H) base L x vx) :
    OpOk P base s m w L H (fieldAddrHM C T x f) (Instr.fieldAt T vx f) := by
  unfold fieldAddrHM
  cases e : fieldOf C T f with
  | none => exact .fail
  | some p =>
    obtain ⟨o, t⟩ := p
    obtain ⟨hk, fields, fd, h1, h2, rfl, rfl, i, q1, q2⟩ := structFields hC e
    have hrun : ∀ b off, (Instr.fieldAt T (.pointer (some ⟨b, off, none⟩)) f).run P w = .ok (.pointer (some ⟨b, off + fd.offset, none⟩)) w := by
      intro b off
      simp [Instr.fieldAt, run_underlying h1 w, h2, Instr.sureAddr, fieldPlace, sizeOf, typeInfo, q1, q2, add_plain]
    cases hx with
    | rp id off lk b hl hb => exact .ret hH (hrun _ _) (.rp id _ lk b hl hb)
    | re id i' j lk b hl hb hi => exact .ret hH (hrun _ _) (by have := VRel.re (w := w) (ok := okW w L H) (base := base) (L := L) id i' (j + fd.offset) lk b hl hb hi; simpa [Nat.add_assoc] using this)
    | pe fr sz es i' j b off cv hok g1 g2 => exact .ret hH (hrun _ _) (by have := VRel.pe (w := w) (ok := okW w L H) (base := base) (L := L) fr sz es i' (j + fd.offset) b off cv hok g1 g2; simpa [Nat.add_assoc] using this)
    | one fr d v hd =>
      cases hd with
      | pt cs b off cv hok g1 g2 => exact .ret hH (hrun _ _) (.pe fr cs.length [cs] 0 fd.offset b off cv hok g1 (fun j hj => by simpa [cellD] using g2 j hj))
      | _ => exact .fail
    | _ => exact .fail

theorem field_ok (hH : HRel w base L H) (hC : CfgOk P C) (T : TypeId) (f : Nat) {x : V} {vx : Value} (hx : VRel w (okW w L H) base L x vx) :
    OpOk P base s m w L H (fieldHM C T x f) (Instr.field T vx f) := by
  unfold fieldHM
  cases e : fieldOf C T f with
  | none => exact .fail
  | some p =>
    obtain ⟨o, t⟩ := p
    obtain ⟨hk, fields, fd, h1, h2, rfl, rfl, i, q1, q2⟩ := structFields hC e
    cases hx with
    | agg cs arr hl h =>
      dsimp only
      split
      · rename_i hle
        have hkt := known_of_pos hC (T := fd.type) (by omega)
        have hTt := (hC fd.type).1 hkt
        have hcs : CsRel w (okW w L H) base L cs arr := ⟨hl, h⟩
        have hp := part_ok (P := P) (w := w) hTt hkt (arr := arr) (o := fd.offset) (by rw [hl]; exact hle.2)
        refine .ret hH (by simp [Instr.field, run_underlying h1 w, h2, asAgg, hp]; rfl) ?_
        have := mkVal_ok hTt (hcs.sub hle.2) (by simp; omega)
        have e3 : valOf (C.ty fd.type) (arr.extract fd.offset (fd.offset + (C.ty fd.type).size)) = if EV.isAgg (C.ty fd.type).k then .agg (arr.extract fd.offset (fd.offset + (C.ty fd.type).size)) else arr.getD fd.offset undef := by
          unfold valOf
          cases e : EV.isAgg (C.ty fd.type).k with
          | true => rfl
          | false =>
            have h1 := hTt.one e
            have h2 : 0 < (arr.extract fd.offset (fd.offset + (C.ty fd.type).size)).size := by simp; omega
            have h3 : fd.offset < arr.size := by omega
            simp only [Bool.false_eq_true, if_false]
            rw [agetD_of_lt h2, agetD_of_lt h3]
            simp
        rw [e3] at this
        rwa [Array.getD_eq_getD_getElem?] at this
      · exact .fail
    | _ => exact .fail

theorem info_size (hC : CfgOk P C) {T : TypeId} (hk : known (C.ty T).k) : ∃ i, P.info? T = some i ∧ i.size = (C.ty T).size := by
  obtain ⟨i, z, h1, h2, _⟩ := ((hC T).1 hk).i
  exact ⟨i, h1, h2⟩

theorem indexAddr_ok (hH : HRel w base L H) (hC : CfgOk P C) (T : TypeId) {x i : V} {vx vi : Value} (hx : VRel w (okW w L H) base L x vx) (hi : VRel w (okW w L H) base L i vi) :
    OpOk P base s m w L H (indexAddrHM C T x i) (Instr.indexAt T vx vi) := by
  unfold indexAddrHM
  split
  · rename_i e1 hk
    have hu := ((hC T).1 (by rw [hk]; trivial)).k
    rw [hk] at hu
    split
    · exact .fail
    rename_i hs0
    have hrun : ∀ b off (n c : Nat) (q : IntKind) (z : Int) sz, 0 ≤ z → z < n → sz = (C.ty e1).size → (Instr.indexAt T (.slice (some ⟨b, off, none⟩) n c) (.int q z)).run P w = .ok (.pointer (some ⟨b, off + z.toNat * sz, none⟩)) w := by
      intro b off n c q z sz h1 h2 h3
      have := ((hC e1).1 (known_of_pos hC hs0)).size (w := w)
      simp [Instr.indexAt, asIntOf, run_underlying hu w, h1, h2, this, add_plain, h3]
    split
    · rename_i fr sz es
      split
      · rename_i hsz
        refine idx_ok hi fun q z e h1 h2 => ?_
        subst e
        cases hx with
        | one _ _ _ hd =>
          cases hd with
          | sl0 => simp at h2; omega
          | sl _ _ b off c cv hok hc g1 g2 =>
            refine .ret hH (hrun b off es.length c q z sz h1 h2 hsz) ?_
            have hlt : z.toNat < es.length := by omega
            have := VRel.pe (w := w) (ok := okW w L H) (base := base) (L := L) fr sz es z.toNat 0 b (off + z.toNat * sz) (fun j => cv z.toNat j) hok (fun j hj => g1 _ _ hlt hj) (fun j hj => g2 _ _ hlt hj)
            simpa using this
      · exact .fail
    · rename_i id
      refine .get ?_
      cases e : obj H id with
      | row arr sz es =>
        dsimp only
        split
        · rename_i hsz
          refine idx_ok hi fun q z e' h1 h2 => ?_
          subst e'
          cases hx with
          | rw _ lk hl =>
            obtain ⟨g1, g2, g3, g4⟩ := hH.row e hl
            cases eb : lk.b with
            | none =>
              rw [eb] at g4
              rw [g4.1] at h2
              simp at h2; omega
            | some b =>
              rw [eb] at g4
              have := VRel.re (w := w) (ok := okW w L H) (base := base) (L := L) id z.toNat 0 lk b hl eb (by omega)
              rw [g1] at this
              simp only [Nat.add_zero] at this
              refine .ret hH ?_ this
              have := hrun b 0 lk.n lk.cap q z sz h1 (by omega) hsz
              simpa using this
        · exact .fail
      | nest sz hole es =>
        dsimp only
        split
        · rename_i hsz
          refine idx_ok hi fun q z e' h1 h2 => ?_
          subst e'
          cases hx with
          | rw _ lk hl =>
            obtain ⟨g1, g2, g3, _, b, _, _, _, eb, _⟩ := hH.nest e hl
            have := VRel.re (w := w) (ok := okW w L H) (base := base) (L := L) id z.toNat 0 lk b hl eb (by omega)
            rw [g1] at this
            simp only [Nat.add_zero] at this
            refine .ret hH ?_ this
            rw [eb]
            have := hrun b 0 lk.n lk.cap q z 1 h1 (by omega) hsz.symm
            simpa using this
        · exact .fail
      | _ => exact .fail
    · rename_i id off len
      refine .get ?_
      cases e : obj H id with
      | row arr sz es =>
        dsimp only
        split
        · rename_i hsz
          refine idx_ok hi fun q z e' h1 h2 => ?_
          subst e'
          cases hx with
          | rs _ _ _ lk a c hl hn hc ha ha0 hcc =>
            obtain ⟨g1, g2, g3, g4⟩ := hH.row e hl
            obtain ⟨b, eb, rfl⟩ := ha (by omega)
            have := VRel.re (w := w) (ok := okW w L H) (base := base) (L := L) id (off + z.toNat) 0 lk b hl eb (by omega)
            simp only [Nat.add_zero] at this
            refine .ret hH ?_ this
            have := hrun b (off * lk.sz) len c q z sz h1 (by omega) hsz
            rw [this, g1, Nat.add_mul]
        · exact .fail
      | _ => exact .fail
    · exact .fail
  · rename_i n e1 hk
    have hT := (hC T).1 (by rw [hk]; trivial)
    have hu := hT.k
    rw [hk] at hu
    split
    · exact .fail
    rename_i hs0
    obtain ⟨ei, i1, i2⟩ := hT.arr n e1 hk
    obtain ⟨i', j1, j2⟩ := info_size hC (known_of_pos hC hs0)
    rw [i1] at j1; cases j1
    have hrun : ∀ b off (q : IntKind) (z : Int), 0 ≤ z → z < n → (Instr.indexAt T (.pointer (some ⟨b, off, none⟩)) (.int q z)).run P w = .ok (.pointer (some ⟨b, off + z.toNat * (C.ty e1).size, none⟩)) w := by
      intro b off q z h1 h2
      simp [Instr.indexAt, asIntOf, run_underlying hu w, h1, h2, sizeOf, typeInfo, i1, j2, add_plain, Instr.sureAddr]
    split
    · rename_i id i0 j
      cases hx with
      | re _ _ _ lk b hl hb hi0 =>
      refine .get ?_
      have plain : OpOk P base s m w L H (idxHM i n fun i => .ret (.re id i0 (j + i * (C.ty e1).size))) (Instr.indexAt T (.pointer (some ⟨b, i0 * lk.sz + j, none⟩)) vi) := by
        refine idx_ok hi fun q z e h1 h2 => ?_
        subst e
        have := VRel.re (w := w) (ok := okW w L H) (base := base) (L := L) id i0 (j + z.toNat * (C.ty e1).size) lk b hl hb hi0
        rw [← Nat.add_assoc] at this
        exact .ret hH (hrun _ _ _ _ h1 h2) this
      cases e : obj H id with
      | row arr sz es =>
        cases arr with
        | false => exact plain
        | true =>
          dsimp only
          split
          · rename_i hc
            obtain ⟨hsz, rfl, rfl⟩ := hc
            obtain ⟨g1, g2, g3, g4⟩ := hH.row e hl
            refine idx_ok hi fun q z e h1 h2 => ?_
            subst e
            refine .gd fun hlt => ?_
            have hlt := of_decide_eq_true hlt
            have := VRel.re (w := w) (ok := okW w L H) (base := base) (L := L) id z.toNat 0 lk b hl hb (by omega)
            rw [g1, hsz] at this
            refine .ret hH (hrun _ _ _ _ h1 h2) ?_
            simpa using this
          · exact plain
      | _ => exact .fail
    · rename_i id off
      cases hx with
      | rp _ _ lk b hl hb =>
        refine idx_ok hi fun q z e h1 h2 => ?_
        subst e
        exact .ret hH (hrun _ _ _ _ h1 h2) (.rp id _ lk b hl hb)
    · rename_i fr sz es i0 j
      cases hx with
      | pe _ _ _ _ _ b off cv hok g1 g2 =>
        refine idx_ok hi fun q z e h1 h2 => ?_
        subst e
        have := VRel.pe (w := w) (ok := okW w L H) (base := base) (L := L) fr sz es i0 (j + z.toNat * (C.ty e1).size) b off cv hok g1 g2
        rw [← Nat.add_assoc] at this
        exact .ret hH (hrun _ _ _ _ h1 h2) this
    · rename_i fr cs
      cases hx with
      | one _ _ _ hd =>
      cases hd with
      | pt _ b off cv hok g1 g2 =>
        refine idx_ok hi fun q z e h1 h2 => ?_
        subst e
        exact .ret hH (hrun _ _ _ _ h1 h2) (.pe fr cs.length [cs] 0 (z.toNat * (C.ty e1).size) b off cv hok g1 (fun j hj => by simpa [cellD] using g2 j hj))
    · exact .fail
  · exact .fail

theorem ints_get {ok : Nat → Prop} {k : IntKind} : ∀ (cs : List V) (ns : List Int) (arr : Array Value), intsOf k cs = some ns → CsRel w ok base L cs arr → ns.length = cs.length ∧ ∀ i, i < cs.length → arr.getD i undef = .int k (ns.getD i 0)
  | [], ns, arr, h, _ => by
    simp only [intsOf, Option.some.injEq] at h; subst h
    exact ⟨rfl, fun i hi => by simp at hi⟩
  | c :: cs, ns, arr, h, hr => by
    match c, h with
    | .one fr (.int k' n), h =>
      simp only [intsOf] at h
      split at h
      · rename_i hk
        subst hk
        obtain ⟨r, h1, h2⟩ := Option.bind_eq_some_iff.1 h
        cases h2
        have ih := ints_get cs r (arr.extract 1 arr.size) h1 ⟨by simp [hr.1], fun i hi => by
          have := hr.2 (i + 1) (by simpa using hi)
          have hlt : i + 1 < arr.size := by rw [hr.1]; simpa using hi
          rw [agetD_of_lt hlt] at this
          rw [agetD_of_lt (by simp; omega)]
          simp only [List.getD_cons_succ] at this
          simpa [Nat.add_comm] using this⟩
        refine ⟨by simp [ih.1], fun i hi => ?_⟩
        cases i with
        | zero => exact (hr.2 0 (by simp)).int_inv
        | succ i =>
          have h3 := ih.2 i (by simpa using hi)
          have hlt : i + 1 < arr.size := by rw [hr.1]; exact hi
          rw [agetD_of_lt (by simp; omega)] at h3
          rw [agetD_of_lt hlt]
          simpa [Nat.add_comm] using h3
      · cases h

theorem index_ok (hH : HRel w base L H) (hC : CfgOk P C) (T : TypeId) {x i : V} {vx vi : Value} (hx : VRel w (okW w L H) base L x vx) (hi : VRel w (okW w L H) base L i vi) :
    OpOk P base s m w L H (indexHM C T x i) (Instr.index T vx vi) := by
  unfold indexHM
  split
  · rename_i fr str hk
    have hu := ((hC T).1 (by rw [hk]; trivial)).k
    rw [hk] at hu
    rw [hx.str_inv]
    refine idx_ok hi fun q z e h1 h2 => ?_
    subst e
    have hlt : z.toNat < str.size := by omega
    refine .ret hH ?_ (vint_rel _ _)
    have e1 : str[z.toNat]? = some str[z.toNat] := by simp [hlt]
    have e2 : byteAt str z.toNat = ((str[z.toNat] : UInt8).toNat : Int) := by
      unfold byteAt
      rw [getD_of_lt (by simpa using hlt)]
      simp
      rfl
    simp [Instr.index, asIntOf, run_underlying hu w, h1, e1, e2]
  · rename_i n e1 cs hk
    have hu := ((hC T).1 (by rw [hk]; trivial)).k
    rw [hk] at hu
    obtain ⟨arr, rfl, hcs⟩ := hx.agg_inv
    split
    · rename_i k hke
      have hTe := (hC e1).1 (by rw [hke]; trivial)
      split
      · rename_i ns hns
        split
        · rename_i hle
          refine idx_ok hi fun q z e h1 h2 => ?_
          subst e
          have hget := ints_get cs ns arr hns hcs
          have h1e : EV.isAgg (C.ty e1).k = false := by rw [hke]; rfl
          have hs1 := hTe.one h1e
          have hp := part_ok (P := P) (w := w) hTe (by rw [hke]; trivial) (arr := arr) (o := z.toNat * 1) (by rw [hcs.1, hs1]; omega)
          rw [h1e] at hp
          simp only [Bool.false_eq_true, if_false] at hp
          rw [Nat.mul_one, hget.2 _ (by omega)] at hp
          refine .ret hH ?_ (vint_rel _ _)
          have hsz := hTe.size (w := w)
          simp [Instr.index, asIntOf, run_underlying hu w, h1, h2, hsz, hs1, hp]
        · exact .fail
      · exact .fail
    · exact .fail
    · exact .fail
    · split
      · exact .fail
      rename_i hs0
      split
      · rename_i k _ hlk
        split
        · rename_i ns hns
          split
          · rename_i hle0
            have hTe := (hC e1).1 (known_of_pos hC hs0)
            refine idx_ok hi fun q z e h1 h2 => ?_
            subst e
            have hg := ints_get cs ns arr hns hcs
            have hle : z.toNat * (C.ty e1).size + (C.ty e1).size ≤ arr.size := by
              have : (z.toNat + 1) * (C.ty e1).size ≤ n * (C.ty e1).size := Nat.mul_le_mul_right _ (by omega)
              rw [Nat.add_mul] at this
              rw [hcs.1]; omega
            have hp := part_ok (P := P) (w := w) hTe (known_of_pos hC hs0) (arr := arr) (o := z.toNat * (C.ty e1).size) hle
            have hval := mkVal_rel (t := C.ty e1) (w := w) (ok := okW w L H) (base := base) (L := L) (cs := (List.range (C.ty e1).size).map fun j => vint k (ns.getD (z.toNat * (C.ty e1).size + j) 0)) (arr := arr.extract (z.toNat * (C.ty e1).size) (z.toNat * (C.ty e1).size + (C.ty e1).size)) ⟨by simp; omega, fun j hj => by
              have hj' : j < (C.ty e1).size := by simpa using hj
              have := hg.2 (z.toNat * (C.ty e1).size + j) (by rw [← hcs.1]; omega)
              rw [agetD_of_lt (by omega)] at this
              rw [getD_of_lt hj, agetD_of_lt (by simp; omega)]
              simp only [List.getElem_map, List.getElem_range, Array.getElem_extract]
              rw [this]
              exact vint_rel _ _⟩ (fun ha => by simpa using hTe.one ha)
            refine .ret hH (vc := if isAgg (C.ty e1).k then .agg (arr.extract (z.toNat * (C.ty e1).size) (z.toNat * (C.ty e1).size + (C.ty e1).size)) else arr.getD (z.toNat * (C.ty e1).size) undef) ?_ ?_
            · have hsz := hTe.size (w := w)
              simp [Instr.index, asIntOf, run_underlying hu w, h1, h2, hsz, hp]
            · cases ha : isAgg (C.ty e1).k with
              | true => simpa [ha] using hval
              | false =>
                have h1e := hTe.one ha
                rw [ha] at hval
                simp only [Bool.false_eq_true, if_false] at hval ⊢
                rw [agetD_of_lt (by simp; omega)] at hval
                rw [agetD_of_lt (by omega)]
                simpa using hval
          · exact .fail
        · exact .fail
      · exact .fail
  · exact .fail
end
end Go.Proofs.EV
set_option linter.unusedVariables false
set_option linter.unusedSimpArgs false
set_option linter.unusedSectionVars false
namespace Go.Proofs.EV
open Go Go.RowKit
variable [Dr]

section
variable {P : Program} {base s m : Nat} {w : World} {L : Lks} {H : List Ob} {C : Cfg} {sm : Sem Value}

theorem int_ok {i : V} {vi : Value} (hi : VRel w (okW w L H) base L i vi) {k : Int → HM V}
    (h : ∀ (q : IntKind) (z : Int), vi = .int q z → OpOk P base s m w L H (k z) sm) : OpOk P base s m w L H (intHM i k) sm := by
  unfold intHM
  split
  · rw [hi.int_inv] at h
    exact h _ _ rfl
  · exact .fail

/-! ### Parts of slices -/
inductive OptRel (R : V → Value → Prop) : Option V → Option Value → Prop where
  | none : OptRel R none none
  | some {x v} (h : R x v) : OptRel R (some x) (some v)

theorem bounds_ok {lo hi : Option V} {vlo vhi : Option Value} (hlo : OptRel (VRel w (okW w L H) base L) lo vlo) (hhi : OptRel (VRel w (okW w L H) base L) hi vhi) (isSlice : Bool) {n cap : Nat} (hc : n ≤ cap) {k : Nat → Nat → HM V}
    (h : ∀ l h, l ≤ h → h ≤ n → (Instr.sliceBounds isSlice n cap vlo vhi none).run P w = .ok (l, h, cap) w → OpOk P base s m w L H (k l h) sm) : OpOk P base s m w L H (boundsHM lo hi n k) sm := by
  have bound : ∀ (q : IntKind) (z : Int) (y : Nat) (c : BoundsCode), 0 ≤ z → z ≤ y → (Instr.sliceBound (.int q z) y c).run P w = .ok z.toNat w := fun q z y c h1 h2 => by simp [Instr.sliceBound, asIntOf, h1, h2]
  cases hhi with
  | none =>
    cases hlo with
    | none => exact h 0 n (Nat.zero_le _) (Nat.le_refl _) (by simp [Instr.sliceBounds])
    | some hx =>
      refine int_ok hx fun q z e => .gd fun h1 => .gd fun h2 => ?_
      have h1 := of_decide_eq_true h1
      have h2 := of_decide_eq_true h2
      subst e
      exact h z.toNat n (by omega) (Nat.le_refl _) (by simp [Instr.sliceBounds, bound _ _ _ _ h1 h2])
  | some hy =>
    refine int_ok hy fun q' z' e' => .gd fun g1 => .gd fun g2 => ?_
    have g1 := of_decide_eq_true g1
    have g2 := of_decide_eq_true g2
    subst e'
    cases hlo with
    | none => exact h 0 z'.toNat (Nat.zero_le _) (by omega) (by simp [Instr.sliceBounds, bound _ _ cap _ g1 (by omega)])
    | some hx =>
      refine int_ok hx fun q z e => .gd fun h1 => .gd fun h2 => ?_
      have h1 := of_decide_eq_true h1
      have h2 := of_decide_eq_true h2
      subst e
      exact h z.toNat z'.toNat (by omega) (by omega) (by simp [Instr.sliceBounds, bound _ _ cap _ g1 (by omega), bound _ _ _ _ h1 h2])

theorem sl_sub {ok : Nat → Prop} {sz : Nat} {es : List (List D)} {b off : Nat} {cv : Nat → Nat → Value} (hok : ok b)
    (h1 : ∀ i j, i < es.length → j < sz → w.cell? ⟨b, off + i * sz + j, none⟩ = some (cv i j)) (h2 : ∀ i j, i < es.length → j < sz → CRel w ok (cellD es i j) (cv i j))
    {l h : Nat} (hl : l ≤ h) (hh : h ≤ es.length) (c' : Nat) (hc : h - l ≤ c') : CRel w ok (.sl sz ((es.drop l).take (h - l))) (.slice (some ⟨b, off + l * sz, none⟩) (h - l) c') := by
  have hlen : ((es.drop l).take (h - l)).length = h - l := by simp; omega
  have hg : ∀ i j, i < h - l → cellD ((es.drop l).take (h - l)) i j = cellD es (l + i) j := by
    intro i j hi
    unfold cellD
    congr 1
    rw [getD_of_lt (by omega), getD_of_lt (by omega)]
    simp
  have := CRel.sl (w := w) (ok := ok) sz ((es.drop l).take (h - l)) b (off + l * sz) c' (fun i j => cv (l + i) j) hok (by rw [hlen]; exact hc)
    (fun i j hi hj => by
      rw [hlen] at hi
      have := h1 (l + i) j (by omega) hj
      rw [Nat.add_mul] at this
      rw [← this]
      congr 2
      omega)
    (fun i j hi hj => by
      rw [hlen] at hi
      rw [hg i j hi]
      exact h2 (l + i) j (by omega) hj)
  rwa [hlen] at this

theorem slice_ok (hH : HRel w base L H) (hC : CfgOk P C) (T : TypeId) {x : V} {vx : Value} (hx : VRel w (okW w L H) base L x vx) {lo hi mx : Option V} {vlo vhi vmx : Option Value}
    (hlo : OptRel (VRel w (okW w L H) base L) lo vlo) (hhi : OptRel (VRel w (okW w L H) base L) hi vhi) (hmx : OptRel (VRel w (okW w L H) base L) mx vmx) :
    OpOk P base s m w L H (sliceHM C T x lo hi mx) (Instr.sliceAt T vx vlo vhi vmx) := by
  unfold sliceHM
  cases hmx with
  | some _ => exact .fail
  | none =>
  dsimp only
  split
  · rename_i hk
    have hu := ((hC T).1 (by rw [hk]; trivial)).k
    rw [hk] at hu
    split
    · rename_i fr str
      rw [hx.str_inv]
      refine bounds_ok hlo hhi false (Nat.le_refl _) fun l h _ _ hb => .ret hH ?_ (vstr_rel _)
      simp [Instr.sliceAt, Instr.slice, run_underlying hu w, hb]
    · exact .fail
  · rename_i e1 hk
    have hu := ((hC T).1 (by rw [hk]; trivial)).k
    rw [hk] at hu
    split
    · exact .fail
    rename_i hs0
    have hrun : ∀ a n c l h, (Instr.sliceBounds true n c vlo vhi none).run P w = .ok (l, h, c) w → (Instr.sliceAt T (.slice a n c) vlo vhi none).run P w = .ok (.slice (if c = l then a else a.map (·.add (l * (C.ty e1).size))) (h - l) (c - l)) w := by
      intro a n c l h hb
      have := ((hC e1).1 (known_of_pos hC hs0)).size (w := w)
      simp [Instr.sliceAt, Instr.slice, run_underlying hu w, hb, this]
    split
    · rename_i fr sz es
      split
      · rename_i hsz
        cases hx with
        | one _ _ _ hd =>
        cases hd with
        | sl0 _ a c =>
          refine bounds_ok hlo hhi true (Nat.zero_le c) fun l h h1 h2 hb => .ret hH (hrun _ _ _ _ _ hb) (.one _ _ _ ?_)
          simp only [List.length_nil, Nat.le_zero] at h2
          subst h2
          simp only [List.drop_nil, List.take_nil, Nat.zero_sub]
          exact .sl0 ..
        | sl _ _ b off c cv hok hc g1 g2 =>
          refine bounds_ok hlo hhi true hc fun l h h1 h2 hb => .ret hH (hrun _ _ _ _ _ hb) (.one _ _ _ ?_)
          by_cases hcl : c = l
          · have : h - l = 0 := by omega
            rw [this, List.take_zero]
            exact .sl0 ..
          · rw [if_neg hcl]
            simp only [Option.map_some, add_plain, ← hsz]
            exact sl_sub hok g1 g2 h1 h2 _ (by omega)
      · exact .fail
    · rename_i id
      refine .get ?_
      cases e : obj H id with
      | row arr sz es =>
        dsimp only
        split
        · rename_i hsz
          cases hx with
          | rw _ lk hl =>
            obtain ⟨g1, g2, g3, g4⟩ := hH.row e hl
            have hcap : lk.n ≤ lk.cap := by
              cases eb : lk.b with
              | none => rw [eb] at g4; rw [g2, g4.1]; simp
              | some b => rw [eb] at g4; obtain ⟨_, _, _, _, _, q, _⟩ := g4; rw [g2]; exact q
            rw [← g2]
            refine bounds_ok hlo hhi true hcap fun l h h1 h2 hb => .ret hH (hrun _ _ _ _ _ hb) ?_
            refine .rs id l (h - l) lk _ (lk.cap - l) hl (by omega) (by omega) (fun hp => ?_) (fun h0 => ?_) (by omega)
            · cases eb : lk.b with
              | none => rw [eb] at g4; rw [g2, g4.1] at h2; simp at h2; omega
              | some b =>
                refine ⟨b, rfl, ?_⟩
                rw [if_neg (by omega)]
                simp [add_plain, g1, hsz]
            · subst h0
              cases lk.b with
              | none => simp
              | some b => simp [add_plain]
        · exact .fail
      | _ => exact .fail
    · rename_i id off len
      refine .get ?_
      cases e : obj H id with
      | row arr sz es =>
        dsimp only
        split
        · rename_i hsz
          cases hx with
          | rs _ _ _ lk a c hl hn hc ha ha0 hcc =>
            obtain ⟨g1, g2, g3, g4⟩ := hH.row e hl
            refine bounds_ok hlo hhi true hc fun l h h1 h2 hb => .ret hH (hrun _ _ _ _ _ hb) ?_
            refine .rs id (off + l) (h - l) lk _ (c - l) hl (by omega) (by omega) (fun hp => ?_) (fun h0 => ?_) (by omega)
            · obtain ⟨b, eb, rfl⟩ := ha (by omega)
              refine ⟨b, eb, ?_⟩
              rw [if_neg (by omega)]
              simp [add_plain, g1, hsz, Nat.add_mul]
            · have e1 : off = 0 := by omega
              have e2 : l = 0 := by omega
              rw [ha0 e1, e2]
              cases lk.b with
              | none => simp
              | some b => simp [add_plain]
        · exact .fail
      | _ => exact .fail
    · rename_i sz
      cases hx with
      | nils =>
        refine bounds_ok hlo hhi true (Nat.le_refl 0) fun l h h1 h2 hb => .ret hH (hrun _ _ _ _ _ hb) ?_
        have : h = 0 := by omega
        subst this
        have : l = 0 := by omega
        subst this
        exact .nils sz
    · exact .fail
  · rename_i n e1 hk
    have hT := (hC T).1 (by rw [hk]; trivial)
    have hu := hT.k
    rw [hk] at hu
    split
    · exact .fail
    rename_i hs0
    split
    · rename_i id i j
      refine .get ?_
      cases e : obj H id with
      | row arr sz es =>
        cases arr with
        | false => exact .fail
        | true =>
          dsimp only
          split
          · rename_i hc
            obtain ⟨hsz, rfl, rfl⟩ := hc
            refine .gd fun hn => ?_
            have hn := of_decide_eq_true hn
            cases hx with
            | re _ _ _ lk b hl hb hi0 =>
              obtain ⟨g1, g2, g3, g4⟩ := hH.row e hl
              refine bounds_ok hlo hhi false (Nat.le_refl n) fun l h h1 h2 hb' => ?_
              have hse := ((hC e1).1 (known_of_pos hC hs0)).size (w := w)
              refine .ret hH (vc := .slice (some (if n = l then ⟨b, 0 * lk.sz + 0, none⟩ else (⟨b, 0 * lk.sz + 0, none⟩ : Addr).add (l * (C.ty e1).size))) (h - l) (n - l)) ?_ ?_
              · simp [Instr.sliceAt, Instr.sureAddr, run_underlying hu w, hb', hse]
              · have hcap : es.length ≤ lk.cap := by rw [hb] at g4; obtain ⟨_, _, _, _, _, q, _⟩ := g4; exact q
                refine .rs id l (h - l) lk _ (n - l) hl (by omega) (by omega) (fun hp => ⟨b, hb, ?_⟩) (fun h0 => ?_) (by omega)
                · rw [if_neg (by omega)]
                  simp [add_plain, g1, hsz]
                · subst h0
                  rw [hb]
                  simp [add_plain]
          · exact .fail
      | _ => exact .fail
    · exact .fail
  · exact .fail

theorem getObj_run {r : Nat} {es : Array MapEntry} {c : Nat} (h : w.heap[r]? = some (.map es c)) : (getObj r).run P w = .ok (.map es c) w := by
  simp only [getObj, Sem.run, h]

/-! ### Lengths -/
theorem len_ok (hH : HRel w base L H) (hC : CfgOk P C) (ts : Array TypeId) (ty : TypeId) {x : V} {vx : Value} (hx : VRel w (okW w L H) base L x vx) (ht : 0 < ts.size) :
    OpOk P base s m w L H (lenHM C (ts.toList.getD 0 0) x) (Builtin.len_ ts ty #[vx]) := by
  have e0 : ts[0]? = some (ts.toList.getD 0 0) := by
    rw [getD_of_lt (by simpa using ht)]; simp [ht]
  generalize ts.toList.getD 0 0 = T at e0 ⊢
  unfold lenHM
  split
  · rename_i fr str hk
    have hu := ((hC T).1 (by rw [hk]; trivial)).k
    rw [hk] at hu
    rw [hx.str_inv]
    exact .ret hH (by simp [Builtin.len_, e0, run_underlying hu w, goInt]) (vint_rel _ _)
  · rename_i n e1 y hk
    have hu := ((hC T).1 (by rw [hk]; trivial)).k
    rw [hk] at hu
    exact .ret hH (by simp [Builtin.len_, e0, run_underlying hu w, goInt]) (vint_rel _ _)
  · rename_i e1 fr sz es hk
    have hu := ((hC T).1 (by rw [hk]; trivial)).k
    rw [hk] at hu
    cases hx with
    | one _ _ _ hd =>
    cases hd with
    | sl0 => exact .ret hH (by simp [Builtin.len_, e0, run_underlying hu w, goInt]) (vint_rel _ _)
    | sl => exact .ret hH (by simp [Builtin.len_, e0, run_underlying hu w, goInt]) (vint_rel _ _)
  · rename_i e1 sz hk
    have hu := ((hC T).1 (by rw [hk]; trivial)).k
    rw [hk] at hu
    cases hx with
    | nils => exact .ret hH (by simp [Builtin.len_, e0, run_underlying hu w, goInt]) (vint_rel _ _)
  · rename_i e1 id off len hk
    have hu := ((hC T).1 (by rw [hk]; trivial)).k
    rw [hk] at hu
    cases hx with
    | rs => exact .ret hH (by simp [Builtin.len_, e0, run_underlying hu w, goInt]) (vint_rel _ _)
  · rename_i e1 id hk
    have hu := ((hC T).1 (by rw [hk]; trivial)).k
    rw [hk] at hu
    refine .get ?_
    cases e : obj H id with
    | row arr sz es =>
      cases hx with
      | rw _ lk hl =>
        obtain ⟨g1, g2, g3, g4⟩ := hH.row e hl
        exact .ret hH (by simp [Builtin.len_, e0, run_underlying hu w, goInt, g2]) (vint_rel _ _)
    | nest sz hole es =>
      cases hx with
      | rw _ lk hl =>
        obtain ⟨g1, g2, _⟩ := hH.nest e hl
        exact .ret hH (by simp [Builtin.len_, e0, run_underlying hu w, goInt, g2]) (vint_rel _ _)
    | _ => exact .fail
  · rename_i k1 e1 id hk
    have hu := ((hC T).1 (by rw [hk]; trivial)).k
    rw [hk] at hu
    refine .get ?_
    cases e : obj H id with
    | mp es =>
      cases hx with
      | rm _ lk b hl hb =>
        obtain ⟨lk', h1, h2⟩ := hH.ob id (by rw [e]; rfl)
        rw [hl] at h1; cases h1
        rw [e] at h2
        obtain ⟨r, clock, ms, q0, q1, q2, _⟩ := h2
        rw [hb] at q0; cases q0
        exact .ret hH (by simp [Builtin.len_, e0, run_underlying hu w, goInt, q2, getObj_run q1]) (vint_rel _ _)
    | _ => exact .fail
  · rename_i k1 e1 fr es hk
    have hu := ((hC T).1 (by rw [hk]; trivial)).k
    rw [hk] at hu
    cases hx with
    | one _ _ _ hd =>
    cases hd with
    | mp _ r clock ms hok q1 q2 =>
      exact .ret hH (by simp [Builtin.len_, e0, run_underlying hu w, goInt, q2, getObj_run q1]) (vint_rel _ _)
  · exact .fail
end
end Go.Proofs.EV
set_option linter.unusedVariables false
set_option linter.unusedSimpArgs false
set_option linter.unusedSectionVars false
namespace Go.Proofs.EV
open Go Go.RowKit
variable [Dr]

section
variable {P : Program} {base s m : Nat} {w : World} {L : Lks} {H : List Ob} {C : Cfg} {sm : Sem Value}

/-- An own object's block goes over to a new one. -/
theorem HRel.move (hH : HRel w base L H) {id : Nat} {lk : Lk} {b : Nat} (hl : L id = some lk) (hb : lk.b = some b) (hlv : live (obj H id) = true) (hs : s < H.length) (hm : 0 < m) (hL : L s = none) {w' : World}
    (hsz : w'.heap.size = w.heap.size) (hw : ∀ b', b' ≠ b → w'.heap[b']? = w.heap[b']?) (hbel : Below base w w') {lk' : Lk} (hb' : lk'.b = some b) {ob : Ob} (hlo : live ob = true)
    (hob : ∀ (ok' : Nat → Prop), (∀ b, okW w L H b → ok' b ∧ w'.heap[b]? = w.heap[b]?) → ObRel w' ok' base (EV.upd L s lk') lk' ob) :
    HRel w' base (EV.upd L s lk') ((H.set id .dead).set s ob) ∧ Ext base s m w L H w' (EV.upd L s lk') ((H.set id .dead).set s ob) := by
  have hid := live_lt hlv
  have hne : id ≠ s := fun e => by rw [e, hL] at hl; cases hl
  have hLs : ∀ j, j ≠ s → EV.upd L s lk' j = L j := fun j hj => by simp [EV.upd, hj]
  have hLss : EV.upd L s lk' s = some lk' := by simp [EV.upd]
  have hobs : obj ((H.set id .dead).set s ob) s = ob := by rw [obj_set, if_pos ⟨rfl, by simpa using hs⟩]
  have hobj : ∀ j, j ≠ s → j ≠ id → obj ((H.set id .dead).set s ob) j = obj H j := fun j h1 h2 => by
    rw [obj_set, if_neg (by omega), obj_set, if_neg (by omega)]
  have hdead : live (obj ((H.set id .dead).set s ob) id) = false := by
    rw [obj_set, if_neg (by omega), obj_set, if_pos ⟨rfl, hid⟩]; rfl
  have hle : LkLe L (EV.upd L s lk') := fun j lk1 hj => by
    have : j ≠ s := fun e => by rw [e, hL] at hj; cases hj
    rw [hLs j this]; exact hj
  have hok : ∀ b1, okW w L H b1 → okW w' (EV.upd L s lk') ((H.set id .dead).set s ob) b1 ∧ w'.heap[b1]? = w.heap[b1]? := by
    intro b1 h1
    have hnb : b1 ≠ b := fun e => h1.2 ⟨id, lk, hlv, hl, by rw [hb, e]⟩
    refine ⟨⟨by rw [hsz]; exact h1.1, fun ⟨j, lk1, g1, g2, g3⟩ => ?_, h1.nh⟩, hw b1 hnb⟩
    by_cases e : j = s
    · subst e
      rw [hLss] at g2; cases g2
      rw [hb'] at g3; cases g3
      exact hnb rfl
    · by_cases e' : j = id
      · subst e'; rw [hdead] at g1; cases g1
      · rw [hobj j e e'] at g1
        rw [hLs j e] at g2
        exact h1.2 ⟨j, lk1, g1, g2, g3⟩
  have hlive : ∀ j, j ≠ s → live (obj ((H.set id .dead).set s ob) j) = true → j ≠ id ∧ live (obj H j) = true := fun j h1 h2 => by
    by_cases e' : j = id
    · subst e'; rw [hdead] at h2; cases h2
    · rw [hobj j h1 e'] at h2; exact ⟨e', h2⟩
  refine ⟨⟨fun j hj => ?_, fun j lk1 b1 hj h1 h2 => ?_, fun j j' lk1 lk2 b1 hj hj' h1 h2 h3 h4 => ?_, fun j hj => ?_, fun j lk1 b1 hj h1 h2 => ?_, fun b1 h1 => by rw [hsz]; exact hH.hlt b1 h1⟩, hle, fun j hj => hLs j (by omega), by simp, hok, hbel, rfl, fun b1 h1 _ => hw b1 fun e => hH.nh id lk b hlv hl hb (e ▸ .inl h1)⟩
  · by_cases e : j = s
    · subst e
      rw [hobs]
      exact ⟨lk', hLss, hob _ hok⟩
    · obtain ⟨h1, h2⟩ := hlive j e hj
      rw [hobj j e h1]
      obtain ⟨lk1, g1, g2⟩ := hH.ob j h2
      refine ⟨lk1, by rw [hLs j e]; exact g1, g2.lift hok hle (fun b1 hb1 => hw b1 fun eb => h1 ?_) (fun _ x _ _ h h' => ⟨h, h', hw x fun eb => hH.nh id lk b hlv hl hb (eb ▸ Lks.hid_lin h)⟩)⟩
      exact hH.inj j id lk1 lk b h2 hlv g1 hl (by rw [hb1, eb]) hb
  · rw [hsz]
    by_cases e : j = s
    · subst e
      rw [hLss] at h1; cases h1
      rw [hb'] at h2; cases h2
      exact hH.rng id lk b hlv hl hb
    · obtain ⟨g1, g2⟩ := hlive j e hj
      rw [hLs j e] at h1
      exact hH.rng j lk1 b1 g2 h1 h2
  · by_cases e : j = s
    · by_cases e' : j' = s
      · omega
      · exfalso
        subst e
        rw [hLss] at h1; cases h1
        rw [hb'] at h3; cases h3
        obtain ⟨g1, g2⟩ := hlive j' e' hj'
        rw [hLs j' e'] at h2
        exact g1 (hH.inj j' id lk2 lk b g2 hlv h2 hl h4 hb)
    · obtain ⟨q1, q2⟩ := hlive j e hj
      rw [hLs j e] at h1
      by_cases e' : j' = s
      · exfalso
        subst e'
        rw [hLss] at h2; cases h2
        rw [hb'] at h4; cases h4
        exact q1 (hH.inj j id lk1 lk b q2 hlv h1 hl h3 hb)
      · obtain ⟨g1, g2⟩ := hlive j' e' hj'
        rw [hLs j' e'] at h2
        exact hH.inj j j' lk1 lk2 b1 q2 g2 h1 h2 h3 h4
  · have : j ≠ s := by simp at hj; omega
    rw [hLs j this]
    exact hH.out j (by simpa using hj)
  · by_cases e : j = s
    · subst e
      rw [hLss] at h1; cases h1
      rw [hb'] at h2; cases h2
      exact hH.nh id lk b hlv hl hb
    · obtain ⟨g1, g2⟩ := hlive j e hj
      rw [hLs j e] at h1
      exact hH.nh j lk1 b1 g2 h1 h2

/-- A nil slice of one's own. -/
theorem HRel.newNil (hH : HRel w base L H) (hs : s < H.length) (hm : 0 < m) (hL : L s = none) {sz : Nat} (hsz : 0 < sz) :
    HRel w base (EV.upd L s ⟨none, sz, 0, 0⟩) (H.set s (.row false sz [])) ∧ Ext base s m w L H w (EV.upd L s ⟨none, sz, 0, 0⟩) (H.set s (.row false sz [])) := by
  have hLs : ∀ j, j ≠ s → EV.upd L s ⟨none, sz, 0, 0⟩ j = L j := fun j hj => by simp [EV.upd, hj]
  have hLss : EV.upd L s ⟨none, sz, 0, 0⟩ s = some ⟨none, sz, 0, 0⟩ := by simp [EV.upd]
  have hobj : ∀ j, j ≠ s → obj (H.set s (.row false sz [])) j = obj H j := fun j h1 => by rw [obj_set, if_neg (by omega)]
  have hobs : obj (H.set s (.row false sz [])) s = .row false sz [] := by rw [obj_set, if_pos ⟨rfl, hs⟩]
  have hle : LkLe L (EV.upd L s ⟨none, sz, 0, 0⟩) := fun j lk1 hj => by
    have : j ≠ s := fun e => by rw [e, hL] at hj; cases hj
    rw [hLs j this]; exact hj
  have hok : ∀ b1, okW w L H b1 → okW w (EV.upd L s ⟨none, sz, 0, 0⟩) (H.set s (.row false sz [])) b1 ∧ w.heap[b1]? = w.heap[b1]? := by
    intro b1 h1
    refine ⟨⟨h1.1, fun ⟨j, lk1, g1, g2, g3⟩ => ?_, h1.nh⟩, rfl⟩
    by_cases e : j = s
    · subst e
      rw [hLss] at g2; cases g2
      cases g3
    · rw [hobj j e] at g1
      rw [hLs j e] at g2
      exact h1.2 ⟨j, lk1, g1, g2, g3⟩
  refine ⟨⟨fun j hj => ?_, fun j lk1 b1 hj h1 h2 => ?_, fun j j' lk1 lk2 b1 hj hj' h1 h2 h3 h4 => ?_, fun j hj => ?_, fun j lk1 b1 hj h1 h2 => ?_, hH.hlt⟩, hle, fun j hj => hLs j (by omega), by simp, hok, Below.refl .., rfl, fun _ _ _ => rfl⟩
  · by_cases e : j = s
    · subst e
      rw [hobs]
      exact ⟨_, hLss, rfl, rfl, hsz, rfl, rfl, rfl⟩
    · rw [hobj j e] at hj ⊢
      obtain ⟨lk1, g1, g2⟩ := hH.ob j hj
      exact ⟨lk1, by rw [hLs j e]; exact g1, g2.lift hok hle (fun b1 hb1 => rfl) (fun _ _ _ _ h h' => ⟨h, h', rfl⟩)⟩
  · by_cases e : j = s
    · subst e
      rw [hLss] at h1; cases h1
      cases h2
    · rw [hobj j e] at hj
      rw [hLs j e] at h1
      exact hH.rng j lk1 b1 hj h1 h2
  · by_cases e : j = s
    · subst e
      rw [hLss] at h1; cases h1
      cases h3
    · by_cases e' : j' = s
      · subst e'
        rw [hLss] at h2; cases h2
        cases h4
      · rw [hobj j e] at hj
        rw [hobj j' e'] at hj'
        rw [hLs j e] at h1
        rw [hLs j' e'] at h2
        exact hH.inj j j' lk1 lk2 b1 hj hj' h1 h2 h3 h4
  · have : j ≠ s := by simp at hj; omega
    rw [hLs j this]
    exact hH.out j (by simpa using hj)
  · by_cases e : j = s
    · subst e
      rw [hLss] at h1; cases h1
      cases h2
    · rw [hobj j e] at hj
      rw [hLs j e] at h1
      exact hH.nh j lk1 b1 hj h1 h2

/-! ### The rows that a slice shows -/
theorem rows_ok (hH : HRel w base L H) {y : V} {vy : Value} (hy : VRel w (okW w L H) base L y vy) {k : Bool → Nat → List (List D) → HM V}
    (h : ∀ fr sz ys a c, vy = .slice a ys.length c → (ys ≠ [] → ∃ (b off : Nat) (cv : Nat → Nat → Value), a = some ⟨b, off, none⟩ ∧ (∀ i j, i < ys.length → j < sz → w.cell? ⟨b, off + i * sz + j, none⟩ = some (cv i j)) ∧ ∀ i j, i < ys.length → j < sz → CRel w (okS (okW w L H) base fr) (cellD ys i j) (cv i j)) →
      OpOk P base s m w L H (k fr sz ys) sm) : OpOk P base s m w L H (rowsOf y k) sm := by
  unfold rowsOf
  split
  · rename_i fr sz es
    cases hy with
    | one _ _ _ hd =>
    cases hd with
    | sl0 _ a c => exact h fr sz [] a c rfl (fun e => absurd rfl e)
    | sl _ _ b off c cv hok hc g1 g2 => exact h fr sz es _ c rfl (fun _ => ⟨b, off, cv, rfl, g1, g2⟩)
  · rename_i sz
    cases hy with
    | nils => exact h true sz [] none 0 rfl (fun e => absurd rfl e)
  · rename_i id
    refine .get ?_
    cases e : obj H id with
    | row arr sz es =>
      cases hy with
      | rw _ lk hl =>
        obtain ⟨g1, g2, g3, g4⟩ := hH.row e hl
        rw [g2] at h
        refine h true sz es _ _ rfl fun hne => ?_
        cases eb : lk.b with
        | none => rw [eb] at g4; exact absurd g4.1 hne
        | some b =>
          rw [eb] at g4
          refine ⟨b, 0, fun i j => cellV w b (i * sz + j), rfl, fun i j hi hj => ?_, fun i j hi hj => ?_⟩
          · obtain ⟨v, e1, e2⟩ := row_cell g4 hi hj
            rw [Nat.zero_add]; exact (cellV_of e1).1
          · obtain ⟨v, e1, e2⟩ := row_cell g4 hi hj
            dsimp only; rw [(cellV_of e1).2]; exact e2
    | _ => exact .fail
  · rename_i id off len
    refine .get ?_
    cases e : obj H id with
    | row arr sz es =>
      cases hy with
      | rs _ _ _ lk a c hl hn hc ha ha0 hcc =>
        obtain ⟨g1, g2, g3, g4⟩ := hH.row e hl
        have hlen : ((es.drop off).take len).length = len := by simp; omega
        refine h true sz ((es.drop off).take len) a c (by rw [hlen]) fun hne => ?_
        have hp : 0 < len := by rw [← hlen]; exact List.length_pos_iff.2 hne
        obtain ⟨b, eb, rfl⟩ := ha hp
        rw [eb] at g4
        have hg : ∀ i j, i < len → cellD ((es.drop off).take len) i j = cellD es (off + i) j := by
          intro i j hi
          unfold cellD
          congr 1
          rw [getD_of_lt (by omega), getD_of_lt (by omega)]
          simp
        refine ⟨b, off * lk.sz, fun i j => cellV w b ((off + i) * sz + j), rfl, fun i j hi hj => ?_, fun i j hi hj => ?_⟩
        · rw [hlen] at hi
          obtain ⟨v, e1, e2⟩ := row_cell g4 (by omega : off + i < es.length) hj
          rw [g1, ← Nat.add_mul]; exact (cellV_of e1).1
        · rw [hlen] at hi
          rw [hg i j hi]
          obtain ⟨v, e1, e2⟩ := row_cell g4 (by omega : off + i < es.length) hj
          dsimp only; rw [(cellV_of e1).2]; exact e2
    | _ => exact .fail
  · exact .fail
end
end Go.Proofs.EV
set_option linter.unusedVariables false
set_option linter.unusedSimpArgs false
set_option linter.unusedSectionVars false
namespace Go.Proofs.EV
open Go Go.RowKit
variable [Dr]

section
variable {P : Program} {base s m : Nat} {w : World} {L : Lks} {H : List Ob} {C : Cfg} {sm : Sem Value}

theorem divmod {n sz q : Nat} (h : q < n * sz) : 0 < sz ∧ q / sz < n ∧ q % sz < sz ∧ q / sz * sz + q % sz = q := by
  have hsz : 0 < sz := by
    rcases Nat.eq_zero_or_pos sz with h0 | h0
    · rw [h0] at h; simp at h
    · exact h0
  refine ⟨hsz, by rw [Nat.div_lt_iff_lt_mul hsz]; exact h, Nat.mod_lt _ hsz, by rw [Nat.mul_comm]; exact Nat.div_add_mod q sz⟩
theorem mul_lt {n sz i j : Nat} (hi : i < n) (hj : j < sz) : i * sz + j < n * sz := by
  have : (i + 1) * sz ≤ n * sz := Nat.mul_le_mul_right _ hi
  rw [Nat.add_mul] at this; omega

/-- The cells that an append takes over. -/
structure News (P : Program) (w : World) (ok : Nat → Prop) (sz : Nat) (vy : Value) (ys : List (List D)) (news : List Value) : Prop where
  len : news.length = ys.length * sz
  n : (Builtin.lenOf vy).run P w = .ok ys.length w
  n' : ∀ w1 : World, (Builtin.lenOf vy).run P w1 = .ok ys.length w1
  run : ∀ w1 : World, w1.heap = w.heap → (Builtin.firstCells sz ys.length vy).run P w1 = .ok news.toArray w1
  rel : ∀ i j, i < ys.length → j < sz → CRel w ok (cellD ys i j) (news.getD (i * sz + j) undef)

theorem News.one {ok : Nat → Prop} {sz : Nat} {vy : Value} {ys : List (List D)} {news : List Value} (h : News P w ok sz vy ys news) : ∀ v ∈ news, v.oneCell' = true := by
  intro v hv
  obtain ⟨q, hq, rfl⟩ := List.getElem_of_mem hv
  rw [h.len] at hq
  obtain ⟨h1, h2, h3, h4⟩ := divmod hq
  have := (h.rel _ _ h2 h3).one
  rw [h4, getD_of_lt (by rw [h.len]; exact hq)] at this
  exact this

theorem news_rows {ok : Nat → Prop} {sz : Nat} {ys : List (List D)} {a : Option Addr} {c : Nat}
    (h : ys ≠ [] → ∃ (b off : Nat) (cv : Nat → Nat → Value), a = some ⟨b, off, none⟩ ∧ (∀ i j, i < ys.length → j < sz → w.cell? ⟨b, off + i * sz + j, none⟩ = some (cv i j)) ∧ ∀ i j, i < ys.length → j < sz → CRel w ok (cellD ys i j) (cv i j)) :
    ∃ news, News P w ok sz (.slice a ys.length c) ys news := by
  have hn : ∀ w1 : World, (Builtin.lenOf (.slice a ys.length c)).run P w1 = .ok ys.length w1 := fun w1 => rfl
  by_cases hy : ys = []
  · subst hy
    refine ⟨[], by simp, hn w, hn, fun w1 _ => ?_, fun i j hi => by simp at hi⟩
    cases a with
    | none => rfl
    | some a => simpa [Builtin.firstCells] using run_loadCells_list (P := P) w1 a [] (by simp)
  · obtain ⟨b, off, cv, rfl, h1, h2⟩ := h hy
    have hget : ∀ q, q < ys.length * sz → w.cell? ⟨b, off + q, none⟩ = some (cv (q / sz) (q % sz)) := by
      intro q hq
      obtain ⟨k1, k2, k3, k4⟩ := divmod hq
      have := h1 _ _ k2 k3
      rwa [Nat.add_assoc, k4] at this
    refine ⟨(List.range (ys.length * sz)).map fun q => cv (q / sz) (q % sz), by simp, hn w, hn, fun w1 hw => ?_, fun i j hi hj => ?_⟩
    · simp only [Builtin.firstCells]
      exact run_loadCells w1 _ _ _ (fun q hq => by rw [add_plain]; simp only [World.cell?, hw]; exact hget q hq)
    · have hlt := mul_lt hi hj
      rw [getD_of_lt (by simpa using hlt)]
      simp only [List.getElem_map, List.getElem_range]
      have hsz : 0 < sz := by omega
      rw [show (i * sz + j) / sz = i by rw [Nat.mul_comm, Nat.mul_add_div hsz, Nat.div_eq_of_lt hj, Nat.add_zero], show (i * sz + j) % sz = j by rw [Nat.mul_comm, Nat.mul_add_mod, Nat.mod_eq_of_lt hj]]
      exact h2 i j hi hj

theorem news_str {ok : Nat → Prop} (str : ByteArray) : News P w ok 1 (.string str) (strRow str) (str.data.toList.map fun b => Value.int .u8 b.toNat) := by
  have hl : (strRow str).length = str.size := by simp [strRow]
  have hx : (str.extract 0 str.size).data = str.data := by
    rw [ByteArray.data_extract, show str.size = str.data.size from rfl, Array.extract_size]
  refine ⟨by simp [strRow], by rw [hl]; rfl, fun w1 => by rw [hl]; rfl, fun w1 _ => ?_, fun i j hi hj => ?_⟩
  · rw [hl]
    simp only [Builtin.firstCells, hx]
    show Result.ok _ _ = _
    congr 1
    apply Array.ext'
    simp
  · have : j = 0 := by omega
    subst this
    have hi' : i < str.data.toList.length := by simpa [strRow] using hi
    have e1 : cellD (strRow str) i 0 = .int .u8 (str.data.toList[i]).toNat := by
      unfold cellD
      rw [getD_of_lt hi]
      simp [strRow]
    rw [e1, getD_of_lt (by simpa using hi')]
    simp only [Nat.mul_one, Nat.add_zero, List.getElem_map]
    exact .int _ _

theorem app_room {T e yt ty : TypeId} {i : TypeInfo} {d : TypeDesc} {ts : Array TypeId} (h0 : ts[0]? = some T) (h1 : ts[1]? = some yt) (ht : P.underlying T = some (.slice e)) (hy : P.underlying yt = some d) (hd : d = .string ∨ ∃ e', d = .slice e')
    (hi : P.info? e = some i) {bs : Option Addr} {n cap : Nat} {vy : Value} {ok : Nat → Prop} {ys : List (List D)} {news : List Value} (hn : News P w ok i.size vy ys news) (hr : n + ys.length ≤ cap) :
    (Builtin.append_ ts ty #[.slice bs n cap, vy]).run P w = ((match bs with | some a => storeCells (a.add (n * i.size)) news | none => pure ()) >>= fun _ => pure (.slice bs (n + ys.length) cap) : Sem Value).run P w := by
  have h2 := hn.n
  have h3 := hn.run w rfl
  rcases hd with rfl | ⟨e', rfl⟩ <;> (cases bs <;> simp [Builtin.append_, h0, h1, run_underlying ht, run_underlying hy, sizeOf, typeInfo, hi, h2, h3, hr])

theorem app_grow {T e yt ty : TypeId} {i : TypeInfo} {z : Value} {d : TypeDesc} {ts : Array TypeId} (h0 : ts[0]? = some T) (h1 : ts[1]? = some yt) (ht : P.underlying T = some (.slice e)) (hy : P.underlying yt = some d) (hd : d = .string ∨ ∃ e', d = .slice e')
    (hi : P.info? e = some i) (hz : i.zero = some z) (hb : i.bytes ≤ 8192) {bs : Option Addr} {n cap : Nat} {vy : Value} {ok : Nat → Prop} {ys : List (List D)} {news olds : List Value} (hn : News P w ok i.size vy ys news) (hr : cap < n + ys.length) (hl : n + ys.length ≤ LIM)
    (ho : (Builtin.firstCells i.size n (.slice bs n cap)).run P w.drew = .ok olds.toArray w.drew) :
    (Builtin.append_ ts ty #[.slice bs n cap, vy]).run P w = .ok (.slice (some ⟨w.heap.size, 0, none⟩) (n + ys.length) (grownCap w (n + ys.length) cap e)) (w.drew.alloc (.cells (olds.toArray ++ news.toArray ++ Builtin.zeroCells z.cells (grownCap w (n + ys.length) cap e - (n + ys.length))) e)) := by
  have h2 := hn.n
  have h3 := hn.run w.drew rfl
  have hl' : n + ys.length ≤ 17179869184 := hl
  have hn' : ¬ (n + ys.length ≤ cap) := by omega
  have h63' : ¬ (9223372036854775807 < ((n : Int) + (ys.length : Int))) := by omega
  have hfit : (n + ys.length) * i.bytes ≤ 140737488355328 := by
    have : (n + ys.length) * i.bytes ≤ 17179869184 * 8192 := Nat.mul_le_mul hl' hb
    omega
  have h48' : ¬ (281474976710656 < Builtin.nextslicecap (n + ys.length) cap * i.bytes) := by
    have := growslice_fits hr hfit
    omega
  rcases hd with rfl | ⟨e', rfl⟩ <;> (simp [Builtin.append_, h0, h1, run_underlying ht, run_underlying hy, sizeOf, typeInfo, zeroValue, hi, hz, h2, h3, hn', h63', h48', Question.forced, ho, newRow, grownCap]; congr 2; apply Array.ext'; simp [List.append_assoc])
theorem le_grownCap (w : World) {need old : Nat} (h : need ≤ LIM) (e : TypeId) : need ≤ grownCap w need old e := by
  simp only [grownCap, Question.cut]
  omega
end
end Go.Proofs.EV
set_option linter.unusedVariables false
set_option linter.unusedSimpArgs false
set_option linter.unusedSectionVars false
namespace Go.Proofs.EV
open Go Go.RowKit
variable [Dr]

section
variable {P : Program} {base s m : Nat} {w : World} {L : Lks} {H : List Ob} {C : Cfg} {sm : Sem Value}

theorem cellD_append (es ys : List (List D)) (i j : Nat) : cellD (es ++ ys) i j = if i < es.length then cellD es i j else cellD ys (i - es.length) j := by
  unfold cellD
  by_cases h : i < es.length
  · rw [if_pos h]
    congr 1
    simp [List.getD_eq_getElem?_getD, List.getElem?_append_left h]
  · rw [if_neg h]
    congr 1
    simp [List.getD_eq_getElem?_getD, List.getElem?_append_right (Nat.le_of_not_lt h)]

theorem VRel.rw_of {ok : Nat → Prop} {id : Nat} {lk : Lk} {v : Value} (hl : L id = some lk) (hv : v = .slice (lk.b.map fun b => ⟨b, 0, none⟩) lk.n lk.cap) : VRel w ok base L (.rw id) v := hv ▸ .rw id lk hl

theorem News.mono {ok ok' : Nat → Prop} (h : ∀ b, ok b → ok' b) {sz : Nat} {vy : Value} {ys : List (List D)} {news : List Value} (hn : News P w ok sz vy ys news) : News P w ok' sz vy ys news :=
  ⟨hn.len, hn.n, hn.n', hn.run, fun i j hi hj => (hn.rel i j hi hj).mono h⟩

theorem zeroCells_size {z : Array Value} (n : Nat) : (Builtin.zeroCells z n).size = n * z.size := by simp [Builtin.zeroCells]

/-- The grown row. -/
theorem grown_ok (hH : HRel w base L H) (hs : s < H.length) (hm : 0 < m) (hL : L s = none) (hb : base ≤ w.heap.size) {sz : Nat} (hsz : 0 < sz) {es ys : List (List D)} {olds news : List Value} {vy : Value}
    (hlo : olds.length = es.length * sz) (hro : ∀ i j, i < es.length → j < sz → CRel w (okS (okW w L H) base true) (cellD es i j) (olds.getD (i * sz + j) undef))
    (hn : News P w (okS (okW w L H) base true) sz vy ys news) {z : Array Value} (hz : z.size = sz) (cap : Nat) (hcap : es.length + ys.length ≤ cap) (e : TypeId) :
    HRel (w.drew.alloc (.cells (olds.toArray ++ news.toArray ++ Builtin.zeroCells z (cap - (es.length + ys.length))) e)) base (upd L s ⟨some w.heap.size, sz, cap, (es ++ ys).length⟩) (H.set s (.row false sz (es ++ ys))) ∧
    Ext base s m w L H (w.drew.alloc (.cells (olds.toArray ++ news.toArray ++ Builtin.zeroCells z (cap - (es.length + ys.length))) e)) (upd L s ⟨some w.heap.size, sz, cap, (es ++ ys).length⟩) (H.set s (.row false sz (es ++ ys))) := by
  refine newRow_ok hH hs hm hL hb rfl (((Below.refl base w).drew).alloc hb _) false hsz ?_ (by simp; exact hcap) fun i j hi hj => ?_
  · simp [hlo, hn.len, zeroCells_size, hz, ← Nat.add_mul]; congr 1; omega
  · rw [cellD_append]
    have hi' : i < es.length + ys.length := by simpa using hi
    by_cases h : i < es.length
    · rw [if_pos h]
      have hlt := mul_lt (n := es.length) h hj
      have := hro i j h hj
      rw [getD_of_lt (by omega)] at this
      refine ⟨_, ?_, this⟩
      rw [Array.getElem?_append_left (by simp; omega), Array.getElem?_append_left (by simp; omega)]
      simp [hlo, hlt]
    · rw [if_neg h]
      have hlt := mul_lt (n := ys.length) (i := i - es.length) (by omega) hj
      have := hn.rel (i - es.length) j (by omega) hj
      rw [getD_of_lt (by rw [hn.len]; exact hlt)] at this
      refine ⟨_, ?_, this⟩
      have hle : es.length * sz ≤ i * sz := Nat.mul_le_mul_right _ (by omega)
      have hsub : i * sz + j - es.length * sz = (i - es.length) * sz + j := by rw [Nat.sub_mul]; omega
      rw [Array.getElem?_append_left (by simp [hlo, hn.len]; omega), Array.getElem?_append_right (by simp [hlo]; omega)]
      simp only [List.size_toArray, hlo, hsub]
      simp [hn.len, hlt]

theorem fin_ok (hH : HRel w base L H) (hC : CfgOk P C) (hs : s < H.length) (hm : 0 < m) (hL : L s = none) (hb : base ≤ w.heap.size) {T e yt ty : TypeId} {ts : Array TypeId} (h0 : ts[0]? = some T) (h1 : ts[1]? = some yt)
    (hk : (C.ty T).k = .slice e) (hsz : (C.ty e).size ≠ 0) {d : TypeDesc} (hy : P.underlying yt = some d) (hd : d = .string ∨ ∃ e', d = .slice e') {vy : Value} {ys : List (List D)} {news : List Value}
    (hn : News P w (okS (okW w L H) base true) (C.ty e).size vy ys news) :
    OpOk P base s m w L H (.gd (decide (([] : List (List D)).length + ys.length ≤ LIM)) (.put s (.row false (C.ty e).size ([] ++ ys)) (.ret (.rw s)))) (Builtin.append_ ts ty #[.slice none 0 0, vy]) ∧
    ∀ id es lk, obj H id = .row false (C.ty e).size es → L id = some lk →
      OpOk P base s m w L H (.gd (decide (es.length + ys.length ≤ LIM)) (.put id .dead (.put s (.row false (C.ty e).size (es ++ ys)) (.ret (.rw s))))) (Builtin.append_ ts ty #[.slice (lk.b.map fun b => ⟨b, 0, none⟩) lk.n lk.cap, vy]) := by
  have hu := ((hC T).1 (by rw [hk]; trivial)).k
  rw [hk] at hu
  have hTe := (hC e).1 (known_of_pos hC hsz)
  obtain ⟨i, z, i1, i2, i3, i4, i5, i6, _⟩ := hTe.i
  have hzs : z.cells.size = (C.ty e).size := by rw [← Array.length_toList, i5]; simp [i6]
  have hpos : 0 < (C.ty e).size := by omega
  rw [← i2] at hn ⊢
  rw [← i2] at hpos hzs
  constructor
  · refine .gd fun hle => ?_
    have hle := of_decide_eq_true hle
    simp only [List.length_nil, Nat.zero_add] at hle
    by_cases hy0 : ys = []
    · subst hy0
      have hrun := app_room (ty := ty) h0 h1 hu hy hd i1 (bs := none) (n := 0) (cap := 0) hn (Nat.zero_le 0)
      simp only [List.length_nil, Nat.add_zero] at hrun
      have key := HRel.newNil (s := s) (m := m) hH hs hm hL hpos
      exact .made (hrun.trans (by rfl)) key.1 key.2 (.rw_of upd_s rfl) (fun _ _ => rfl)
    · have hp : 0 < ys.length := List.length_pos_iff.2 hy0
      have hrun := app_grow (ty := ty) h0 h1 hu hy hd i1 i4 i3 (bs := none) (n := 0) (cap := 0) hn (by omega) (by omega) (olds := []) rfl
      have key := grown_ok (P := P) (s := s) (m := m) hH hs hm hL hb hpos (es := []) (olds := []) (by simp) (fun i j hi => by simp at hi) hn hzs (grownCap w (0 + ys.length) 0 e) (by simpa using le_grownCap w (by omega) e) e
      exact .made hrun key.1 key.2 (.rw_of upd_s (by simp)) (fun _ _ => rfl)
  · intro id es lk eo hl
    refine .gd fun hle => ?_
    have hle := of_decide_eq_true hle
    obtain ⟨g1, g2, g3, g4⟩ := hH.row eo hl
    have hlv : live (obj H id) = true := by rw [eo]; rfl
    by_cases hroom : lk.n + ys.length ≤ lk.cap
    · have hrun := app_room (ty := ty) h0 h1 hu hy hd i1 (bs := lk.b.map fun b => ⟨b, 0, none⟩) (n := lk.n) (cap := lk.cap) hn hroom
      cases eb : lk.b with
      | none =>
        rw [eb] at g4
        obtain ⟨q1, q2, q3⟩ := g4
        subst q1
        have hy0 : ys = [] := List.length_eq_zero_iff.1 (by omega)
        subst hy0
        have hkill := hH.kill (s := s) (m := m) id
        have key := HRel.newNil (s := s) (m := m) hkill.1 (by simpa using hs) hm hL hpos
        rw [eb, q3, g2] at hrun
        rw [q3, g2]
        exact .made (hrun.trans (by rfl)) key.1 (hkill.2.trans key.2) (.rw_of upd_s rfl) (fun _ _ => rfl)
      | some b =>
        rw [eb] at g4
        obtain ⟨cs, TT, fr, q1, q2, q3, q4, q5⟩ := g4
        have hsplit : es.length * i.size + news.length ≤ cs.size := by
          rw [hn.len, ← Nat.add_mul]; exact Nat.le_trans (Nat.mul_le_mul_right _ (by omega)) q2
        have hst := run_storeCells_cells (P := P) b (lk.n * i.size) news 0 w (fun j hj => by
          have : lk.n * i.size + 0 + j < cs.size := by rw [g2]; omega
          simp [World.cell?, q1, this]; omega) (fun j hj => q4 _ (by rw [g2]; omega)) hn.one
        have hbase := (hH.rng id lk b hlv hl eb).1
        have key := HRel.move (s := s) (m := m) hH hl eb hlv hs hm hL (w' := w.setCells b (lk.n * i.size) news) (setCells_size ..) (fun b' hb' => setCells_other _ _ _ _ _ hb') (setCells_below _ _ _ _ _ hbase) (lk' := ⟨some b, i.size, lk.cap, (es ++ ys).length⟩) rfl (ob := .row false i.size (es ++ ys)) rfl
          (fun ok' hok => ⟨rfl, rfl, hpos, setL cs (lk.n * i.size) news, TT, fr, setCells_heap _ _ _ _ _ _ _ q1, by rw [setL_size]; exact q2, by simp; omega, fun o ho => by rw [World.frozen?_setCells]; exact q4 o (by rwa [setL_size] at ho), fun i' j hi hj => by
            rw [cellD_append]
            have hi' : i' < es.length + ys.length := by simpa using hi
            by_cases h : i' < es.length
            · rw [if_pos h]
              have hlt := mul_lt (n := es.length) h hj
              obtain ⟨v, e1, e2⟩ := q5 i' j h hj
              exact ⟨v, by rw [setL_out _ _ _ _ (by rw [g2]; omega)]; exact e1, e2.lift (okS_lift hok base true)⟩
            · rw [if_neg h]
              have hlt := mul_lt (n := ys.length) (i := i' - es.length) (by omega) hj
              have := hn.rel (i' - es.length) j (by omega) hj
              rw [getD_of_lt (by rw [hn.len]; exact hlt)] at this
              refine ⟨_, ?_, this.lift (okS_lift hok base true)⟩
              have hle' : es.length * i.size ≤ i' * i.size := Nat.mul_le_mul_right _ (by omega)
              have hsub : i' * i.size + j = lk.n * i.size + ((i' - es.length) * i.size + j) := by rw [Nat.sub_mul, g2]; omega
              rw [hsub, setL_in _ _ _ _ (by rw [hn.len]; exact hlt) (by rw [g2]; exact hsplit)]
              rw [List.getElem?_eq_getElem (by rw [hn.len]; exact hlt)]⟩)
        rw [eb] at hrun
        refine .made (hrun.trans ?_) key.1 key.2 (.rw_of upd_s (v := .slice (some ⟨b, 0, none⟩) (lk.n + ys.length) lk.cap) (by simp [g2])) (fun _ _ => rfl)
        · simp only [Option.map_some, add_plain, Nat.zero_add, Sem.run_bind]
          rw [show (storeCells ⟨b, lk.n * i.size, none⟩ news).run P w = .ok () (w.setCells b (lk.n * i.size) news) from by
            have := run_storeCells_cells (P := P) b (lk.n * i.size) news 0 w (fun j hj => by
              have : lk.n * i.size + 0 + j < cs.size := by rw [g2]; omega
              simp [World.cell?, q1, this]; omega) (fun j hj => q4 _ (by rw [g2]; omega)) hn.one
            simpa using this]
          rfl
    · have hkill := hH.kill (s := s) (m := m) id
      have holds : ∃ olds : List Value, olds.length = es.length * i.size ∧ (Builtin.firstCells i.size lk.n (.slice (lk.b.map fun b => ⟨b, 0, none⟩) lk.n lk.cap)).run P w.drew = .ok olds.toArray w.drew ∧ ∀ i' j, i' < es.length → j < i.size → CRel w (okS (okW w L H) base true) (cellD es i' j) (olds.getD (i' * i.size + j) undef) := by
        cases eb : lk.b with
        | none =>
          rw [eb] at g4
          refine ⟨[], by rw [g4.1]; simp, rfl, fun i' j hi => by rw [g4.1] at hi; simp at hi⟩
        | some b =>
          rw [eb] at g4
          have := news_rows (P := P) (w := w) (ok := okS (okW w L H) base true) (sz := i.size) (ys := es) (a := some ⟨b, 0, none⟩) (c := lk.cap) (fun _ => ⟨b, 0, fun i' j => cellV w b (i' * i.size + j), rfl, fun i' j hi hj => by
            obtain ⟨v, e1, e2⟩ := row_cell g4 hi hj
            rw [Nat.zero_add]; exact (cellV_of e1).1, fun i' j hi hj => by
            obtain ⟨v, e1, e2⟩ := row_cell g4 hi hj
            dsimp only; rw [(cellV_of e1).2]; exact e2⟩)
          obtain ⟨olds, ho⟩ := this
          refine ⟨olds, ho.len, ?_, ho.rel⟩
          rw [g2]
          exact ho.run w.drew rfl
      obtain ⟨olds, o1, o2, o3⟩ := holds
      have hrun := app_grow (ty := ty) h0 h1 hu hy hd i1 i4 i3 (bs := lk.b.map fun b => ⟨b, 0, none⟩) (n := lk.n) (cap := lk.cap) hn (by omega) (by rw [g2]; exact hle) o2
      rw [g2] at hrun
      have hmono : ∀ b, okS (okW w L H) base true b → okS (okW w L (H.set id .dead)) base true b := fun b hb => ⟨okW_kill hb.1, hb.2⟩
      have key := grown_ok (P := P) (s := s) (m := m) hkill.1 (by simpa using hs) hm hL hb hpos (es := es) (olds := olds) o1 (fun i' j hi hj => (o3 i' j hi hj).mono hmono) (hn.mono hmono) hzs (grownCap w (es.length + ys.length) lk.cap e) (le_grownCap w hle e) e
      rw [g2]
      exact .made hrun key.1 (hkill.2.trans key.2) (.rw_of upd_s (by simp)) (fun _ _ => rfl)
end
end Go.Proofs.EV
set_option linter.unusedVariables false
set_option linter.unusedSimpArgs false
set_option linter.unusedSectionVars false
namespace Go.Proofs.EV
open Go Go.RowKit
variable [Dr]

section
variable {P : Program} {base s m : Nat} {w : World} {L : Lks} {H : List Ob} {C : Cfg} {sm : Sem Value}

theorem all_scalar {ok ok' : Nat → Prop} {ys : List (List D)} (h : ys.all (fun r => r.all scalar) = true) {i j : Nat} {v : Value} (hr : CRel w ok (cellD ys i j) v) : CRel w ok' (cellD ys i j) v := by
  refine hr.scalar ?_
  unfold cellD
  by_cases hi : i < ys.length
  · rw [getD_of_lt hi]
    have h1 := List.all_eq_true.1 h _ (List.getElem_mem hi)
    by_cases hj : j < (ys[i]).length
    · rw [getD_of_lt hj]
      exact List.all_eq_true.1 h1 _ (List.getElem_mem hj)
    · rw [List.getD_eq_getElem?_getD, List.getElem?_eq_none (Nat.le_of_not_lt hj)]; rfl
  · rw [List.getD_eq_getElem?_getD (l := ys), List.getElem?_eq_none (Nat.le_of_not_lt hi)]; rfl

theorem append_ok (hH : HRel w base L H) (hC : CfgOk P C) (hs : s < H.length) (hm : 0 < m) (hL : L s = none) (hb : base ≤ w.heap.size) (ts : Array TypeId) (ty : TypeId) (ht : 1 < ts.size)
    {x y : V} {vx vy : Value} (hx : VRel w (okW w L H) base L x vx) (hy : VRel w (okW w L H) base L y vy) :
    OpOk P base s m w L H (appendHM C (ts.toList.getD 0 0) x y (ts.toList.getD 1 0) s) (Builtin.append_ ts ty #[vx, vy]) := by
  have h0 : ts[0]? = some (ts.toList.getD 0 0) := by rw [getD_of_lt (by simp; omega)]; simp
  have h1 : ts[1]? = some (ts.toList.getD 1 0) := by rw [getD_of_lt (by simp; omega)]; simp
  generalize ts.toList.getD 0 0 = T at h0 ⊢
  generalize ts.toList.getD 1 0 = yt at h1 ⊢
  unfold appendHM
  split
  · rename_i e hk
    split
    · exact .fail
    rename_i hsz
    have core : ∀ {d : TypeDesc} (hyd : P.underlying yt = some d) (hd : d = .string ∨ ∃ e', d = .slice e') {ys : List (List D)} {news : List Value} (hn : News P w (okS (okW w L H) base true) (C.ty e).size vy ys news) (es : List (List D)) (k : HM V → HM V)
        (hk' : (es = [] ∧ vx = .slice none 0 0 ∧ k = fun m => m) ∨ ∃ id lk, obj H id = .row false (C.ty e).size es ∧ L id = some lk ∧ vx = .slice (lk.b.map fun b => ⟨b, 0, none⟩) lk.n lk.cap ∧ k = fun m => .put id .dead m),
        OpOk P base s m w L H (.gd (decide (es.length + ys.length ≤ LIM)) (k (.put s (.row false (C.ty e).size (es ++ ys)) (.ret (.rw s))))) (Builtin.append_ ts ty #[vx, vy]) := by
      intro d hyd hd ys news hn es k hk'
      have := fin_ok (ty := ty) hH hC hs hm hL hb h0 h1 hk hsz hyd hd hn
      rcases hk' with ⟨rfl, rfl, rfl⟩ | ⟨id, lk, q1, q2, rfl, rfl⟩
      · exact this.1
      · exact this.2 id es lk q1 q2
    have more : ∀ (es : List (List D)) (k : HM V → HM V)
        (hk' : (es = [] ∧ vx = .slice none 0 0 ∧ k = fun m => m) ∨ ∃ id lk, obj H id = .row false (C.ty e).size es ∧ L id = some lk ∧ vx = .slice (lk.b.map fun b => ⟨b, 0, none⟩) lk.n lk.cap ∧ k = fun m => .put id .dead m),
        OpOk P base s m w L H (moreHM C (C.ty e).size yt y s es k) (Builtin.append_ ts ty #[vx, vy]) := by
      intro es k hk'
      unfold moreHM
      split
      · rename_i hky
        have hyd := ((hC yt).1 (by rw [hky]; trivial)).k
        rw [hky] at hyd
        split
        · rename_i fr str
          split
          · rename_i hs1
            have hvy := hy.str_inv
            have hn := news_str (P := P) (w := w) (ok := okS (okW w L H) base true) str
            rw [← hs1, ← hvy] at hn
            exact core hyd (.inl rfl) hn es k hk'
          · exact .fail
        · exact .fail
      · rename_i e' hky
        have hyd := ((hC yt).1 (by rw [hky]; trivial)).k
        rw [hky] at hyd
        refine rows_ok hH hy fun fr sz' ys a c hvy hrel => ?_
        split
        · rename_i hs1
          subst hs1
          cases fr with
          | true =>
            obtain ⟨news, hn⟩ := news_rows (P := P) (c := c) hrel
            rw [← hvy] at hn
            exact core hyd (.inr ⟨_, rfl⟩) hn es k hk'
          | false =>
            refine .gd fun hsc => ?_
            obtain ⟨news, hn⟩ := news_rows (P := P) (c := c) hrel
            rw [← hvy] at hn
            exact core hyd (.inr ⟨_, rfl⟩) ⟨hn.len, hn.n, hn.n', hn.run, fun i j hi hj => all_scalar hsc (hn.rel i j hi hj)⟩ es k hk'
        · split
          · obtain ⟨news, hn⟩ := news_rows (P := P) (w := w) (ok := okS (okW w L H) base true) (sz := (C.ty e).size) (ys := []) (a := a) (c := c) (fun h => absurd rfl h)
            have hvy' : vy = .slice a ([] : List (List D)).length c := hvy
            rw [← hvy'] at hn
            exact core hyd (.inr ⟨_, rfl⟩) hn es k hk'
          · exact .fail
      · exact .fail
    split
    · cases hx with
      | nils => exact more [] (fun m => m) (.inl ⟨rfl, rfl, rfl⟩)
    · rename_i id
      refine .get ?_
      cases eo : obj H id with
      | row arr sz es =>
        cases arr with
        | true => exact .fail
        | false =>
          dsimp only
          split
          · rename_i hs1
            subst hs1
            cases hx with
            | rw _ lk hl => exact more es (fun m => .put id .dead m) (.inr ⟨id, lk, eo, hl, rfl, rfl⟩)
          · exact .fail
      | _ => exact .fail
    · exact .fail
  · exact .fail

theorem zero_rel {ok : Nat → Prop} (l : LK) : CRel w ok (zeroD l) (zeroVal l) := by
  cases l with
  | int k => exact .int _ _
  | bool => exact .bool _
  | str => exact .str _
  | sl sz => exact .sl0 ..
  | nl z =>
    cases z <;> first | exact .nilm | exact .nilf | exact .nili | exact .nilp
theorem zeroV_rel {ok : Nat → Prop} (l : LK) : VRel w ok base L (zeroV l) (zeroVal l) := by
  cases l with
  | sl sz => exact .nils sz
  | _ => exact .one _ _ _ (zero_rel _)

theorem zeros_rel {ok : Nat → Prop} {T : TypeId} {t : TI} {z : Value} (hz : z.cells.toList = t.lk.map zeroVal) : CsRel w ok base L (t.lk.map zeroV) z.cells := by
  have hl : z.cells.size = t.lk.length := by rw [← Array.length_toList, hz]; simp
  refine ⟨by simp [hl], fun i hi => ?_⟩
  have hi' : i < t.lk.length := by simpa using hi
  rw [getD_of_lt hi, agetD_of_lt (by omega)]
  have : z.cells[i]'(by omega) = zeroVal t.lk[i] := by
    have h1 : z.cells.toList[i]'(by simp; omega) = (t.lk.map zeroVal)[i]'(by simpa using hi') := by simp only [hz]
    simpa using h1
  rw [this]
  simpa using zeroV_rel _

theorem makeSlice_ok (hH : HRel w base L H) (hC : CfgOk P C) (hs : s < H.length) (hm : 0 < m) (hL : L s = none) (hb : base ≤ w.heap.size) (T : TypeId)
    {x y : V} {vx vy : Value} (hx : VRel w (okW w L H) base L x vx) (hy : VRel w (okW w L H) base L y vy) :
    OpOk P base s m w L H (makeSliceHM C T x y s) (Instr.makeSlice T vx vy) := by
  unfold makeSliceHM
  split
  · rename_i e fr q l fr' q' c hk
    have hu := ((hC T).1 (by rw [hk]; trivial)).k
    rw [hk] at hu
    split
    · exact .fail
    rename_i hsz
    rw [hx.int_inv, hy.int_inv]
    refine .gd fun h1 => .gd fun h2 => .gd fun h3 => ?_
    have h1 := of_decide_eq_true h1
    have h2 := of_decide_eq_true h2
    have h3 := of_decide_eq_true h3
    have h3' : c ≤ 17179869184 := h3
    have hTe := (hC e).1 (known_of_pos hC hsz)
    obtain ⟨i, z, i1, i2, i3, i4, i5, i6, _⟩ := hTe.i
    have hzs : z.cells.size = (C.ty e).size := by rw [← Array.length_toList, i5]; simp [i6]
    have hpos : 0 < (C.ty e).size := by omega
    have hby : (i.bytes : Int) * c ≤ 140737488355328 := by
      have h4 : (i.bytes : Int) * c ≤ 8192 * 17179869184 := Int.mul_le_mul (by omega) h3' (by omega) (by omega)
      omega
    have hrun := run_make (P := P) w T e i z hu i1 i4 q q' l c h1 h2 (by omega) (by omega)
    have hmade : ∀ q, q < c.toNat * i.size → (madeCells z.cells (c.toNat * i.size))[q]? = some (z.cells.getD (q % i.size) undef) := by
      intro q hq
      have hlt : q % i.size < z.cells.size := by rw [hzs, ← i2]; exact Nat.mod_lt _ (by omega)
      have hlt' : q % z.cells.size < z.cells.size := by rw [hzs]; exact Nat.mod_lt _ hpos
      rw [agetD_of_lt hlt]
      have : i.size = z.cells.size := by rw [hzs, i2]
      have hq' : q < c.toNat * z.cells.size := by rw [← this]; exact hq
      simp only [madeCells, this, Array.getElem?_map]
      rw [Array.getElem?_eq_getElem (by simpa using hq')]
      simp only [Option.map_some, Array.getElem_range]
      rw [getElem!_pos z.cells _ hlt']
    have key := newRow_ok (s := s) (m := m) hH hs hm hL hb (w' := w.alloc (.cells (madeCells z.cells (c.toNat * i.size)) e)) rfl ((Below.refl base w).alloc hb _) false (sz := (C.ty e).size) (cap := c.toNat) (es := List.replicate l.toNat ((C.ty e).lk.map zeroD)) hpos (by rw [size_madeCells, i2]) (by simp; omega) fun i' j hi hj => ?_
    · exact .made hrun key.1 key.2 (.rw_of upd_s (by simp)) (fun _ _ => rfl)
    · have hi' : i' < l.toNat := by simpa using hi
      have hlt := mul_lt (n := c.toNat) (i := i') (sz := (C.ty e).size) (by omega) hj
      refine ⟨_, hmade _ (by rw [i2]; exact hlt), ?_⟩
      rw [i2, show (i' * (C.ty e).size + j) % (C.ty e).size = j by rw [Nat.mul_comm, Nat.mul_add_mod, Nat.mod_eq_of_lt hj]]
      have e1 : cellD (List.replicate l.toNat ((C.ty e).lk.map zeroD)) i' j = zeroD ((C.ty e).lk[j]'(by omega)) := by
        unfold cellD
        have h9 : (List.replicate l.toNat ((C.ty e).lk.map zeroD)).getD i' [] = (C.ty e).lk.map zeroD := by rw [getD_of_lt (by simpa using hi')]; simp
        rw [h9, getD_of_lt (by simp; omega)]
        simp
      have e2 : z.cells.getD j undef = zeroVal ((C.ty e).lk[j]'(by omega)) := by
        rw [agetD_of_lt (by omega)]
        have h1 : z.cells.toList[j]'(by simp; omega) = ((C.ty e).lk.map zeroVal)[j]'(by simp; omega) := by simp only [i5]
        simpa using h1
      rw [e1, e2]
      exact zero_rel _
  · exact .fail
end
end Go.Proofs.EV
