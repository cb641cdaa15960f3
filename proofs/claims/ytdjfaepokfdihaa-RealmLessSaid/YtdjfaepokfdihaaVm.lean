/- A small machine over values that are no memory: what it answers, the model's functions answer (VmSound). Plain definitions. -/
import Derived.RowKit
import Derived.Orders
import Derived.Below
import Derived.Laws.MakeOwn
set_option linter.unusedVariables false
namespace Go.Proofs.Ytdjfaepokfdihaa
namespace Vm

/-- a value that is never written again -/
inductive D where
  | int (k : IntKind) (n : Int)
  | bool (b : Bool)
  | str (s : ByteArray)
  | sl (rows : List (List D))
  | agg (cs : List D)
  | tup (vs : List D)
  | ptr (row : List D) (off : Nat)
  | fn (f : Nat) (caps : List D)
  | np
  | ref (n : Nat)
  | own (x : D) (es : List (Nat × Nat)) (rs : List (List (List D)))
  deriving Inhabited

/-- what stands in a slot -/
inductive V where
  | any
  | d (x : D)
  | nil
  | agg (cs : List V)
  | tup (vs : List V)
  | ptr (id off : Nat)
  | own (id ver : Nat)
  | orow (id ver i off : Nat)
  | fn (f : Nat) (caps : List V)
  deriving Inhabited

/-- memory of the call's own -/
inductive Blk where
  | box (cs : List V)
  | rows (ver e size : Nat) (rows : List (List D))
  | froz (ver : Nat) (rows : List (List D))
  | fbox (cs : List D)
  deriving Inhabited

inductive Opd where
  | t (n : Nat)
  | c (v : V)
  deriving Inhabited

inductive SOp where
  | fail
  | move (x : Opd)
  | pick (c a b : Opd)
  | alloc (zero : List V)
  | box (x : Opd)
  | build (zero : List V) (parts : List (Nat × Nat × Opd))
  | buildSlice (e size : Nat) (zero : List D) (len : Nat) (parts : List (Nat × Opd))
  | load (size : Nat) (isAgg : Bool) (x : Opd)
  | store (size : Nat) (x v : Opd)
  | nilCheck (x : Opd)
  | bin (c : Nat) (op : BinOp) (x y : Opd)
  | eqS (ks : List Nat) (neg : Bool) (x y : Opd)
  | un (op : UnOp) (x : Opd)
  | conv (k : IntKind) (x : Opd)
  | slice (size : Nat) (x : Opd) (lo hi : Option Opd)
  | strSlice (x : Opd) (lo hi : Option Opd)
  | fieldAddr (off : Nat) (x : Opd)
  | field (off size : Nat) (isAgg : Bool) (x : Opd)
  | indexAddr (size : Nat) (x i : Opd)
  | index (x i : Opd)
  | len (x : Opd)
  | lenS (x : Opd)
  | append (e size bytes : Nat) (x y : Opd)
  | makeSlice (e size bytes : Nat) (zero : List D) (len cap : Opd)
  | max (l : List Opd)
  | min (l : List Opd)
  | extract (x : Opd) (i : Nat)
  | call (f : Nat) (args : List Opd)
  | mkfn (f : Nat) (caps : List Opd)
  | callv (x : Opd) (args : List Opd)
  | bytes (x : Opd)
  deriving Inhabited

structure SOper where
  dst : Option Nat
  op : SOp
  guard : Option (Nat × Bool)
  deriving Inhabited

/-- what lives on: slots, blocks; slots and cells (block, place) that hold no slice yet and get one of their own -/
structure Mask where
  live : List Nat
  keep : List Nat
  ownT : List (Nat × Nat × Nat × Nat)
  ownC : List (Nat × Nat × Nat × Nat × Nat)
  fzT : List Nat
  fzC : List (Nat × Nat)
  deriving Inhabited

inductive SCode where
  | skip
  | region (ops : List SOper) (draw : Option (List (Nat × Nat)))
  | seq (a b : SCode)
  | cond (c : Opd) (a b : SCode)
  | block (id : Nat) (a : SCode)
  | loop (a : SCode)
  | exit (id : Nat)
  | ret
  | pre (m : Mask) (a : SCode)
  | post (a : SCode) (m : Mask)
  deriving Inhabited

inductive SRes where
  | tmp (t : Nat)
  | cell (t size : Nat) (isAgg : Bool)

structure SFunc where
  np : Nat
  nt : Nat
  results : List SRes
  body : SCode
  fresh : Bool

/-! ### states -/

def lk {α : Type} (l : List (Nat × α)) (d : α) (t : Nat) : α := match l with
  | [] => d
  | (k, v) :: r => if t = k then v else lk r d t

structure St where
  fr : List (Nat × V)
  bl : List (Nat × Option Blk)

def St.get (s : St) (t : Nat) : V := lk s.fr .any t
def St.blk (s : St) (i : Nat) : Option Blk := lk s.bl none i
def evo (fr : Nat → V) : Opd → V
  | .t n => fr n
  | .c v => v

/-! ### operations -/

def V.cells : V → List V
  | .agg cs => cs
  | v => [v]
/-- may stand in a cell -/
def V.cell : V → Bool
  | .any | .agg _ | .tup _ => false
  | _ => true
/-- may stand for a value of one cell -/
def V.one : V → Bool
  | .agg _ | .tup _ => false
  | _ => true

/-- a value of one cell or a struct -/
def V.known : V → Bool
  | .any | .tup _ => false
  | _ => true

def mapM' {α β : Type} (f : α → Option β) : List α → Option (List β)
  | [] => some []
  | x :: r => match f x with
    | none => none
    | some y => match mapM' f r with
      | none => none
      | some ys => some (y :: ys)

/-- an atom as a value that is never written again -/
def toD0 (bl : Nat → Option Blk) : V → Option D
  | .d x => some x
  | .nil => some (.sl [])
  | .own id ver => match bl id with
    | some (.rows v _ _ rows) => if ver = v then some (.sl rows) else none
    | some (.froz v rows) => if ver = v then some (.sl rows) else none
    | _ => none
  | .ptr id off => match bl id with
    | some (.fbox cs) => some (.ptr cs off)
    | _ => none
  | .fn f caps => if caps.isEmpty then some (.fn f []) else none
  | _ => none
/-- a box is frozen, too -/
def toD1 (bl : Nat → Option Blk) : V → Option D
  | .ptr id off => match bl id with
    | some (.box cs) => (mapM' (toD0 bl) cs).map fun ds => .ptr ds off
    | some (.fbox cs) => some (.ptr cs off)
    | _ => none
  | v => toD0 bl v
def toD2 (bl : Nat → Option Blk) : V → Option D
  | .agg cs => (mapM' (toD1 bl) cs).map .agg
  | v => toD1 bl v
def toD (bl : Nat → Option Blk) : V → Option D
  | .tup vs => (mapM' (toD2 bl) vs).map .tup
  | v => toD2 bl v

/-- the blocks that lose their owner when the value is never to be written again -/
def fz0 (bl : Nat → Option Blk) : V → List (Nat × Option Blk)
  | .own id ver => match bl id with
    | some (.rows v _ _ rows) => [(id, some (.froz v rows))]
    | _ => []
  | _ => []
def fz1 (bl : Nat → Option Blk) : V → List (Nat × Option Blk)
  | .ptr id off => match bl id with
    | some (.box cs) => match mapM' (toD0 bl) cs with
      | some ds => (id, some (.fbox ds)) :: cs.flatMap (fz0 bl)
      | none => []
    | _ => []
  | v => fz0 bl v
def fz2 (bl : Nat → Option Blk) : V → List (Nat × Option Blk)
  | .agg cs => cs.flatMap (fz1 bl)
  | v => fz1 bl v

def flat1 : D → Bool
  | .int _ _ | .bool _ | .str _ => true
  | _ => false
def flat2 : D → Bool
  | .agg cs => cs.all flat1
  | x => flat1 x
def flat : D → Bool
  | .tup vs => vs.all flat2
  | x => flat2 x

def toV1 (x : D) : V := .d x
def toV2 : D → V
  | .agg cs => .agg (cs.map .d)
  | x => .d x
def toV : D → V
  | .tup vs => .tup (vs.map toV2)
  | x => toV2 x

/-- slices that a call hands over as its caller's own: .ref n stands for the n-th of them -/
def frId (site n : Nat) : Nat := site + 100000 * (n + 1)
def thaw1 (site : Nat) : D → V
  | .ref n => .own (frId site n) 0
  | x => .d x
def thaw2 (site : Nat) : D → V
  | .agg cs => .agg (cs.map (thaw1 site))
  | x => thaw1 site x
def thaw (site : Nat) : D → V
  | .tup vs => .tup (vs.map (thaw2 site))
  | x => thaw2 site x
def newBlks (site : Nat) : Nat → List (Nat × Nat) → List (List (List D)) → List (Nat × Option Blk)
  | n, (e, size) :: es, rows :: rs => (frId site n, some (.rows 0 e size rows)) :: newBlks site (n + 1) es rs
  | _, _, _ => []
def freeB (bl : Nat → Option Blk) : List (Nat × Option Blk) → Bool
  | [] => true
  | (i, _) :: l => match bl i with
    | none => freeB bl l
    | some _ => false
/-- what a call answers -/
def callRes (site : Nat) (bl : Nat → Option Blk) (fz : List (Nat × Option Blk)) : D → Option (V × List (Nat × Option Blk))
  | .own x es rs => if freeB bl (newBlks site 0 es rs) = true then some (thaw site x, newBlks site 0 es rs ++ fz) else none
  | r => some (toV r, if flat r then [] else fz)

def intBin (op : BinOp) (k : IntKind) (x y : Int) : Option D := match op with
  | .add => some (.int k (k.wrap (x + y)))
  | .sub => some (.int k (k.wrap (x - y)))
  | .mul => some (.int k (k.wrap (x * y)))
  | .quo => if y = 0 then none else some (.int k (k.wrap (x.tdiv y)))
  | .rem => if y = 0 then none else some (.int k (x.tmod y))
  | .and => some (.int k (k.wrap (BitVec.ofInt k.bits x &&& BitVec.ofInt k.bits y).toNat))
  | .or => some (.int k (k.wrap (BitVec.ofInt k.bits x ||| BitVec.ofInt k.bits y).toNat))
  | .xor => some (.int k (k.wrap (BitVec.ofInt k.bits x ^^^ BitVec.ofInt k.bits y).toNat))
  | .andNot => some (.int k (k.wrap (BitVec.ofInt k.bits x &&& ~~~(BitVec.ofInt k.bits y)).toNat))
  | .eql => some (.bool (x == y))
  | .neq => some (.bool (x != y))
  | .lss => some (.bool (x < y))
  | .leq => some (.bool (x ≤ y))
  | .gtr => some (.bool (x > y))
  | .geq => some (.bool (x ≥ y))
  | _ => none
def strBin (op : BinOp) (x y : ByteArray) : Option D := match op with
  | .eql => some (.bool (x.toList == y.toList))
  | .neq => some (.bool !(x.toList == y.toList))
  | .lss => some (.bool (Op.bytesLess x.toList y.toList))
  | .leq => some (.bool (Op.bytesLess x.toList y.toList || x.toList == y.toList))
  | .gtr => some (.bool !(Op.bytesLess x.toList y.toList || x.toList == y.toList))
  | .geq => some (.bool !(Op.bytesLess x.toList y.toList))
  | _ => none
/-- kinds: 0 a number, 1 a bool, 2 a string -/
def eqCell : Nat → V → V → Option Bool
  | 0, .d (.int k x), .d (.int k' y) => if k = k' then some (x == y) else none
  | 1, .d (.bool x), .d (.bool y) => some (x == y)
  | 2, .d (.str x), .d (.str y) => some (x == y)
  | _, _, _ => none
def eqCells : List Nat → List V → List V → Option Bool
  | [], [], [] => some true
  | k :: ks, x :: xs, y :: ys => match eqCell k x y with
    | some a => match eqCells ks xs ys with
      | some b => some (a && b)
      | none => none
    | none => none
  | _, _, _ => none

def eqV (ks : List Nat) (neg : Bool) : V → V → Option D
  | .agg xs, .agg ys => match eqCells ks xs ys with
    | some b => some (.bool (if neg then !b else b))
    | none => none
  | _, _ => none
/-- 0: numbers, strings; 1: bools -/
def binV : Nat → BinOp → V → V → Option D
  | 0, op, .d (.int k x), .d (.int k' y) => if k = k' then intBin op k x y else none
  | 0, op, .d (.str x), .d (.str y) => strBin op x y
  | 1, .eql, .d (.bool x), .d (.bool y) => some (.bool (x == y))
  | 1, .neq, .d (.bool x), .d (.bool y) => some (.bool !(x == y))
  | _, _, _, _ => none

def unV (op : UnOp) : V → Option D
  | .d (.bool b) => match op with
    | .not => some (.bool !b)
    | _ => none
  | .d (.int k n) => match op with
    | .neg => some (.int k (k.wrap (0 - n)))
    | _ => none
  | _ => none

def setAt {α : Type} : List α → Nat → List α → List α
  | l, _, [] => l
  | [], _, _ => []
  | _ :: l, 0, x :: r => x :: setAt l 0 r
  | y :: l, n + 1, xs => y :: setAt l n xs

def fillV : List V → List (Nat × Nat × V) → Option (List V)
  | z, [] => some z
  | z, (off, size, v) :: r => if v.cells.length = size ∧ off + size ≤ z.length ∧ v.known = true then fillV (setAt z off v.cells) r else none

def fillRows (bl : Nat → Option Blk) (size : Nat) : List (List D) → List (Nat × V) → Option (List (List D))
  | rs, [] => some rs
  | rs, (i, v) :: r => match mapM' (toD1 bl) v.cells with
    | some row => if row.length = size ∧ i < rs.length then fillRows bl size (rs.set i row) r else none
    | none => none

def maxg (k : IntKind) : Int → List V → Option D
  | x, [] => some (.int k x)
  | x, .d (.int k' y) :: r => if k = k' then maxg k (if y > x then y else x) r else none
  | _, _ => none
def maxl : List V → Option D
  | .d (.int k x) :: r => maxg k x r
  | _ => none
def ming (k : IntKind) : Int → List V → Option D
  | x, [] => some (.int k x)
  | x, .d (.int k' y) :: r => if k = k' then ming k (if y < x then y else x) r else none
  | _, _ => none
def minl : List V → Option D
  | .d (.int k x) :: r => ming k x r
  | _ => none

/-- the rows that a slice reads as, its memory left as it is -/
def rowsOf (bl : Nat → Option Blk) : V → Option (List (List D))
  | .d (.sl rows) => some rows
  | .nil => some []
  | .own id ver => match bl id with
    | some (.rows v _ _ rows) => if ver = v then some rows else none
    | some (.froz v rows) => if ver = v then some rows else none
    | _ => none
  | _ => none

abbrev Res := Option (V × List (Nat × Option Blk))
def Res.v (x : Option D) : Res := x.map fun d => (.d d, [])

/-- all rows take as many cells -/
def sized (size : Nat) (rows : List (List D)) : Bool := rows.all fun row => row.length == size
def sliceV (bl : Nat → Option Blk) (size : Nat) (x : V) (lo hi : Option V) : Res :=
  match x, lo, hi with
  | .own id ver, none, some (.d (.int _ h)) => match bl id with
    | some (.rows v e size rows) => if ver = v ∧ 0 ≤ h ∧ h.toNat ≤ rows.length then some (.own id (ver + 1), [(id, some (.rows (ver + 1) e size (rows.take h.toNat)))]) else none
    | _ => none
  | x, lo, hi => match rowsOf bl x with
    | none => none
    | some rows =>
      match (match hi with | none => some (rows.length : Int) | some (.d (.int _ h)) => some h | _ => none), (match lo with | none => some (0 : Int) | some (.d (.int _ l)) => some l | _ => none) with
      | some h, some l => if 0 ≤ l ∧ l ≤ h ∧ h.toNat ≤ rows.length ∧ sized size rows = true then some (.d (.sl ((rows.take h.toNat).drop l.toNat)), fz1 bl x) else none
      | _, _ => none

def strSliceV (x : V) (lo hi : Option V) : Res :=
  match x with
  | .d (.str s) =>
    match (match hi with | none => some (s.size : Int) | some (.d (.int _ h)) => some h | _ => none), (match lo with | none => some (0 : Int) | some (.d (.int _ l)) => some l | _ => none) with
    | some h, some l => if 0 ≤ l ∧ l ≤ h ∧ h.toNat ≤ s.size then some (.d (.str (s.extract l.toNat h.toNat)), []) else none
    | _, _ => none
  | _ => none

/-- this block is not among those that are written -/
def notIn (id : Nat) : List (Nat × Option Blk) → Bool
  | [] => true
  | (i, _) :: l => if i = id then false else notIn id l
/-- one operation: what it yields, and what it writes -/
def aop (C : Nat → List D → Option D) (site : Nat) (ev : Opd → V) (bl : Nat → Option Blk) : SOp → Res
  | .fail => none
  | .move x => some (ev x, [])
  | .pick c a b => match ev c with
    | .d (.bool true) => some (ev a, [])
    | .d (.bool false) => some (ev b, [])
    | _ => none
  | .alloc z => match bl site with
    | none => some (.ptr site 0, [(site, some (.box z))])
    | some _ => none
  | .box x => match bl site with
    | none => if (ev x).known = true then some (.ptr site 0, [(site, some (.box (ev x).cells))]) else none
    | some _ => none
  | .build z parts => (fillV z (parts.map fun (o, s, x) => (o, s, ev x))).map fun cs => (.agg cs, [])
  | .buildSlice e size z n parts => match bl site with
    | none => match fillRows bl size (List.replicate n z) (parts.map fun (i, x) => (i, ev x)) with
      | some rows => some (.own site 0, (site, some (.rows 0 e size rows)) :: parts.flatMap fun (_, x) => fz2 bl (ev x))
      | none => none
    | some _ => none
  | .load size isAgg x => match ev x with
    | .ptr id off => match bl id with
      | some (.box cs) =>
        if isAgg then (if off + size ≤ cs.length then some (.agg ((cs.drop off).take size), []) else none)
        else cs[off]?.map fun v => (v, [])
      | some (.fbox row) =>
        if isAgg then (if off + size ≤ row.length then some (.agg (((row.drop off).take size).map .d), []) else none)
        else row[off]?.map fun v => (.d v, [])
      | _ => none
    | .d (.ptr row off) =>
      if isAgg then (if off + size ≤ row.length then some (.agg (((row.drop off).take size).map .d), []) else none)
      else row[off]?.map fun v => (.d v, [])
    | .orow id ver i off => match bl id with
      | some (.rows v e sz rows) => if ver = v then match rows[i]? with
        | some row =>
          if isAgg then (if off + size ≤ row.length then some (.agg (((row.drop off).take size).map .d), []) else none)
          else row[off]?.map fun v => (.d v, [])
        | none => none
        else none
      | _ => none
    | _ => none
  | .store size x v => match ev x with
    | .ptr id off => match bl id with
      | some (.box cs) => if (ev v).cells.length = size ∧ off + size ≤ cs.length ∧ (ev v).known = true then some (.any, [(id, some (.box (setAt cs off (ev v).cells)))]) else none
      | _ => none
    | .orow id ver i off => match bl id with
      | some (.rows w e sz rows) => if ver = w then match rows[i]?, mapM' (toD1 bl) (ev v).cells with
        | some row, some ds => if ds.length = size ∧ off + size ≤ row.length ∧ notIn id (fz2 bl (ev v)) = true then some (.any, (id, some (.rows w e sz (rows.set i (setAt row off ds)))) :: fz2 bl (ev v)) else none
        | _, _ => none
        else none
      | _ => none
    | _ => none
  | .nilCheck x => match ev x with
    | .ptr id off => some (.ptr id off, [])
    | .d (.ptr row off) => some (.d (.ptr row off), [])
    | .orow id ver i off => match bl id with
      | some (.rows v _ _ _) => if ver = v then some (.orow id ver i off, []) else none
      | _ => none
    | _ => none
  | .bin c op x y => Res.v (binV c op (ev x) (ev y))
  | .eqS ks neg x y => Res.v (eqV ks neg (ev x) (ev y))
  | .un op x => Res.v (unV op (ev x))
  | .conv k x => match ev x with
    | .d (.int _ n) => some (.d (.int k (k.wrap n)), [])
    | _ => none
  | .slice size x lo hi => sliceV bl size (ev x) (lo.map ev) (hi.map ev)
  | .strSlice x lo hi => strSliceV (ev x) (lo.map ev) (hi.map ev)
  | .fieldAddr off x => match ev x with
    | .ptr id o => some (.ptr id (o + off), [])
    | .d (.ptr row o) => some (.d (.ptr row (o + off)), [])
    | .orow id ver i o => match bl id with
      | some (.rows v _ _ _) => if ver = v then some (.orow id ver i (o + off), []) else none
      | _ => none
    | _ => none
  | .field off size isAgg x => match ev x with
    | .agg cs =>
      if isAgg then (if off + size ≤ cs.length then some (.agg ((cs.drop off).take size), []) else none)
      else cs[off]?.map fun v => (v, [])
    | _ => none
  | .indexAddr size x i => match ev i with
    | .d (.int _ n) => match ev x with
      | .own id ver => match bl id with
        | some (.rows v e sz rows) => if ver = v ∧ sz = size ∧ 0 ≤ n ∧ n.toNat < rows.length then some (.orow id ver n.toNat 0, []) else none
        | some (.froz v rows) => if ver = v ∧ 0 ≤ n then match rows[n.toNat]? with
          | some row => if row.length = size then some (.d (.ptr row 0), []) else none
          | none => none
          else none
        | _ => none
      | .d (.sl rows) => if 0 ≤ n then match rows[n.toNat]? with
        | some row => if row.length = size then some (.d (.ptr row 0), []) else none
        | none => none
        else none
      | _ => none
    | _ => none
  | .index x i => match ev x, ev i with
    | .d (.str s), .d (.int _ n) => if 0 ≤ n then match s[n.toNat]? with
      | some b => some (.d (.int .u8 b.toNat), [])
      | none => none
      else none
    | _, _ => none
  | .len x => (rowsOf bl (ev x)).map fun rows => (.d (.int .i64 rows.length), [])
  | .lenS x => match ev x with
    | .d (.str s) => some (.d (.int .i64 s.size), [])
    | _ => none
  | .append e size bytes x y => match rowsOf bl (ev y) with
    | none => none
    | some new =>
      if sized size new = true then
      match ev x with
      | .nil => match bl site with
        | none => if new.length * bytes ≤ 140737488355328 then some (.own site 0, [(site, some (.rows 0 e size new))]) else none
        | some _ => none
      | .own id ver => match bl id with
        | some (.rows v e' size' rows) => if ver = v ∧ e' = e ∧ size' = size ∧ (rows.length + new.length) * bytes ≤ 140737488355328 then some (.own id (ver + 1), [(id, some (.rows (ver + 1) e size (rows ++ new)))]) else none
        | _ => none
      | _ => none
      else none
  | .makeSlice e size bytes z l c => match bl site with
    | none => match ev l, ev c with
      | .d (.int _ n), .d (.int _ m) => if 0 ≤ n ∧ n ≤ m ∧ (bytes : Int) * m ≤ 281474976710656 ∧ m ≤ 9223372036854775807 then some (.own site 0, [(site, some (.rows 0 e size (List.replicate n.toNat z)))]) else none
      | _, _ => none
    | some _ => none
  | .max l => Res.v (maxl (l.map ev))
  | .min l => Res.v (minl (l.map ev))
  | .extract x i => match ev x with
    | .tup vs => vs[i]?.map fun v => (v, [])
    | _ => none
  | .call f args => match mapM' (fun x => toD2 bl (ev x)) args with
    | none => none
    | some ds => match C f ds with
      | none => none
      | some r => callRes site bl (args.flatMap fun x => fz2 bl (ev x)) r
  | .bytes x => match ev x with
    | .d (.str s) => some (.d (.sl (s.data.toList.map fun b => [.int .u8 b.toNat])), [])
    | _ => none
  | .mkfn f caps => match mapM' (fun x => toD1 bl (ev x)) caps with
    | none => none
    | some ds => some (.d (.fn f ds), caps.flatMap fun x => fz1 bl (ev x))
  | .callv g args => match ev g with
    | .d (.fn f caps) => match mapM' (fun x => toD2 bl (ev x)) args with
      | none => none
      | some ds => match C f (ds ++ caps) with
        | none => none
        | some r => callRes site bl (args.flatMap fun x => fz2 bl (ev x)) r
    | _ => none

/-! ### running -/

def St.put (s : St) (dst : Option Nat) (v : V) (wr : List (Nat × Option Blk)) : St :=
  ⟨match dst with | some d => (d, v) :: s.fr | none => s.fr, wr ++ s.bl⟩

/-- the site of an operation: its slot -/
def SOper.site (o : SOper) : Nat := o.dst.getD 0
inductive G where
  | run | skip | bad
def wantG : V → Bool → G
  | .d (.bool true), true => .run
  | .d (.bool false), false => .run
  | .d (.bool _), _ => .skip
  | .tup [], _ => .skip
  | _, _ => .bad
def SOper.wants (fr : Nat → V) (o : SOper) : G := match o.guard with
  | none => .run
  | some (t, b) => wantG (fr t) b

def runOp (C : Nat → List D → Option D) (o : SOper) (s : St) : Option St :=
  match o.wants s.get with
  | .run => match aop C o.site (evo s.get) s.blk o.op with
    | some (v, wr) => some (s.put o.dst v wr)
    | none => none
  | .skip => some (s.put o.dst (.tup []) [])
  | .bad => none
def runOps (C : Nat → List D → Option D) : List SOper → St → Option St
  | [], s => some s
  | o :: r, s => match runOp C o s with
    | some s' => runOps C r s'
    | none => none

end Vm
end Go.Proofs.Ytdjfaepokfdihaa
