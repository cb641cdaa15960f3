/- From the model's code to the small machine's. -/
import Derived.Test.YtdjfaepokfdihaaVmStep
set_option linter.unusedVariables false
namespace Go.Proofs.Ytdjfaepokfdihaa
namespace Vm
open Go.RowKit

def lowV1 : Value → Option V
  | .int k n => some (.d (.int k n))
  | .bool b => some (.d (.bool b))
  | .string s => if s.size ≤ maxLen then some (.d (.str s)) else none
  | .slice none 0 0 => some .nil
  | .pointer none => some (.d .np)
  | v => if v.oneCell' then some .any else none
def lowV : Value → Option V
  | .agg arr => (mapM' lowV1 arr.toList).map .agg
  | .tuple _ => none
  | v => lowV1 v
def lowX : Operand → Option Opd
  | .tmp t => some (.t t)
  | .const v => (lowV v).map .c
  | .func f => some (.c (.d (.fn f [])))
  | .global _ => none
def lowO : Option Operand → Option (Option Opd)
  | none => some none
  | some x => (lowX x).map some
/-- the cells of a row of zeros -/
def dOf : V → Option D
  | .d x => if x.atom then some x else none
  | .nil => some (.sl [])
  | _ => none

def isAggT (P : Program) (t : TypeId) : Option Bool := match P.underlying t with
  | some (.struct _) | some (.array _ _) => some true
  | some _ => some false
  | none => none
/-- the kinds of the cells of a struct of numbers, bools, strings and such structs, its cells one behind the other -/
def flatK (P : Program) : Nat → TypeId → Option (List Nat)
  | 0, _ => none
  | d + 1, t => match P.underlying t with
    | some (.int _) => some [0]
    | some .bool => some [1]
    | some .string => some [2]
    | some (.struct fs) => if P.stoodInHeld t then none else fs.toList.foldl (fun (acc : Option (List Nat)) f => match acc with
        | none => none
        | some ks => if f.offset = ks.length ∧ f.name ≠ "_" then match flatK P d f.type, P.info? f.type with
            | some l, some i => if i.size = l.length then some (ks ++ l) else none
            | _, _ => none
          else none) (some [])
    | _ => none

def lowOp0 (P : Program) (o : Oper) : Option SOp :=
  match o.op with
  | .move x => (lowX x).map .move
  | .assign x => (lowX x).map .move
  | .pick c a b => match lowX c, lowX a, lowX b with
    | some c, some a, some b => some (.pick c a b)
    | _, _, _ => none
  | .alloc e => match P.info? e with
    | some i => match i.zero with
      | some z => (mapM' lowV1 z.cells.toList).map .alloc
      | none => none
    | none => none
  | .box e x => (lowX x).map .box
  | .build t parts => match P.info? t, P.underlying t with
    | some i, some (.struct fs) => match i.zero with
      | some z => match mapM' lowV1 z.cells.toList, mapM' (fun (p : Nat × Operand) => match fs[p.1]?, lowX p.2 with
          | some f, some x => (P.info? f.type).map fun j => (f.offset, j.size, x)
          | _, _ => none) parts.toList with
        | some zs, some ps => if fs.toList.all (fun f => (P.info? f.type).isSome) then some (.build zs ps) else none
        | _, _ => none
      | none => none
    | _, _ => none
  | .buildSlice t len parts => match P.underlying t with
    | some (.slice e) => match P.info? e with
      | some i => match i.zero with
        | some z => match mapM' lowV1 z.cells.toList with
          | some zs => match mapM' dOf zs, mapM' (fun (p : Nat × Operand) => (lowX p.2).map fun x => (p.1, x)) parts.toList with
            | some row, some ps => if len * i.size ≤ 16777216 ∧ z.cells.size = i.size ∧ 0 < i.size then some (.buildSlice e i.size row len ps) else none
            | _, _ => none
          | none => none
        | none => none
      | none => none
    | _ => none
  | .load t x => match isAggT P t, P.info? t, lowX x with
    | some b, some i, some x => some (.load i.size b x)
    | _, _, _ => none
  | .store t x v => match P.info? t, lowX x, lowX v with
    | some i, some x, some v => some (.store i.size x v)
    | _, _, _ => none
  | .nilCheck x => (lowX x).map .nilCheck
  | .binOp op t x y _ => match lowX x, lowX y with
    | some x', some y' => match op with
      | .shl => none
      | .shr => none
      | op => match P.underlying t with
        | some (.int _) | some .string => some (.bin 0 op x' y')
        | some .bool => some (.bin 1 op x' y')
        | some (.struct _) => match op, flatK P 20 t with
          | .eql, some ks => if P.eqGuardType P.depth t = false then some (.eqS ks false x' y') else none
          | .neq, some ks => if P.eqGuardType P.depth t = false then some (.eqS ks true x' y') else none
          | _, _ => none
        | _ => none
    | _, _ => none
  | .unOp op _ x => (lowX x).map (.un op)
  | .convert s d x => match P.underlying s, P.underlying d, lowX x with
    | some (.int _), some (.int k), some x => some (.conv k x)
    | some .string, some (.slice e), some x => match P.underlying e with
      | some (.int .u8) => some (.bytes x)
      | _ => none
    | _, _, _ => none
  | .slice t x lo hi mx => match mx with
    | some _ => none
    | none => match P.underlying t, lowX x, lowO lo, lowO hi with
      | some (.slice e), some x, some lo, some hi => (P.info? e).map fun i => .slice i.size x lo hi
      | some .string, some x, some lo, some hi => some (.strSlice x lo hi)
      | _, _, _, _ => none
  | .fieldAddr s x f => match P.underlying s, lowX x with
    | some (.struct fs), some x => match fs[f]? with
      | some f => match P.info? f.type with
        | some i => if i.size = 0 then none else some (.fieldAddr f.offset x)
        | none => none
      | none => none
    | _, _ => none
  | .field s x f => match P.underlying s, lowX x with
    | some (.struct fs), some x => match fs[f]? with
      | some f => match P.info? f.type, isAggT P f.type with
        | some i, some b => some (.field f.offset i.size b x)
        | _, _ => none
      | none => none
    | _, _ => none
  | .indexAddr t x i => match P.underlying t, lowX x, lowX i with
    | some (.slice e), some x, some i => (P.info? e).map fun j => .indexAddr j.size x i
    | _, _, _ => none
  | .index t x i => match P.underlying t, lowX x, lowX i with
    | some .string, some x, some i => some (.index x i)
    | _, _, _ => none
  | .extract x i => (lowX x).map fun x => .extract x i
  | .makeSlice t l c => match P.underlying t, lowX l, lowX c with
    | some (.slice e), some l, some c => match P.info? e with
      | some i => match i.zero with
        | some z => match mapM' lowV1 z.cells.toList with
          | some zs => match mapM' dOf zs with
            | some row => if z.cells.size = i.size ∧ 0 < i.size then some (.makeSlice e i.size i.bytes row l c) else none
            | none => none
          | none => none
        | none => none
      | none => none
    | _, _, _ => none
  | .makeFunc fn first captured => match fn with
    | .func f => if first.isEmpty = true then (mapM' lowX captured.toList).map fun caps => .mkfn f caps else none
    | _ => none
  | .call c => match c.callee with
    | .value (.func f) => match P.funcs[f]?, mapM' lowX c.args.toList with
      | some fn, some args => if fn.name ≠ "runtime.NumGoroutine" ∧ fn.body.isSome then some (.call f args) else none
      | _, _ => none
    | .value x => match lowX x, mapM' lowX c.args.toList with
      | some x, some args => some (.callv x args)
      | _, _ => none
    | .builtin .len => match c.args.toList, c.argTypes.toList with
      | [x], [t] => match P.underlying t, lowX x with
        | some .string, some x => some (.lenS x)
        | some (.slice _), some x => some (.len x)
        | _, _ => none
      | _, _ => none
    | .builtin .append => match c.args.toList, c.argTypes.toList with
      | [x, y], [t, u] => if t = u then match P.underlying t, lowX x, lowX y with
          | some (.slice e), some x, some y => match P.info? e with
            | some i => match i.zero with
              | some z => if z.cells.size = i.size ∧ 0 < i.size ∧ 0 < i.bytes then some (.append e i.size i.bytes x y) else none
              | none => none
            | none => none
          | _, _, _ => none
        else none
      | _, _ => none
    | .builtin .max => (mapM' lowX c.args.toList).map .max
    | .builtin .min => (mapM' lowX c.args.toList).map .min
    | _ => none
  | _ => none
/-- what it cannot do it does not do -/
def lowOp (P : Program) (o : Oper) : SOp := (lowOp0 P o).getD .fail

def dstOk (nt : Nat) : Option Nat → Bool
  | some d => decide (d < nt)
  | none => true
def lowOper (P : Program) (nt : Nat) (ops : Array Oper) (o : Oper) : Option SOper :=
  if dstOk nt o.dst = true then match o.guard with
    | none => some ⟨o.dst, lowOp P o, none⟩
    | some (j, b) => match (ops[j]?).bind (·.dst) with
      | some t => some ⟨o.dst, lowOp P o, some (t, b)⟩
      | none => none
    else none

/-- what has to stand ahead of an operation, and what ahead of that: bits -/
def ancs (ops : List Oper) : List Nat := ops.foldl (fun acc o =>
  acc ++ [(o.after.toList.filter (Region.binds .any)).foldl (fun s e => s ||| 2 ^ e.on ||| acc.getD e.on 0) 0]) []
/-- pairs of operations of which neither stands ahead of the other -/
def loose (ops : List Oper) : List (Nat × Nat) :=
  let an := ancs ops
  (List.range ops.length).flatMap fun j => ((List.range j).filter fun i => !((an.getD j 0).testBit i)).map fun i => (i, j)
def okAfter (ops : List Oper) : Bool := ops.zipIdx.all fun (o, i) => o.after.all fun e => !(Region.binds .any e) || e.on < i

def lowC (P : Program) (nt : Nat) : Code → Option SCode
  | .skip => some .skip
  | .region _ ops draw => match mapM' (lowOper P nt ops) ops.toList with
    | none => none
    | some l => if draw then (if okAfter ops.toList then some (.region l (some (loose ops.toList))) else none) else some (.region l none)
  | .seq a b => match lowC P nt a, lowC P nt b with
    | some a, some b => some (.seq a b)
    | _, _ => none
  | .cond c a b => match lowX c, lowC P nt a, lowC P nt b with
    | some c, some a, some b => some (.cond c a b)
    | _, _, _ => none
  | .block id a => (lowC P nt a).map (.block id)
  | .loop a => (lowC P nt a).map .loop
  | .exit id => some (.exit id)
  | .ret => some .ret
  | _ => none
def SCode.bare : SCode → SCode
  | .seq a b => .seq a.bare b.bare
  | .cond c a b => .cond c a.bare b.bare
  | .block id a => .block id a.bare
  | .loop a => .loop a.bare
  | .pre _ a => a.bare
  | .post a _ => a.bare
  | c => c
def lowR (P : Program) : ResultVar → Option SRes
  | .tmp t => some (.tmp t)
  | .cell t ty => match isAggT P ty, P.info? ty with
    | some b, some i => some (.cell t i.size b)
    | _, _ => none
/-- the small machine's function is the model's, but for what it forgets on the way -/
def Lows (P : Program) (fn : Func) (sf : SFunc) : Prop :=
  fn.params.size + fn.nfree = sf.np ∧ fn.name ≠ "runtime.NumGoroutine" ∧ fn.ntmps = sf.nt ∧ sf.np ≤ sf.nt ∧ mapM' (lowR P) fn.results.toList = some sf.results ∧ ∃ c, fn.body = some c ∧ lowC P sf.nt c = some sf.body.bare

/-! ### small laws -/
section
variable {h : Hp} {hd : Nat → Value} {bl : Nat → Option Blk}
theorem lowV1_ok {v : Value} {x : V} (e : lowV1 v = some x) : R1 h hd bl v x ∧ v.oneCell' = true := by
  unfold lowV1 at e
  split at e
  · cases e; exact ⟨⟨rfl, .int _ _⟩, rfl⟩
  · cases e; exact ⟨⟨rfl, .bool _⟩, rfl⟩
  · split at e
    · rename_i hs; cases e; exact ⟨⟨rfl, .str _ hs⟩, rfl⟩
    · cases e
  · cases e; exact ⟨rfl, rfl⟩
  · cases e; exact ⟨⟨rfl, .np⟩, rfl⟩
  · split at e
    · rename_i ho; cases e; exact ⟨trivial, ho⟩
    · cases e
theorem lowCells_ok {arr : Array Value} {cs : List V} (e : mapM' lowV1 arr.toList = some cs) : arr.size = cs.length ∧ ∀ j x, cs[j]? = some x → R1 h hd bl (arr.getD j undef) x ∧ (arr.getD j undef).oneCell' = true := by
  obtain ⟨h1, h2⟩ := mapM'_some e
  refine ⟨by simpa using h1, fun j x hx => ?_⟩
  obtain ⟨v, q1, q2⟩ := mapM'_back e hx
  have : arr.getD j undef = v := by
    have : arr[j]? = some v := by simpa using q1
    simp [this]
  rw [this]
  exact lowV1_ok q2
theorem lowV_ok {v : Value} {x : V} (e : lowV v = some x) : R2 h hd bl v x := by
  unfold lowV at e
  split at e
  · rename_i arr
    cases hm : mapM' lowV1 arr.toList with
    | none => simp [hm] at e
    | some cs =>
      simp only [hm, Option.map_some, Option.some.injEq] at e
      subst e
      obtain ⟨h1, h2⟩ := lowCells_ok (h := h) (hd := hd) (bl := bl) hm
      exact ⟨arr, rfl, h1, h2⟩
  · cases e
  · exact R2.of1 (lowV1_ok e).1
theorem lowX_ok {fr : Nat → V} {a : Act} (hf : ∀ t, R3 h hd bl (a.tmps.getD t undef) (fr t)) {x : Operand} {y : Opd} (e : lowX x = some y) : R3 h hd bl (a.eval x) (evo fr y) := by
  cases x with
  | tmp t => simp only [lowX, Option.some.injEq] at e; subst e; exact hf t
  | const v =>
    simp only [lowX] at e
    cases hv : lowV v with
    | none => simp [hv] at e
    | some u => simp only [hv, Option.map_some, Option.some.injEq] at e; subst e; exact R3.of2 (lowV_ok hv)
  | func f => simp only [lowX, Option.some.injEq] at e; subst e; exact ⟨rfl, .fn f #[] [] rfl (fun j x e => by simp at e)⟩
  | global g => simp [lowX] at e
end
end Vm
end Go.Proofs.Ytdjfaepokfdihaa
