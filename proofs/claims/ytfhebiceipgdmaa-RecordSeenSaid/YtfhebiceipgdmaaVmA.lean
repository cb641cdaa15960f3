/- A small machine over values that are no memory: what it answers, the model's functions answer (VmSound). Plain definitions. What it is that memory holds what the small machine says. The small machine's steps: what may become of memory. From the model's code to the small machine's. -/
import Derived.RowKit
import Derived.Orders
import Derived.Below
import Derived.Laws.MakeOwn
set_option linter.unusedVariables false
set_option linter.unusedSimpArgs false
namespace Go.Proofs.Ytfhebiceipgdmaa
theorem aN {p q:Prop} (a:p) (b:q):p ∧ q:=And.intro a b
namespace Vm
inductive D where
  | int (k:IntKind) (n:Int)
  | bool (b:Bool)
  | str (s:ByteArray)
  | sl (rows:List (List D))
  | agg (cs:List D)
  | tup (vs:List D)
  | ptr (row:List D) (off:Nat)
  | fn (f:Nat) (caps:List D)
  | np
  | ref (n:Nat)
  | own (x:D) (es:List (Nat × Nat)) (rs:List (List (List D)))
  deriving Inhabited
inductive V where
  | any
  | d (x:D)
  | nil
  | agg (cs:List V)
  | tup (vs:List V)
  | ptr (id off:Nat)
  | own (id ver:Nat)
  | orow (id ver i off:Nat)
  | fn (f:Nat) (caps:List V)
  deriving Inhabited
inductive aX where
  | box (cs:List V)
  | rows (ver e size:Nat) (rows:List (List D))
  | froz (ver:Nat) (rows:List (List D))
  | fbox (cs:List D)
  deriving Inhabited
inductive cY where
  | t (n:Nat)
  | c (v:V)
  deriving Inhabited
inductive jA where
  | fail
  | move (x:cY)
  | pick (c a b:cY)
  | alloc (zero:List V)
  | box (x:cY)
  | build (zero:List V) (parts:List (Nat × Nat × cY))
  | buildSlice (e size:Nat) (zero:List D) (len:Nat) (parts:List (Nat × cY))
  | load (size:Nat) (isAgg:Bool) (x:cY)
  | store (size:Nat) (x v:cY)
  | nilCheck (x:cY)
  | bin (c:Nat) (op:BinOp) (x y:cY)
  | eqS (ks:List Nat) (neg:Bool) (x y:cY)
  | un (op:UnOp) (x:cY)
  | conv (k:IntKind) (x:cY)
  | slice (size:Nat) (x:cY) (lo hi:Option cY)
  | strSlice (x:cY) (lo hi:Option cY)
  | fieldAddr (off:Nat) (x:cY)
  | field (off size:Nat) (isAgg:Bool) (x:cY)
  | indexAddr (size:Nat) (x i:cY)
  | index (x i:cY)
  | len (x:cY)
  | lenS (x:cY)
  | append (e size bytes:Nat) (x y:cY)
  | makeSlice (e size bytes:Nat) (zero:List D) (len cap:cY)
  | max (l:List cY)
  | min (l:List cY)
  | extract (x:cY) (i:Nat)
  | call (f:Nat) (args:List cY)
  | mkfn (f:Nat) (caps:List cY)
  | callv (x:cY) (args:List cY)
  | bytes (x:cY)
  | lend (f:Nat) (args:List cY) (t:Nat)
  | cut (size:Nat) (x:cY) (lo hi:Option cY)
  | clear (z:List D) (x:cY)
  deriving Inhabited
structure bT where
  dst:Option Nat
  op:jA
  guard:Option (Nat × Bool)
  deriving Inhabited
structure tG where
  live:List Nat
  keep:List Nat
  ownT:List (Nat × Nat × Nat × Nat)
  ownC:List (Nat × Nat × Nat × Nat × Nat)
  fzT:List Nat
  fzC:List (Nat × Nat)
  deriving Inhabited
structure St where
  fr:List (Nat × V)
  bl:List (Nat × Option aX)
inductive a8 where
  | skip
  | region (ops:List bT) (draw:Option (List (Nat × Nat)))
  | seq (a b:a8)
  | cond (c:cY) (a b:a8)
  | block (id:Nat) (a:a8)
  | loop (a:a8)
  | exit (id:Nat)
  | ret
  | pre (m:tG) (a:a8)
  | post (a:a8) (m:tG)
  | hand (g:St→Option St)
  deriving Inhabited
inductive sQ where
  | tmp (t:Nat)
  | cell (t size:Nat) (isAgg:Bool)
structure dJ where
  np:Nat
  nt:Nat
  results:List sQ
  body:a8
  fresh:Bool
  lend:Bool
def lk {α:Type} (l:List (Nat × α)) (d:α) (t:Nat):α:=match l with
  | []=>d
  | (k,v) :: r=>if t = k then v else lk r d t
def St.get (s:St) (t:Nat):V:=lk s.fr .any t
def St.blk (s:St) (i:Nat):Option aX:=lk s.bl none i
def cQ (fr:Nat→V):cY→V
  | .t n=>fr n
  | .c v=>v
def V.cells:V→List V
  | .agg cs=>cs
  | v=>[v]
def V.cell:V→Bool
  | .any | .agg _ | .tup _=>false
  | _=>true
def V.one:V→Bool
  | .agg _ | .tup _=>false
  | _=>true
def V.known:V→Bool
  | .any | .tup _=>false
  | _=>true
def bI {α β:Type} (f:α→Option β):List α→Option (List β)
  | []=>some []
  | x :: r=>match f x with
    | none=>none
    | some y=>match bI f r with
      | none=>none
      | some ys=>some (y :: ys)
def pI (bl:Nat→Option aX):V→Option D
  | .d x=>some x
  | .nil=>some (.sl [])
  | .own id ver=>match bl id with
    | some (.rows v _ _ rows)=>if ver = v then some (.sl rows) else none
    | some (.froz v rows)=>if ver = v then some (.sl rows) else none
    | _=>none
  | .ptr id off=>match bl id with
    | some (.fbox cs)=>some (.ptr cs off)
    | _=>none
  | .fn f caps=>if caps.isEmpty then some (.fn f []) else none
  | _=>none
def j9 (bl:Nat→Option aX):V→Option D
  | .ptr id off=>match bl id with
    | some (.box cs)=>(bI (pI bl) cs).map fun ds=>.ptr ds off
    | some (.fbox cs)=>some (.ptr cs off)
    | _=>none
  | v=>pI bl v
def iX (bl:Nat→Option aX):V→Option D
  | .agg cs=>(bI (j9 bl) cs).map .agg
  | v=>j9 bl v
def toD (bl:Nat→Option aX):V→Option D
  | .tup vs=>(bI (iX bl) vs).map .tup
  | v=>iX bl v
def CO (bl:Nat→Option aX):V→List (Nat × Option aX)
  | .own id ver=>match bl id with
    | some (.rows v _ _ rows)=>[(id,some (.froz v rows))]
    | _=>[]
  | _=>[]
def BU (bl:Nat→Option aX):V→List (Nat × Option aX)
  | .ptr id off=>match bl id with
    | some (.box cs)=>match bI (pI bl) cs with
      | some ds=>(id,some (.fbox ds)) :: cs.flatMap (CO bl)
      | none=>[]
    | _=>[]
  | v=>CO bl v
def sC (bl:Nat→Option aX):V→List (Nat × Option aX)
  | .agg cs=>cs.flatMap (BU bl)
  | v=>BU bl v
def xO:D→Bool
  | .int _ _ | .bool _ | .str _=>true
  | _=>false
def RE:D→Bool
  | .agg cs=>cs.all xO
  | x=>xO x
def EN:D→Bool
  | .tup vs=>vs.all RE
  | x=>RE x
def aFX:D→V
  | .agg cs=>.agg (cs.map .d)
  | x=>.d x
def toV:D→V
  | .tup vs=>.tup (vs.map aFX)
  | x=>aFX x
def BP (site n:Nat):Nat:=site + 100000 * (n + 1)
def aC8 (site:Nat):D→V
  | .ref n=>.own (BP site n) 0
  | x=>.d x
def VZ (site:Nat):D→V
  | .agg cs=>.agg (cs.map (aC8 site))
  | x=>aC8 site x
def thaw (site:Nat):D→V
  | .tup vs=>.tup (vs.map (VZ site))
  | x=>VZ site x
def mX (site:Nat):Nat→List (Nat × Nat)→List (List (List D))→List (Nat × Option aX)
  | n,(e,size) :: es,rows :: rs=>(BP site n,some (.rows 0 e size rows)) :: mX site (n + 1) es rs
  | _,_,_=>[]
def J3 (bl:Nat→Option aX):List (Nat × Option aX)→Bool
  | []=>true
  | (i,_) :: l=>match bl i with
    | none=>J3 bl l
    | some _=>false
def sH (site:Nat) (bl:Nat→Option aX) (fz:List (Nat × Option aX)):D→Option (V × List (Nat × Option aX))
  | .own x es rs=>if J3 bl (mX site 0 es rs) = true then some (thaw site x,mX site 0 es rs ++ fz) else none
  | r=>some (toV r,if EN r then [] else fz)
def m5 (op:BinOp) (k:IntKind) (x y:Int):Option D:=match op with
  | .add=>some (.int k (k.wrap (x + y)))
  | .sub=>some (.int k (k.wrap (x - y)))
  | .mul=>some (.int k (k.wrap (x * y)))
  | .quo=>if y = 0 then none else some (.int k (k.wrap (x.tdiv y)))
  | .rem=>if y = 0 then none else some (.int k (x.tmod y))
  | .and=>some (.int k (k.wrap (BitVec.ofInt k.bits x &&& BitVec.ofInt k.bits y).toNat))
  | .or=>some (.int k (k.wrap (BitVec.ofInt k.bits x ||| BitVec.ofInt k.bits y).toNat))
  | .xor=>some (.int k (k.wrap (BitVec.ofInt k.bits x ^^^ BitVec.ofInt k.bits y).toNat))
  | .andNot=>some (.int k (k.wrap (BitVec.ofInt k.bits x &&& ~~~(BitVec.ofInt k.bits y)).toNat))
  | .eql=>some (.bool (x == y))
  | .neq=>some (.bool (x != y))
  | .lss=>some (.bool (x < y))
  | .leq=>some (.bool (x ≤ y))
  | .gtr=>some (.bool (x > y))
  | .geq=>some (.bool (x ≥ y))
  | _=>none
def KX (op:BinOp) (x y:ByteArray):Option D:=match op with
  | .eql=>some (.bool (x.toList == y.toList))
  | .neq=>some (.bool !(x.toList == y.toList))
  | .lss=>some (.bool (Op.bytesLess x.toList y.toList))
  | .leq=>some (.bool (Op.bytesLess x.toList y.toList || x.toList == y.toList))
  | .gtr=>some (.bool !(Op.bytesLess x.toList y.toList || x.toList == y.toList))
  | .geq=>some (.bool !(Op.bytesLess x.toList y.toList))
  | _=>none
def rL:Nat→V→V→Option Bool
  | 0,.d (.int k x),.d (.int k' y)=>if k = k' then some (x == y) else none
  | 1,.d (.bool x),.d (.bool y)=>some (x == y)
  | 2,.d (.str x),.d (.str y)=>some (x == y)
  | _,_,_=>none
def eC:List Nat→List V→List V→Option Bool
  | [],[],[]=>some true
  | k :: ks,x :: xs,y :: ys=>match rL k x y with
    | some a=>match eC ks xs ys with
      | some b=>some (a && b)
      | none=>none
    | none=>none
  | _,_,_=>none
def eqV (ks:List Nat) (neg:Bool):V→V→Option D
  | .agg xs,.agg ys=>match eC ks xs ys with
    | some b=>some (.bool (if neg then !b else b))
    | none=>none
  | _,_=>none
def wV:Nat→BinOp→V→V→Option D
  | 0,op,.d (.int k x),.d (.int k' y)=>if k = k' then m5 op k x y else none
  | 0,op,.d (.str x),.d (.str y)=>KX op x y
  | 1,.eql,.d (.bool x),.d (.bool y)=>some (.bool (x == y))
  | 1,.neq,.d (.bool x),.d (.bool y)=>some (.bool !(x == y))
  | _,_,_,_=>none
def unV (op:UnOp):V→Option D
  | .d (.bool b)=>match op with
    | .not=>some (.bool !b)
    | _=>none
  | .d (.int k n)=>match op with
    | .neg=>some (.int k (k.wrap (0 - n)))
    | _=>none
  | _=>none
def gK {α:Type}:List α→Nat→List α→List α
  | l,_,[]=>l
  | [],_,_=>[]
  | _ :: l,0,x :: r=>x :: gK l 0 r
  | y :: l,n + 1,xs=>y :: gK l n xs
def CI:List V→List (Nat × Nat × V)→Option (List V)
  | z,[]=>some z
  | z,(off,size,v) :: r=>if v.cells.length = size ∧ off + size ≤ z.length ∧ v.known = true then CI (gK z off v.cells) r else none
def jT (bl:Nat→Option aX) (size:Nat):List (List D)→List (Nat × V)→Option (List (List D))
  | rs,[]=>some rs
  | rs,(i,v) :: r=>match bI (j9 bl) v.cells with
    | some row=>if row.length = size ∧ i < rs.length then jT bl size (rs.set i row) r else none
    | none=>none
def S1 (k:IntKind):Int→List V→Option D
  | x,[]=>some (.int k x)
  | x,.d (.int k' y) :: r=>if k = k' then S1 k (if y > x then y else x) r else none
  | _,_=>none
def aGR:List V→Option D
  | .d (.int k x) :: r=>S1 k x r
  | _=>none
def TR (k:IntKind):Int→List V→Option D
  | x,[]=>some (.int k x)
  | x,.d (.int k' y) :: r=>if k = k' then TR k (if y < x then y else x) r else none
  | _,_=>none
def aGs:List V→Option D
  | .d (.int k x) :: r=>TR k x r
  | _=>none
def iI (bl:Nat→Option aX):V→Option (List (List D))
  | .d (.sl rows)=>some rows
  | .nil=>some []
  | .own id ver=>match bl id with
    | some (.rows v _ _ rows)=>if ver = v then some rows else none
    | some (.froz v rows)=>if ver = v then some rows else none
    | _=>none
  | _=>none
abbrev EO:=Option (V × List (Nat × Option aX))
def EO.v (x:Option D):EO:=x.map fun d=>(.d d,[])
def sized (size:Nat) (rows:List (List D)):Bool:=rows.all fun row=>row.length == size
def rW (bl:Nat→Option aX) (size:Nat) (x:V) (lo hi:Option V):EO :=
  match x,lo,hi with
  | .own id ver,none,some (.d (.int _ h))=>match bl id with
    | some (.rows v e size rows)=>if ver = v ∧ 0 ≤ h ∧ h.toNat ≤ rows.length then some (.own id (ver + 1),[(id,some (.rows (ver + 1) e size (rows.take h.toNat)))]) else none
    | _=>none
  | x,lo,hi=>match iI bl x with
    | none=>none
    | some rows =>
      match (match hi with | none=>some (rows.length:Int) | some (.d (.int _ h))=>some h | _=>none),(match lo with | none=>some (0:Int) | some (.d (.int _ l))=>some l | _=>none) with
      | some h,some l=>if 0 ≤ l ∧ l ≤ h ∧ h.toNat ≤ rows.length ∧ sized size rows = true then some (.d (.sl ((rows.take h.toNat).drop l.toNat)),BU bl x) else none
      | _,_=>none
def HB (x:V) (lo hi:Option V):EO :=
  match x with
  | .d (.str s) =>
    match (match hi with | none=>some (s.size:Int) | some (.d (.int _ h))=>some h | _=>none),(match lo with | none=>some (0:Int) | some (.d (.int _ l))=>some l | _=>none) with
    | some h,some l=>if 0 ≤ l ∧ l ≤ h ∧ h.toNat ≤ s.size then some (.d (.str (s.extract l.toNat h.toNat)),[]) else none
    | _,_=>none
  | _=>none
def EG (bl:Nat→Option aX) (size:Nat) (x:V) (lo hi:Option V):EO:=match x with
  | .own id ver=>match bl id with
    | some (.rows v e sz rows)=>match (match hi with | none=>some (rows.length:Int) | some (.d (.int _ h))=>some h | _=>none),(match lo with | none=>some (0:Int) | some (.d (.int _ l))=>some l | _=>none) with
      | some h,some l=>if ver = v ∧ sz = size ∧ 0 ≤ l ∧ l ≤ h ∧ h.toNat ≤ rows.length then some (.own id (ver + 1),[(id,some (.rows (ver + 1) e sz ((rows.take h.toNat).drop l.toNat)))]) else none
      | _,_=>none
    | _=>none
  | _=>none
def FX (bl:Nat→Option aX):V→Option D
  | .own id ver=>match bl id with
    | some (.rows v e size rows)=>if ver = v then some (.own (.ref 0) [(e,size)] [rows]) else none
    | _=>none
  | _=>none
def z0 (bl:Nat→Option aX) (t:Nat):Nat→List V→Option (List D)
  | _,[]=>some []
  | i,v :: r=>match (if i = t then FX bl v else iX bl v) with
    | none=>none
    | some d=>match z0 bl t (i + 1) r with
      | none=>none
      | some ds=>some (d :: ds)
def pL (bl:Nat→Option aX) (t:Nat):Nat→List V→List (Nat × Option aX)
  | _,[]=>[]
  | i,v :: r=>(if i = t then [] else sC bl v) ++ pL bl t (i + 1) r
def FG (rows:List (List D)):Bool:=rows.all fun row=>row.all xO
def wB (id:Nat):List (Nat × Option aX)→Bool
  | []=>true
  | (i,_) :: l=>if i = id then false else wB id l
def dW (C:Nat→List D→Option D) (site:Nat) (ev:cY→V) (bl:Nat→Option aX):jA→EO
  | .fail=>none
  | .move x=>some (ev x,[])
  | .pick c a b=>match ev c with
    | .d (.bool true)=>some (ev a,[])
    | .d (.bool false)=>some (ev b,[])
    | _=>none
  | .alloc z=>match bl site with
    | none=>some (.ptr site 0,[(site,some (.box z))])
    | some _=>none
  | .box x=>match bl site with
    | none=>if (ev x).known = true then some (.ptr site 0,[(site,some (.box (ev x).cells))]) else none
    | some _=>none
  | .build z parts=>(CI z (parts.map fun (o,s,x)=>(o,s,ev x))).map fun cs=>(.agg cs,[])
  | .buildSlice e size z n parts=>match bl site with
    | none=>match jT bl size (List.replicate n z) (parts.map fun (i,x)=>(i,ev x)) with
      | some rows=>some (.own site 0,(site,some (.rows 0 e size rows)) :: parts.flatMap fun (_,x)=>sC bl (ev x))
      | none=>none
    | some _=>none
  | .load size isAgg x=>match ev x with
    | .ptr id off=>match bl id with
      | some (.box cs) =>
        if isAgg then (if off + size ≤ cs.length then some (.agg ((cs.drop off).take size),[]) else none)
        else cs[off]?.map fun v=>(v,[])
      | some (.fbox row) =>
        if isAgg then (if off + size ≤ row.length then some (.agg (((row.drop off).take size).map .d),[]) else none)
        else row[off]?.map fun v=>(.d v,[])
      | _=>none
    | .d (.ptr row off) =>
      if isAgg then (if off + size ≤ row.length then some (.agg (((row.drop off).take size).map .d),[]) else none)
      else row[off]?.map fun v=>(.d v,[])
    | .orow id ver i off=>match bl id with
      | some (.rows v e sz rows)=>if ver = v then match rows[i]? with
        | some row =>
          if isAgg then (if off + size ≤ row.length then some (.agg (((row.drop off).take size).map .d),[]) else none)
          else row[off]?.map fun v=>(.d v,[])
        | none=>none
        else none
      | _=>none
    | _=>none
  | .store size x v=>match ev x with
    | .ptr id off=>match bl id with
      | some (.box cs)=>if (ev v).cells.length = size ∧ off + size ≤ cs.length ∧ (ev v).known = true then some (.any,[(id,some (.box (gK cs off (ev v).cells)))]) else none
      | _=>none
    | .orow id ver i off=>match bl id with
      | some (.rows w e sz rows)=>if ver = w then match rows[i]?,bI (j9 bl) (ev v).cells with
        | some row,some ds=>if ds.length = size ∧ off + size ≤ row.length ∧ wB id (sC bl (ev v)) = true then some (.any,(id,some (.rows w e sz (rows.set i (gK row off ds)))) :: sC bl (ev v)) else none
        | _,_=>none
        else none
      | _=>none
    | _=>none
  | .nilCheck x=>match ev x with
    | .ptr id off=>some (.ptr id off,[])
    | .d (.ptr row off)=>some (.d (.ptr row off),[])
    | .orow id ver i off=>match bl id with
      | some (.rows v _ _ _)=>if ver = v then some (.orow id ver i off,[]) else none
      | _=>none
    | _=>none
  | .bin c op x y=>EO.v (wV c op (ev x) (ev y))
  | .eqS ks neg x y=>EO.v (eqV ks neg (ev x) (ev y))
  | .un op x=>EO.v (unV op (ev x))
  | .conv k x=>match ev x with
    | .d (.int _ n)=>some (.d (.int k (k.wrap n)),[])
    | _=>none
  | .slice size x lo hi=>rW bl size (ev x) (lo.map ev) (hi.map ev)
  | .strSlice x lo hi=>HB (ev x) (lo.map ev) (hi.map ev)
  | .fieldAddr off x=>match ev x with
    | .ptr id o=>some (.ptr id (o + off),[])
    | .d (.ptr row o)=>some (.d (.ptr row (o + off)),[])
    | .orow id ver i o=>match bl id with
      | some (.rows v _ _ _)=>if ver = v then some (.orow id ver i (o + off),[]) else none
      | _=>none
    | _=>none
  | .field off size isAgg x=>match ev x with
    | .agg cs =>
      if isAgg then (if off + size ≤ cs.length then some (.agg ((cs.drop off).take size),[]) else none)
      else cs[off]?.map fun v=>(v,[])
    | _=>none
  | .indexAddr size x i=>match ev i with
    | .d (.int _ n)=>match ev x with
      | .own id ver=>match bl id with
        | some (.rows v e sz rows)=>if ver = v ∧ sz = size ∧ 0 ≤ n ∧ n.toNat < rows.length then some (.orow id ver n.toNat 0,[]) else none
        | some (.froz v rows)=>if ver = v ∧ 0 ≤ n then match rows[n.toNat]? with
          | some row=>if row.length = size then some (.d (.ptr row 0),[]) else none
          | none=>none
          else none
        | _=>none
      | .d (.sl rows)=>if 0 ≤ n then match rows[n.toNat]? with
        | some row=>if row.length = size then some (.d (.ptr row 0),[]) else none
        | none=>none
        else none
      | _=>none
    | _=>none
  | .index x i=>match ev x,ev i with
    | .d (.str s),.d (.int _ n)=>if 0 ≤ n then match s[n.toNat]? with
      | some b=>some (.d (.int .u8 b.toNat),[])
      | none=>none
      else none
    | _,_=>none
  | .len x=>(iI bl (ev x)).map fun rows=>(.d (.int .i64 rows.length),[])
  | .lenS x=>match ev x with
    | .d (.str s)=>some (.d (.int .i64 s.size),[])
    | _=>none
  | .append e size bytes x y=>match iI bl (ev y) with
    | none=>none
    | some new =>
      if sized size new = true then
      match ev x with
      | .nil=>match bl site with
        | none=>if new.length * bytes ≤ 140737488355328 then some (.own site 0,[(site,some (.rows 0 e size new))]) else none
        | some _=>none
      | .own id ver=>match bl id with
        | some (.rows v e' size' rows)=>if ver = v ∧ e' = e ∧ size' = size ∧ (rows.length + new.length) * bytes ≤ 140737488355328 then some (.own id (ver + 1),[(id,some (.rows (ver + 1) e size (rows ++ new)))]) else none
        | _=>none
      | _=>none
      else none
  | .makeSlice e size bytes z l c=>match bl site with
    | none=>match ev l,ev c with
      | .d (.int _ n),.d (.int _ m)=>if 0 ≤ n ∧ n ≤ m ∧ (bytes:Int) * m ≤ 281474976710656 ∧ m ≤ 9223372036854775807 then some (.own site 0,[(site,some (.rows 0 e size (List.replicate n.toNat z)))]) else none
      | _,_=>none
    | some _=>none
  | .max l=>EO.v (aGR (l.map ev))
  | .min l=>EO.v (aGs (l.map ev))
  | .extract x i=>match ev x with
    | .tup vs=>vs[i]?.map fun v=>(v,[])
    | _=>none
  | .call f args=>match bI (fun x=>iX bl (ev x)) args with
    | none=>none
    | some ds=>match C f ds with
      | none=>none
      | some r=>sH site bl (args.flatMap fun x=>sC bl (ev x)) r
  | .bytes x=>match ev x with
    | .d (.str s)=>some (.d (.sl (s.data.toList.map fun b=>[.int .u8 b.toNat])),[])
    | _=>none
  | .lend f args t=>match (args.map ev)[t]? with
    | some (.own id ver)=>match z0 bl t 0 (args.map ev) with
      | none=>none
      | some ds=>if wB id (pL bl t 0 (args.map ev)) = true then match C f ds with
          | some (.own y [(e,size)] [rows'])=>match bl id with
            | some (.rows v e' size' _)=>if ver = v ∧ e = e' ∧ size = size' ∧ EN y = true ∧ FG rows' = true then some (toV y,[(id,some (.rows v e size rows'))]) else none
            | _=>none
          | _=>none
        else none
    | _=>none
  | .cut size x lo hi=>EG bl size (ev x) (lo.map ev) (hi.map ev)
  | .clear z x=>match ev x with
    | .nil=>some (.any,[])
    | .own id ver=>match bl id with
      | some (.rows v e size rows)=>if ver = v ∧ z.length = size then some (.any,[(id,some (.rows v e size (List.replicate rows.length z)))]) else none
      | _=>none
    | _=>none
  | .mkfn f caps=>match bI (fun x=>j9 bl (ev x)) caps with
    | none=>none
    | some ds=>some (.d (.fn f ds),caps.flatMap fun x=>BU bl (ev x))
  | .callv g args=>match ev g with
    | .d (.fn f caps)=>match bI (fun x=>iX bl (ev x)) args with
      | none=>none
      | some ds=>match C f (ds ++ caps) with
        | none=>none
        | some r=>sH site bl (args.flatMap fun x=>sC bl (ev x)) r
    | _=>none
def St.put (s:St) (dst:Option Nat) (v:V) (wr:List (Nat × Option aX)):St :=
  ⟨match dst with | some d=>(d,v) :: s.fr | none=>s.fr,wr ++ s.bl⟩
def bT.site (o:bT):Nat:=o.dst.getD 0
inductive G where
  | run | skip | bad
def tZ:V→Bool→G
  | .d (.bool true),true=>.run
  | .d (.bool false),false=>.run
  | .d (.bool _),_=>.skip
  | .tup [],_=>.skip
  | _,_=>.bad
def bT.wants (fr:Nat→V) (o:bT):G:=match o.guard with
  | none=>.run
  | some (t,b)=>tZ (fr t) b
def qY (C:Nat→List D→Option D) (o:bT) (s:St):Option St :=
  match o.wants s.get with
  | .run=>match dW C o.site (cQ s.get) s.blk o.op with
    | some (v,wr)=>some (s.put o.dst v wr)
    | none=>none
  | .skip=>some (s.put o.dst (.tup []) [])
  | .bad=>none
def lG (C:Nat→List D→Option D):List bT→St→Option St
  | [],s=>some s
  | o :: r,s=>match qY C o s with
    | some s'=>lG C r s'
    | none=>none
end Vm
end Go.Proofs.Ytfhebiceipgdmaa
set_option linter.unusedVariables false
set_option linter.unusedSimpArgs false
namespace Go.Proofs.Ytfhebiceipgdmaa
namespace Vm
open Go.RowKit
abbrev Hp:=Nat→Option Obj
def Hp.le (h k:Hp):Prop:=∀ b o,h b = some o→k b = some o
def hw (w:World):Hp:=fun b=>w.heap[b]?
def Hp.cell (h:Hp) (b o:Nat):Option Value:=match h b with
  | some (.cells c _ _)=>c[o]?
  | _=>none
theorem Hp.le.refl (h:Hp):h.le h:=fun _ _ e=>e
theorem Hp.le.trans {a b c:Hp} (h:a.le b) (k:b.le c):a.le c:=fun x o e=>k x o (h x o e)
theorem Hp.cell_le {h k:Hp} (l:h.le k) {b o:Nat} {v:Value} (e:h.cell b o = some v):k.cell b o = some v:=by
  unfold Hp.cell at *
  cases hb:h b with
  | none=>simp [hb] at e
  | some x=>rw [l b x hb]; rw [hb] at e; exact e
theorem IR (w:World) (b o:Nat):w.cell? ⟨b,o,none⟩ = (hw w).cell b o:=by
  simp only [World.cell?,Hp.cell,hw]
  cases w.heap[b]? with
  | none=>rfl
  | some x=>cases x <;> rfl
structure fL extends World where
  L:Nat→Prop
  /-- slots that stay as they are -/
  F:Nat→Option Value
def fL.of (w:World):fL:={ w with L:=fun _=>False,F:=fun _=>none }
def E9 (nt:Nat) (b:fL) (dst:Option Nat):Prop:=∀ d,dst = some d→d < nt ∧ b.F d = none
def fL.own (b:fL) (g:Nat):Prop:=b.heap.size ≤ g ∨ b.L g
theorem fL.own_of {w:World} {g:Nat} (h:(fL.of w).own g):w.heap.size ≤ g:=by
  rcases h with h | h
  · exact h
  · exact h.elim
structure AM (b:fL) (w w' : World):Prop where
  os:w'.os = w.os
  tape:w'.tape = w.tape
  output:w'.output = w.output
  size:w.heap.size ≤ w'.heap.size
  block:∀ k,¬ b.own k→w'.heap[k]? = w.heap[k]?
theorem AM.refl (b:fL) (w:World):AM b w w:=⟨rfl,rfl,rfl,Nat.le_refl _,fun _ _=>rfl⟩
theorem AM.trans {b:fL} {u v w:World} (h:AM b u v) (k:AM b v w):AM b u w :=
  ⟨k.os.trans h.os,k.tape.trans h.tape,k.output.trans h.output,Nat.le_trans h.size k.size,fun i hi=>(k.block i hi).trans (h.block i hi)⟩
theorem fL.lt {b:fL} {k:Nat} (h:¬ b.own k):k < b.heap.size:=Nat.lt_of_not_le fun q=>h (.inl q)
theorem AM.of {b:fL} {w w' : World} (hb:b.heap.size ≤ w.heap.size) (h:Below w.heap.size w w'):AM b w w' :=
  ⟨h.os,h.tape,h.output,h.size,fun k hk=>h.block k (Nat.lt_of_lt_of_le (fL.lt hk) hb)⟩
theorem AM.below {w w' : World} (h:AM (fL.of w) w w'):Below w.heap.size w w' :=
  ⟨h.os,h.tape,h.output,h.size,fun k hk=>h.block k fun q=>by have:=fL.own_of q; omega⟩
theorem AM.alloc {b:fL} {w:World} (hb:b.heap.size ≤ w.heap.size) (o:Obj):AM b w (w.alloc o):=AM.of hb ((Below.refl _ _).alloc (Nat.le_refl _) o)
theorem AM.grown {b:fL} {w w' : World} {row:Option Nat} (hg:w.grownBy w' row) (hB:b.heap.size ≤ w.heap.size) (hr:∀ k,row = some k→b.own k):AM b w w' :=
  ⟨hg.os,hg.tape,hg.output,hg.size,fun k hk=>hg.block k (Nat.lt_of_lt_of_le (fL.lt hk) hB) fun e=>hk (hr k e.symm)⟩
theorem AM.drew {b:fL} {a w:World} (h:AM b a w):AM b a w.drew:=⟨h.os,h.tape,h.output,h.size,h.block⟩
def D.noTup:D→Bool
  | .tup _=>false
  | _=>true
inductive bY (h:Hp):Value→D→Prop
  | int (k:IntKind) (n:Int):bY h (.int k n) (.int k n)
  | bool (b:Bool):bY h (.bool b) (.bool b)
  | str (s:ByteArray) (hs:s.size ≤ maxLen):bY h (.string s) (.str s)
  | np:bY h (.pointer none) .np
  | fn (f:Nat) (arr:Array Value) (cs:List D) (hl:arr.size = cs.length) (hr:∀ (j:Nat) (x:D),cs[j]? = some x→bY h (arr.getD j undef) x):bY h (.func (.func f) #[] arr) (.fn f cs)
  | sl0 (a:Option Addr) (c:Nat) (h0:a = none→c = 0):bY h (.slice a 0 c) (.sl [])
  | sl (b off c k n:Nat) (rows:List (List D)) (cv:Nat→Nat→Value) (hn:n = rows.length) (hc:rows.length ≤ c)
      (hk:∀ (i:Nat) (row:List D),rows[i]? = some row→row.length = k)
      (hm:∀ (i:Nat) (row:List D) (j:Nat) (x:D),rows[i]? = some row→row[j]? = some x→h.cell b (off + i * k + j) = some (cv i j))
      (hr:∀ (i:Nat) (row:List D) (j:Nat) (x:D),rows[i]? = some row→row[j]? = some x→bY h (cv i j) x)
      (ho:∀ (i:Nat) (row:List D) (j:Nat) (x:D),rows[i]? = some row→row[j]? = some x→(cv i j).oneCell' = true):bY h (.slice (some ⟨b,off,none⟩) n c) (.sl rows)
  | agg (arr:Array Value) (cs:List D) (hl:arr.size = cs.length) (hr:∀ (j:Nat) (x:D),cs[j]? = some x→bY h (arr.getD j undef) x)
      (ho:∀ (j:Nat) (x:D),cs[j]? = some x→(arr.getD j undef).oneCell' = true):bY h (.agg arr) (.agg cs)
  | tup (arr:Array Value) (vs:List D) (hl:arr.size = vs.length) (hr:∀ (j:Nat) (x:D),vs[j]? = some x→bY h (arr.getD j undef) x) (hn:∀ (j:Nat) (x:D),vs[j]? = some x→x.noTup = true):bY h (.tuple arr) (.tup vs)
  | ptr (b o off n:Nat) (row:List D) (cv:Nat→Value) (hn:n = o + off)
      (hm:∀ (j:Nat) (x:D),row[j]? = some x→h.cell b (o + j) = some (cv j))
      (hr:∀ (j:Nat) (x:D),row[j]? = some x→bY h (cv j) x)
      (ho:∀ (j:Nat) (x:D),row[j]? = some x→(cv j).oneCell' = true):bY h (.pointer (some ⟨b,n,none⟩)) (.ptr row off)
theorem bY.mono {h k:Hp} (l:h.le k) {v:Value} {x:D} (r:bY h v x):bY k v x:=by
  induction r with
  | int=>exact .int _ _
  | bool=>exact .bool _
  | str s hs=>exact .str s hs
  | np=>exact .np
  | fn f arr cs hl hr ih=>exact .fn f arr cs hl ih
  | sl0 a c h0=>exact .sl0 a c h0
  | sl b off c kk n rows cv hn hc hk hm hr ho ih=>exact .sl b off c kk n rows cv hn hc hk (fun i row j x h1 h2=>Hp.cell_le l (hm i row j x h1 h2)) ih ho
  | agg arr cs hl hr ho ih=>exact .agg arr cs hl ih ho
  | tup arr vs hl hr hn ih=>exact .tup arr vs hl ih hn
  | ptr b o off n row cv hn hm hr ho ih=>exact .ptr b o off n row cv hn (fun j x h1=>Hp.cell_le l (hm j x h1)) ih ho
def D.atom:D→Bool
  | .agg _ | .tup _=>false
  | _=>true
theorem bY.one {h:Hp} {v:Value} {x:D} (r:bY h v x) (hx:x.atom = true):v.oneCell' = true:=by
  cases r <;> first | rfl | simp [D.atom] at hx
def gJ:Value→Option Nat
  | .pointer (some a)=>some a.block
  | .slice (some a) _ _=>some a.block
  | _=>none
def aX.ver? : aX→Option Nat
  | .rows v _ _ _=>some v
  | .froz v _=>some v
  | .box _=>none
  | .fbox _=>none
def aX.isBox:aX→Bool
  | .box _ | .fbox _=>true
  | _=>false
def R1 (h:Hp) (hd:Nat→Value) (bl:Nat→Option aX) (v:Value):V→Prop
  | .any=>True
  | .d x=>x.atom = true ∧ bY h v x
  | .nil=>v = .slice none 0 0
  | .ptr id off=>(∃ b,bl id = some b ∧ b.isBox = true) ∧ ∃ g,hd id = .pointer (some ⟨g,0,none⟩) ∧ v = .pointer (some ⟨g,off,none⟩)
  | .own id ver=>∃ b c,bl id = some b ∧ b.ver? = some c ∧ ver ≤ c ∧ v.oneCell' = true ∧ (ver = c→v = hd id)
  | .orow id ver i off=>∃ b c,bl id = some b ∧ b.ver? = some c ∧ ver ≤ c ∧ v.oneCell' = true ∧ ∀ e size rows,b = .rows ver e size rows→∃ g b n c,hd id = .slice (some ⟨g,b,none⟩) n c ∧ v = .pointer (some ⟨g,b + (i * size + off),none⟩)
  | .fn f caps=>caps = [] ∧ v = .func (.func f) #[] #[]
  | .agg _ | .tup _=>False
def R2 (h:Hp) (hd:Nat→Value) (bl:Nat→Option aX) (v:Value):V→Prop
  | .agg cs=>∃ arr,v = .agg arr ∧ arr.size = cs.length ∧ ∀ j x,cs[j]? = some x→R1 h hd bl (arr.getD j undef) x ∧ (arr.getD j undef).oneCell' = true
  | x=>R1 h hd bl v x
def R3 (h:Hp) (hd:Nat→Value) (bl:Nat→Option aX) (v:Value):V→Prop
  | .tup vs=>∃ arr,v = .tuple arr ∧ arr.size = vs.length ∧ ∀ j x,vs[j]? = some x→R2 h hd bl (arr.getD j undef) x
  | x=>R2 h hd bl v x
def kJ (w:World) (e size:Nat) (v:Value) (n:Nat) (xs:List Value):Prop:=xs.length = n * size ∧
  ((v = .slice none 0 0 ∧ n = 0) ∨ ∃ g o cap cur,v = .slice (some ⟨g,o * size,none⟩) n cap ∧ w.heap[g]? = some (.cells cur e (0,0)) ∧ n ≤ cap ∧ cap ≤ maxLen ∧ (o + cap) * size ≤ cur.size ∧ (cur.toList.drop (o * size)).take (n * size) = xs)
theorem wW {w:World} {base e size n:Nat} {v:Value} {xs:List Value} (h:w.ownsRow base e size v n xs):kJ w e size v n xs:=by
  refine ⟨h.1,?_⟩
  rcases h.2 with q | ⟨g,cap,cur,q1,q2,q3,q4,q5,q6,q7⟩
  · exact .inl q
  · exact .inr ⟨g,0,cap,cur,by simpa using q1,q3,q4,q5,by simp [q6],by simpa using q7⟩
theorem kJ.lt {w:World} {e size n:Nat} {v:Value} {xs:List Value} (h:kJ w e size v n xs):∀ g,gJ v = some g→g < w.heap.size:=by
  intro g hg
  rcases h.2 with ⟨rfl,_⟩ | ⟨g',o,cap,cur,rfl,q,_⟩
  · cases hg
  · cases hg; exact (Array.getElem?_eq_some_iff.1 q).1
theorem kJ.one {w:World} {e size n:Nat} {v:Value} {xs:List Value} (h:kJ w e size v n xs):v.oneCell' = true:=by
  rcases h.2 with ⟨rfl,_⟩ | ⟨g',o,cap,cur,rfl,q,_⟩ <;> rfl
theorem kJ.num {w:World} {e size n:Nat} {v:Value} {xs:List Value} (h:kJ w e size v n xs):gJ v = v.ownBlock:=by
  rcases h.2 with ⟨rfl,_⟩ | ⟨g',o,cap,cur,rfl,q,_⟩ <;> rfl
theorem kJ.cells {w:World} {e size n:Nat} {v:Value} {xs:List Value} (h:kJ w e size v n xs) {g b m c:Nat} (hv:v = .slice (some ⟨g,b,none⟩) m c):∀ (j:Nat) (u:Value),xs[j]? = some u→w.cell? ⟨g,b + j,none⟩ = some u:=by
  intro j u hj
  rcases h.2 with ⟨rfl,_⟩ | ⟨g',o,cap,cur,rfl,q,q1,q2,q3,q4⟩
  · cases hv
  · cases hv
    rw [← q4,List.getElem?_take] at hj
    split at hj
    · rw [List.getElem?_drop] at hj
      have:cur[o * size + j]? = some u:=by simpa using hj
      simp [World.cell?,q,this]
    · cases hj
def kC (h:Hp) (size:Nat) (rows:List (List D)) (xs:List Value):Prop :=
  ∀ i row,rows[i]? = some row→row.length = size ∧ ∀ j x,row[j]? = some x→x.atom = true ∧ ∃ u,xs[i * size + j]? = some u ∧ bY h u x
def BR (base:fL) (w:World) (h:Hp) (hd:Nat→Value) (bl:Nat→Option aX) (id:Nat):aX→Prop
  | .box cs=>∃ g arr e,hd id = .pointer (some ⟨g,0,none⟩) ∧ base.own g ∧ w.heap[g]? = some (.cells arr e (0,0)) ∧ arr.size = cs.length ∧
      (∀ j x,cs[j]? = some x→R1 h hd bl (arr.getD j undef) x ∧ (arr.getD j undef).oneCell' = true) ∧ h g = none
  | .rows ver e size rows=>0 < size ∧ rows.length ≤ maxLen ∧ (∃ xs,kJ w e size (hd id) rows.length xs ∧ kC h size rows xs) ∧ ∀ g,gJ (hd id) = some g→h g = none ∧ base.own g
  | .froz ver rows=>bY h (hd id) (.sl rows)
  | .fbox cs=>bY h (hd id) (.ptr cs 0)
def aX.live:aX→Bool
  | .froz _ _=>false
  | .fbox _=>false
  | _=>true
structure Rl (nt:Nat) (w0:fL) (h0:Hp) (fr:Nat→V) (bl:Nat→Option aX) (a:Act) (w:World) (h:Hp) (hd:Nat→Value):Prop where
  tmps:a.tmps.size = nt
  defers:a.defers = []
  fixed:∀ t v,w0.F t = some v→a.tmps.getD t undef = v
  below:AM w0 w0.toWorld w
  hle:h.le (hw w)
  h0le:h0.le h
  hbase:∀ b,¬ w0.own b→h b = h0 b
  frame:∀ t,R3 h hd bl (a.tmps.getD t undef) (fr t)
  blk:∀ id b,bl id = some b→BR w0 w h hd bl id b
  sep:∀ i j bi bj g,bl i = some bi→bl j = some bj→bi.live = true→bj.live = true→gJ (hd i) = some g→gJ (hd j) = some g→i = j
def wY (hd hd' : Nat→Value) (id:Nat):aX→aX→Prop
  | .box _,.box _=>hd' id = hd id
  | .box _,.fbox _=>hd' id = hd id
  | .fbox _,.fbox _=>hd' id = hd id
  | .rows v e s _,.rows v' e' s' _=>(v' = v ∧ e' = e ∧ s' = s ∧ hd' id = hd id) ∨ v < v'
  | .rows v _ _ _,.froz v' _=>v' = v ∧ hd' id = hd id
  | .froz v _,.froz v' _=>v' = v ∧ hd' id = hd id
  | _,_=>False
def Kp (hd hd' : Nat→Value) (bl bl' : Nat→Option aX):Prop:=∀ id b,bl id = some b→∃ b',bl' id = some b' ∧ wY hd hd' id b b'
theorem wY.refl (hd:Nat→Value) (id:Nat) (b:aX):wY hd hd id b b:=by cases b <;> simp [wY]
theorem Kp.refl (hd:Nat→Value) (bl:Nat→Option aX):Kp hd hd bl bl:=fun id b h=>⟨b,h,wY.refl hd id b⟩
section
variable {h h' : Hp} {hd hd' : Nat→Value} {bl bl' : Nat→Option aX} {v:Value}
theorem R1.keep (l:h.le h') (k:Kp hd hd' bl bl'):∀ {x:V},R1 h hd bl v x→R1 h' hd' bl' v x:=by
  intro x r
  cases x with
  | any=>trivial
  | d x=>exact ⟨r.1,r.2.mono l⟩
  | nil=>exact r
  | agg cs=>exact r
  | tup cs=>exact r
  | ptr id off =>
    obtain ⟨⟨b,hb,hx⟩,g,hg,e⟩:=r
    obtain ⟨b',hb',kk⟩:=k _ _ hb
    cases b <;> cases b' <;> simp only [wY] at kk <;> first | (simp [aX.isBox] at hx; done) | exact ⟨⟨_,hb',rfl⟩,g,kk.trans hg,e⟩
  | own id ver =>
    obtain ⟨b,c,hb,hc,hle,h1,he⟩:=r
    obtain ⟨b',hb',kk⟩:=k _ _ hb
    cases b <;> cases b' <;> simp only [wY] at kk <;> simp only [aX.ver?,Option.some.injEq,reduceCtorEq] at hc
    · rcases kk with ⟨rfl,_,_,kk⟩ | kk
      · exact ⟨_,_,hb',rfl,by omega,h1,fun e=>(he (by omega)).trans kk.symm⟩
      · exact ⟨_,_,hb',rfl,by omega,h1,fun e=>by omega⟩
    · obtain ⟨rfl,kk⟩:=kk
      exact ⟨_,_,hb',rfl,by omega,h1,fun e=>(he (by omega)).trans kk.symm⟩
    · obtain ⟨rfl,kk⟩:=kk
      exact ⟨_,_,hb',rfl,by omega,h1,fun e=>(he (by omega)).trans kk.symm⟩
  | orow id ver i off =>
    obtain ⟨b,c,hb,hc,hle,h1,he⟩:=r
    obtain ⟨b',hb',kk⟩:=k _ _ hb
    cases b <;> cases b' <;> simp only [wY] at kk <;> simp only [aX.ver?,Option.some.injEq,reduceCtorEq] at hc
    · rcases kk with ⟨rfl,rfl,rfl,kk⟩ | kk
      · refine ⟨_,_,hb',rfl,by omega,h1,fun e s rows eq=>?_⟩
        cases eq
        rw [kk]
        exact he _ _ _ rfl
      · exact ⟨_,_,hb',rfl,by omega,h1,fun e s rows eq=>by cases eq; omega⟩
    · exact ⟨_,_,hb',rfl,by omega,h1,fun e s rows eq=>by cases eq⟩
    · exact ⟨_,_,hb',rfl,by omega,h1,fun e s rows eq=>by cases eq⟩
  | fn f caps=>exact r
theorem R1.one {x:V} (r:R1 h hd bl v x) (hx:x ≠ .any):v.oneCell' = true:=by
  cases x with
  | any=>exact absurd rfl hx
  | d x=>exact r.2.one r.1
  | nil=>rw [show v = _ from r]; rfl
  | agg cs=>exact r.elim
  | tup cs=>exact r.elim
  | ptr id off=>obtain ⟨_,g,_,rfl⟩:=r; rfl
  | own id ver=>obtain ⟨b,c,hb,hc,hle,h1,he⟩:=r; exact h1
  | orow id ver i off=>obtain ⟨b,c,hb,hc,hle,h1,he⟩:=r; exact h1
  | fn f caps=>rw [show v = _ from r.2]; rfl
theorem R2.of1 {x:V} (r:R1 h hd bl v x):R2 h hd bl v x:=by
  cases x <;> first | exact r | exact r.elim
theorem R3.of2 {x:V} (r:R2 h hd bl v x):R3 h hd bl v x:=by
  cases x <;> first | exact r | exact r.elim
theorem R2.keep (l:h.le h') (k:Kp hd hd' bl bl'):∀ {x:V},R2 h hd bl v x→R2 h' hd' bl' v x:=by
  intro x r
  cases x with
  | agg cs =>
    obtain ⟨arr,e,hs,hr⟩:=r
    exact ⟨arr,e,hs,fun j x hx=>⟨(hr j x hx).1.keep l k,(hr j x hx).2⟩⟩
  | _=>exact R2.of1 (R1.keep l k r)
theorem R3.keep (l:h.le h') (k:Kp hd hd' bl bl'):∀ {x:V},R3 h hd bl v x→R3 h' hd' bl' v x:=by
  intro x r
  cases x with
  | tup cs =>
    obtain ⟨arr,e,hs,hr⟩:=r
    exact ⟨arr,e,hs,fun j x hx=>(hr j x hx).keep l k⟩
  | _=>exact R3.of2 (R2.keep l k r)
theorem kC.mono {size:Nat} {rows:List (List D)} {xs:List Value} (l:h.le h') (r:kC h size rows xs):kC h' size rows xs:=fun i row hi =>
  ⟨(r i row hi).1,fun j x hx=>⟨((r i row hi).2 j x hx).1,by obtain ⟨u,h1,h2⟩:=((r i row hi).2 j x hx).2; exact ⟨u,h1,h2.mono l⟩⟩⟩
end
theorem IU {base:Nat} {w:World} {e size n:Nat} {v:Value} {xs:List Value} (h:w.ownsRow base e size v n xs):gJ v = v.ownBlock:=by
  rcases h.2 with ⟨rfl,_⟩ | ⟨g,cap,cur,rfl,_⟩ <;> rfl
theorem BR.keep {base:fL} {w w' : World} {h h' : Hp} {hd hd' : Nat→Value} {bl bl' : Nat→Option aX} {id:Nat} {b:aX} (l:h.le h') (k:Kp hd hd' bl bl')
    (hh:hd' id = hd id) (hw:b.live = true→∀ g,gJ (hd id) = some g→w'.heap[g]? = w.heap[g]? ∧ (h g = none→h' g = none)) (r:BR base w h hd bl id b):BR base w' h' hd' bl' id b:=by
  cases b with
  | box cs =>
    obtain ⟨g,arr,e,h1,h2,h3,h4,h5,h6⟩:=r
    obtain ⟨q1,q2⟩:=hw rfl g (by rw [h1]; rfl)
    exact ⟨g,arr,e,hh.trans h1,h2,q1.trans h3,h4,fun j x hx=>⟨(h5 j x hx).1.keep l k,(h5 j x hx).2⟩,q2 h6⟩
  | rows ver e size rows =>
    obtain ⟨h1,h2,⟨xs,h3,h4⟩,h5⟩:=r
    refine ⟨h1,h2,⟨xs,?_,h4.mono l⟩,fun g hg=>⟨(hw rfl g (hh ▸ hg)).2 (h5 g (hh ▸ hg)).1,(h5 g (hh ▸ hg)).2⟩⟩
    rw [hh]
    refine ⟨h3.1,?_⟩
    rcases h3.2 with q | ⟨g,o,cap,cur,q1,q3,q4⟩
    · exact .inl q
    · exact .inr ⟨g,o,cap,cur,q1,((hw rfl g (by rw [q1]; rfl)).1).trans q3,q4⟩
  | froz ver rows =>
    show bY h' (hd' id) (.sl rows)
    rw [hh]
    exact bY.mono l r
  | fbox cs =>
    show bY h' (hd' id) (.ptr cs 0)
    rw [hh]
    exact bY.mono l r
theorem BR.num {base:fL} {w:World} {h:Hp} {hd:Nat→Value} {bl:Nat→Option aX} {id:Nat} {b:aX} (hb:b.live = true) (r:BR base w h hd bl id b) {g:Nat} (hg:gJ (hd id) = some g) :
    base.own g ∧ g < w.heap.size ∧ h g = none:=by
  cases b with
  | box cs =>
    obtain ⟨g',arr,e,h1,h2,h3,h4,h5,h6⟩:=r
    rw [h1] at hg
    obtain rfl:=Option.some.inj hg
    exact ⟨h2,(Array.getElem?_eq_some_iff.1 h3).1,h6⟩
  | rows ver e size rows =>
    obtain ⟨h1,h2,⟨xs,h3,h4⟩,h5⟩:=r
    have:=h3.lt g hg
    exact ⟨(h5 g hg).2,this,(h5 g hg).1⟩
  | froz ver rows=>simp [aX.live] at hb
  | fbox cs=>simp [aX.live] at hb
end Vm
end Go.Proofs.Ytfhebiceipgdmaa
set_option linter.unusedVariables false
set_option linter.unusedSimpArgs false
namespace Go.Proofs.Ytfhebiceipgdmaa
namespace Vm
open Go.RowKit
theorem cO {α β:Type} {f:α→Option β}:∀ {l:List α} {ys:List β},bI f l = some ys→l.length = ys.length ∧ ∀ (i:Nat) (x:α),l[i]? = some x→∃ y,ys[i]? = some y ∧ f x = some y
  | [],ys,h=>by simp [bI] at h; subst h; simp
  | x :: r,ys,h=>by
    simp only [bI] at h
    split at h
    · cases h
    · rename_i y hy
      split at h
      · cases h
      · rename_i zs hz
        cases h
        obtain ⟨h1,h2⟩:=cO hz
        refine ⟨by simp [h1],fun i x' hx=>?_⟩
        cases i with
        | zero=>simp at hx; subst hx; exact ⟨y,by simp,hy⟩
        | succ i=>simpa using h2 i x' (by simpa using hx)
theorem dQ {α β:Type} {f:α→Option β} {l:List α} {ys:List β} (h:bI f l = some ys) {i:Nat} {y:β} (hy:ys[i]? = some y):∃ x,l[i]? = some x ∧ f x = some y:=by
  obtain ⟨h1,h2⟩:=cO h
  have:i < l.length:=by rw [h1]; exact (List.getElem?_eq_some_iff.1 hy).1
  obtain ⟨y',q1,q2⟩:=h2 i l[i] (by simp [this])
  rw [hy] at q1
  cases q1
  exact ⟨l[i],by simp [this],q2⟩
def cH (fr:Nat→V) (dst:Option Nat) (v:V):Nat→V:=fun t=>if dst = some t then v else fr t
def cA (bl:Nat→Option aX) (wr:List (Nat × Option aX)):Nat→Option aX:=fun id=>lk wr (bl id) id
theorem M2 (bl:Nat→Option aX) (i:Nat) (b:Option aX) (wr:List (Nat × Option aX)):cA bl ((i,b) :: wr) = cA (cA bl wr) [(i,b)]:=by
  funext id; simp [cA,lk]
theorem gA (bl:Nat→Option aX) (i:Nat) (b:Option aX):cA bl [(i,b)] i = b:=by simp [cA,lk]
theorem nX (bl:Nat→Option aX) {i j:Nat} (b:Option aX) (h:j ≠ i):cA bl [(i,b)] j = bl j:=by simp [cA,lk,h]
theorem JW (a:Act) (dst:Option Nat) (cv:Value) (t nt:Nat) (hs:a.tmps.size = nt) (hd:∀ d,dst = some d→d < nt) :
    (a.put dst cv).tmps.getD t undef = if dst = some t then cv else a.tmps.getD t undef:=by
  cases dst with
  | none=>simp [Act.put]
  | some d =>
    have:=hd d rfl
    simp only [Act.put,Option.some.injEq]
    by_cases e:d = t
    · subst e; simp [hs,this]
    · simp [e,Array.getElem?_setIfInBounds_ne e]
section
variable {nt:Nat} {w0:fL} {w w' : World} {h0 h h' : Hp} {fr:Nat→V} {bl bl' : Nat→Option aX} {a:Act} {hd hd' : Nat→Value}
theorem Rl.put (r:Rl nt w0 h0 fr bl a w h hd) (dst:Option Nat) (cv:Value) (v:V) (hdst:E9 nt w0 dst)
    (hl:h.le h') (hle:h'.le (hw w')) (hb:∀ b,¬ w0.own b→h' b = h b) (hbel:AM w0 w w') (hk:Kp hd hd' bl bl')
    (hB:∀ id b,bl' id = some b→BR w0 w' h' hd' bl' id b)
    (hsep:∀ i j bi bj g,bl' i = some bi→bl' j = some bj→bi.live = true→bj.live = true→gJ (hd' i) = some g→gJ (hd' j) = some g→i = j)
    (hv:R3 h' hd' bl' cv v):Rl nt w0 h0 (cH fr dst v) bl' (a.put dst cv) w' h' hd' where
  tmps:=by cases dst <;> simp [Act.put,r.tmps]
  defers:=by cases dst <;> simp [Act.put,r.defers]
  fixed:=fun t u hF=>by
    rw [JW a dst cv t nt r.tmps fun d e=>(hdst d e).1]
    by_cases e:dst = some t
    · rw [(hdst t e).2] at hF; cases hF
    · rw [if_neg e]; exact r.fixed t u hF
  below:=r.below.trans hbel
  hle:=hle
  h0le:=r.h0le.trans hl
  hbase:=fun b h=>(hb b h).trans (r.hbase b h)
  frame:=fun t=>by
    rw [JW a dst cv t nt r.tmps fun d e=>(hdst d e).1]
    unfold cH
    by_cases e:dst = some t
    · rw [if_pos e,if_pos e]; exact hv
    · rw [if_neg e,if_neg e]; exact (r.frame t).keep hl hk
  blk:=hB
  sep:=hsep
theorem Rl.put0 (r:Rl nt w0 h0 fr bl a w h hd) (dst:Option Nat) (cv:Value) (v:V) (hdst:E9 nt w0 dst) (hv:R3 h hd bl cv v) :
    Rl nt w0 h0 (cH fr dst v) bl (a.put dst cv) w h hd :=
  r.put dst cv v hdst (Hp.le.refl _) r.hle (fun _ _=>rfl) (AM.refl _ _) (Kp.refl _ _) r.blk r.sep hv
theorem Rl.turn (r:Rl nt w0 h0 fr bl a w h hd) (dst:Option Nat) (cv:Value) (v:V) (hdst:E9 nt w0 dst)
    (id:Nat) (b:aX) (hv' : Value) (hbel:AM w0 w w') (hle:h.le (hw w'))
    (hk:∀ b0,bl id = some b0→wY hd (fun i=>if i = id then hv' else hd i) id b0 b)
    (hoth:∀ g,g < w.heap.size→(∀ b0,bl id = some b0→b0.live = true→gJ (hd id) ≠ some g)→w'.heap[g]? = w.heap[g]?)
    (hB:BR w0 w' h (fun i=>if i = id then hv' else hd i) (cA bl [(id,some b)]) id b)
    (hnew:∀ g,gJ hv' = some g→b.live = true→w.heap.size ≤ g ∨ ∃ b0,bl id = some b0 ∧ b0.live = true ∧ gJ (hd id) = some g)
    (hvv:R3 h (fun i=>if i = id then hv' else hd i) (cA bl [(id,some b)]) cv v) :
    Rl nt w0 h0 (cH fr dst v) (cA bl [(id,some b)]) (a.put dst cv) w' h (fun i=>if i = id then hv' else hd i):=by
  have hkp:Kp hd (fun i=>if i = id then hv' else hd i) bl (cA bl [(id,some b)]):=by
    intro j c hj
    by_cases e:j = id
    · subst e; exact ⟨b,gA _ _ _,hk c hj⟩
    · refine ⟨c,by rw [nX _ _ e]; exact hj,?_⟩
      have:=wY.refl hd j c
      cases c <;> simp only [wY] at this ⊢ <;> simp [e]
  refine r.put dst cv v hdst (Hp.le.refl _) hle (fun _ _=>rfl) hbel hkp ?_ ?_ hvv
  · intro j c hj
    by_cases e:j = id
    · subst e
      rw [gA] at hj
      obtain rfl:=Option.some.inj hj
      exact hB
    · rw [nX _ _ e] at hj
      refine (r.blk j c hj).keep (Hp.le.refl _) hkp (by simp [e]) fun hl g hg=>⟨?_,fun q=>q⟩
      refine hoth g ((r.blk j c hj).num hl hg).2.1 fun b0 hb0 hl0 hg0=>e (r.sep j id c b0 g hj hb0 hl hl0 hg hg0)
  · intro i j bi bj g hi hj li lj gi gj
    by_cases ei:i = id
    · subst ei
      by_cases ej:j = i
      · exact ej.symm
      · rw [nX _ _ ej] at hj
        rw [gA] at hi
        obtain rfl:=Option.some.inj hi
        simp only [if_pos] at gi
        rw [if_neg ej] at gj
        exfalso
        rcases hnew g gi li with q | ⟨b0,q1,q2,q3⟩
        · have:=((r.blk j bj hj).num lj gj).2.1; omega
        · exact ej (r.sep j i bj b0 g hj q1 lj q2 gj q3)
    · rw [nX _ _ ei] at hi
      rw [if_neg ei] at gi
      by_cases ej:j = id
      · subst ej
        rw [gA] at hj
        obtain rfl:=Option.some.inj hj
        simp only [if_pos] at gj
        exfalso
        rcases hnew g gj lj with q | ⟨b0,q1,q2,q3⟩
        · have:=((r.blk i bi hi).num li gi).2.1; omega
        · exact ei (r.sep i j bi b0 g hi q1 li q2 gi q3)
      · rw [nX _ _ ej] at hj
        rw [if_neg ej] at gj
        exact r.sep i j bi bj g hi hj li lj gi gj
theorem aAw (hle:h.le (hw w)) (o:Obj):h.le (hw (w.alloc o)):=fun b x e=>by
  have:=hle b x e
  have hlt:b < w.heap.size:=(Array.getElem?_eq_some_iff.1 this).1
  exact (heap_alloc_old w o b hlt).trans this
theorem ET (hle:h.le (hw w)) {g:Nat} (hg:w.heap.size ≤ g):h g = none:=by
  cases e:h g with
  | none=>rfl
  | some o=>exact absurd (Array.getElem?_eq_some_iff.1 (hle g o e)).1 (by omega)
theorem aEI {base e size n:Nat} {v:Value} {xs:List Value} (h:w.ownsRow base e size v n xs):v.oneCell' = true:=by
  rcases h.2 with ⟨rfl,_⟩ | ⟨g,cap,cur,rfl,_⟩ <;> rfl
theorem Rl.newBox (r:Rl nt w0 h0 fr bl a w h hd) (dst:Option Nat) (hdst:E9 nt w0 dst) (site:Nat) (hs:bl site = none) (arr:Array Value) (e:TypeId) (cs:List V)
    (hl:arr.size = cs.length) (hr:∀ j x,cs[j]? = some x→R1 h hd bl (arr.getD j undef) x ∧ (arr.getD j undef).oneCell' = true) :
    ∃ hd',Rl nt w0 h0 (cH fr dst (.ptr site 0)) (cA bl [(site,some (.box cs))]) (a.put dst (.pointer (some ⟨w.heap.size,0,none⟩))) (w.alloc (.cells arr e)) h hd':=by
  have hbase:w0.heap.size ≤ w.heap.size:=r.below.size
  have hkp:Kp hd (fun i=>if i = site then .pointer (some ⟨w.heap.size,0,none⟩) else hd i) bl (cA bl [(site,some (.box cs))]):=by
    intro j c hj
    have e:j ≠ site:=fun e=>by rw [e,hs] at hj; cases hj
    refine ⟨c,by rw [nX _ _ e]; exact hj,?_⟩
    have:=wY.refl hd j c
    cases c <;> simp only [wY] at this ⊢ <;> simp [e]
  refine ⟨_,r.turn dst _ _ hdst site (.box cs) (.pointer (some ⟨w.heap.size,0,none⟩)) (AM.alloc hbase _) (aAw r.hle _)
    (fun b0 hb0=>by rw [hs] at hb0; cases hb0) (fun g hg _=>heap_alloc_old w _ g hg) ?_ (fun g hg _=>.inl (by simp [gJ] at hg; omega)) ?_⟩
  · exact ⟨w.heap.size,arr,e,by simp,.inl hbase,heap_alloc_new w _,hl,fun j x hx=>⟨(hr j x hx).1.keep (Hp.le.refl _) hkp,(hr j x hx).2⟩,ET r.hle (Nat.le_refl _)⟩
  · exact ⟨⟨_,gA _ _ _,rfl⟩,w.heap.size,by simp,rfl⟩
theorem Rl.newRows' (r:Rl nt w0 h0 fr bl a w h hd) (dst:Option Nat) (hdst:E9 nt w0 dst) (site:Nat) (hs:bl site = none) (e size:Nat) (rows:List (List D)) (hv:Value) (xs:List Value)
    (hsz:0 < size) (hlen:rows.length ≤ maxLen) (hg:w.grownBy w' none) (hown:w'.ownsRow w.heap.size e size hv rows.length xs) (hin:kC h size rows xs) :
    ∃ hd' : Nat→Value,hd' site = hv ∧ Rl nt w0 h0 (cH fr dst (.own site 0)) (cA bl [(site,some (.rows 0 e size rows))]) (a.put dst hv) w' h hd':=by
  have hbase:w0.heap.size ≤ w.heap.size:=r.below.size
  have hown':=wW hown
  have hbel:AM w0 w w':=AM.grown hg hbase (fun k hk=>by cases hk)
  have hle:h.le (hw w'):=fun b o hb=>by
    have:=r.hle b o hb
    exact (hg.block b (Array.getElem?_eq_some_iff.1 this).1 (by simp)).trans this
  refine ⟨_,by simp,r.turn dst _ _ hdst site (.rows 0 e size rows) hv hbel hle
    (fun b0 hb0=>by rw [hs] at hb0; cases hb0) (fun g hg' _=>hg.block g hg' (by simp)) ?_ (fun g hg' _=>.inl (hown.lt g ((IU hown) ▸ hg')).1) ?_⟩
  · exact ⟨hsz,hlen,⟨xs,by simpa using hown',hin⟩,fun g hg'=>⟨ET r.hle (hown.lt g ((IU hown) ▸ (by simpa using hg'))).1,.inl (Nat.le_trans hbase (hown.lt g ((IU hown) ▸ (by simpa using hg'))).1)⟩⟩
  · exact ⟨_,0,gA _ _ _,rfl,Nat.le_refl _,aEI hown,fun _=>by simp⟩
theorem Rl.newRows (r:Rl nt w0 h0 fr bl a w h hd) (dst:Option Nat) (hdst:E9 nt w0 dst) (site:Nat) (hs:bl site = none) (e size:Nat) (rows:List (List D)) (hv:Value) (xs:List Value)
    (hsz:0 < size) (hlen:rows.length ≤ maxLen) (hg:w.grownBy w' none) (hown:w'.ownsRow w.heap.size e size hv rows.length xs) (hin:kC h size rows xs) :
    ∃ hd',Rl nt w0 h0 (cH fr dst (.own site 0)) (cA bl [(site,some (.rows 0 e size rows))]) (a.put dst hv) w' h hd' :=
  let ⟨hd',_,q⟩:=r.newRows' dst hdst site hs e size rows hv xs hsz hlen hg hown hin
  ⟨hd',q⟩
theorem Rl.grow (r:Rl nt w0 h0 fr bl a w h hd) (dst:Option Nat) (hdst:E9 nt w0 dst) (id ver e size:Nat) (rows rows' : List (List D)) (hb:bl id = some (.rows ver e size rows)) (hv:Value) (xs:List Value)
    (hlen:rows'.length ≤ maxLen) (hg:w.grownBy w' (hd id).ownBlock) (hown:kJ w' e size hv rows'.length xs) (hin:kC h size rows' xs)
    (hnew:∀ g,gJ hv = some g→w.heap.size ≤ g ∨ gJ (hd id) = some g) :
    ∃ hd',Rl nt w0 h0 (cH fr dst (.own id (ver + 1))) (cA bl [(id,some (.rows (ver + 1) e size rows'))]) (a.put dst hv) w' h hd':=by
  have hbase:w0.heap.size ≤ w.heap.size:=r.below.size
  obtain ⟨q1,q2,⟨xs0,q3,q4⟩,q5⟩:=r.blk id _ hb
  have hnum:gJ (hd id) = (hd id).ownBlock:=q3.num
  have hbel:AM w0 w w':=AM.grown hg hbase (fun k hk=>(q5 k (hnum.trans hk)).2)
  have hle:h.le (hw w'):=fun b o hb'=>by
    have:=r.hle b o hb'
    refine (hg.block b (Array.getElem?_eq_some_iff.1 this).1 fun e'=>?_).trans this
    rw [(q5 b (hnum.trans e'.symm)).1] at hb'
    cases hb'
  refine ⟨_,r.turn dst _ _ hdst id (.rows (ver + 1) e size rows') hv hbel hle
    (fun b0 hb0=>by rw [hb] at hb0; cases hb0; exact .inr (Nat.lt_succ_self _)) (fun g hg' hne=>hg.block g hg' (fun e'=>hne _ hb rfl (hnum.trans e'.symm))) ?_
    (fun g hg' _=>(hnew g hg').imp (fun q=>q) fun q=>⟨_,hb,rfl,q⟩) ?_⟩
  · refine ⟨q1,hlen,⟨xs,by simpa using hown,hin⟩,fun g hg'=>?_⟩
    simp only [if_pos] at hg'
    rcases hnew g hg' with q | q
    · exact ⟨ET r.hle q,.inl (Nat.le_trans hbase q)⟩
    · exact q5 g q
  · exact ⟨_,ver + 1,gA _ _ _,rfl,Nat.le_refl _,hown.one,fun _=>by simp⟩
theorem Rl.setBox (r:Rl nt w0 h0 fr bl a w h hd) (dst:Option Nat) (hdst:E9 nt w0 dst) (cv:Value) (id:Nat) (cs cs' : List V) (hb:bl id = some (.box cs)) (g:Nat) (arr arr' : Array Value) (e:TypeId)
    (hd0:hd id = .pointer (some ⟨g,0,none⟩)) (hl:arr'.size = cs'.length) (hr:∀ j x,cs'[j]? = some x→R1 h hd bl (arr'.getD j undef) x ∧ (arr'.getD j undef).oneCell' = true)
    (hg' : w'.heap[g]? = some (.cells arr' e (0,0))) (hg:w.grownBy w' (some g)) :
    ∃ hd',Rl nt w0 h0 (cH fr dst .any) (cA bl [(id,some (.box cs'))]) (a.put dst cv) w' h hd':=by
  have hbase:w0.heap.size ≤ w.heap.size:=r.below.size
  have hnum:gJ (hd id) = some g:=by rw [hd0]; rfl
  obtain ⟨n1,n2,n3⟩:=(r.blk id _ hb).num rfl hnum
  have hbel:AM w0 w w':=AM.grown hg hbase (fun k hk=>by cases hk; exact n1)
  have hle:h.le (hw w'):=fun b o hb'=>by
    have:=r.hle b o hb'
    refine (hg.block b (Array.getElem?_eq_some_iff.1 this).1 fun e'=>?_).trans this
    cases e'
    rw [n3] at hb'
    cases hb'
  have hfe:(fun i=>if i = id then hd id else hd i) = hd:=by funext i; by_cases e:i = id <;> simp [e]
  have hkp:Kp hd hd bl (cA bl [(id,some (.box cs'))]):=by
    intro j c hj
    by_cases e:j = id
    · subst e; rw [hb] at hj; cases hj; exact ⟨_,gA _ _ _,rfl⟩
    · exact ⟨c,by rw [nX _ _ e]; exact hj,wY.refl hd j c⟩
  have:=r.turn (w':=w') dst cv .any hdst id (.box cs') (hd id) hbel hle
    (fun b0 hb0=>by rw [hb] at hb0; cases hb0; simp [wY]) (fun k hk hne=>hg.block k hk (fun e'=>by cases e'; exact hne _ hb rfl hnum)) ?_
    (fun k hk _=>.inr ⟨_,hb,rfl,hk⟩) trivial
  · rw [hfe] at this; exact ⟨_,this⟩
  · rw [hfe]
    exact ⟨g,arr',e,hd0,n1,hg',hl,fun j x hx=>⟨(hr j x hx).1.keep (Hp.le.refl _) hkp,(hr j x hx).2⟩,n3⟩
theorem Rl.setRows (r:Rl nt w0 h0 fr bl a w h hd) (dst:Option Nat) (hdst:E9 nt w0 dst) (cv:Value) (id ver e size:Nat) (rows rows' : List (List D)) (hb:bl id = some (.rows ver e size rows)) (xs:List Value)
    (hlen:rows'.length = rows.length) (hg:w.grownBy w' (hd id).ownBlock) (hown:kJ w' e size (hd id) rows'.length xs) (hin:kC h size rows' xs) :
    Rl nt w0 h0 (cH fr dst .any) (cA bl [(id,some (.rows ver e size rows'))]) (a.put dst cv) w' h hd:=by
  have hbase:w0.heap.size ≤ w.heap.size:=r.below.size
  obtain ⟨q1,q2,⟨xs0,q3,q4⟩,q5⟩:=r.blk id _ hb
  have hnum:gJ (hd id) = (hd id).ownBlock:=q3.num
  have hbel:AM w0 w w':=AM.grown hg hbase (fun k hk=>(q5 k (hnum.trans hk)).2)
  have hle:h.le (hw w'):=fun b o hb'=>by
    have:=r.hle b o hb'
    refine (hg.block b (Array.getElem?_eq_some_iff.1 this).1 fun e'=>?_).trans this
    rw [(q5 b (hnum.trans e'.symm)).1] at hb'
    cases hb'
  have hfe:(fun i=>if i = id then hd id else hd i) = hd:=by funext i; by_cases e:i = id <;> simp [e]
  have:=r.turn (w':=w') dst cv .any hdst id (.rows ver e size rows') (hd id) hbel hle
    (fun b0 hb0=>by rw [hb] at hb0; cases hb0; simp [wY]) (fun g hg' hne=>hg.block g hg' (fun e'=>hne _ hb rfl (hnum.trans e'.symm))) ?_
    (fun g hg' _=>.inr ⟨_,hb,rfl,hg'⟩) trivial
  · rw [hfe] at this; exact this
  · rw [hfe]
    exact ⟨q1,by omega,⟨xs,hown,hin⟩,q5⟩
def rJ (bl:Nat→Option aX) (wr:List (Nat × Option aX)):Prop:=∀ p ∈ wr,(∃ v e s rows,bl p.1 = some (.rows v e s rows) ∧ p.2 = some (.froz v rows)) ∨
  (∃ cs ds,bl p.1 = some (.box cs) ∧ p.2 = some (.fbox ds) ∧ bI (pI bl) cs = some ds ∧ ∀ q ∈ cs.flatMap (CO bl),q ∈ wr)
theorem rJ.live {bl:Nat→Option aX} {wr:List (Nat × Option aX)} (hok:rJ bl wr) {p:Nat × Option aX} (hp:p ∈ wr):∃ b,bl p.1 = some b ∧ b.live = true:=by
  rcases hok p hp with ⟨v,e,s,rows,h1,_⟩ | ⟨cs,ds,h1,_⟩
  · exact ⟨_,h1,rfl⟩
  · exact ⟨_,h1,rfl⟩
theorem EY {h:Hp} {g off:Nat} {row:List D} (r:bY h (.pointer (some ⟨g,0,none⟩)) (.ptr row 0)):bY h (.pointer (some ⟨g,off,none⟩)) (.ptr row off):=by
  generalize hz:(0:Nat) = z at r
  cases r with
  | ptr b o off' n row cv hn hm hr ho=>exact .ptr g o off off row cv (by omega) hm hr ho
def CZ (w:World) (h:Hp) (hd:Nat→Value) (wr:List (Nat × Option aX)):Hp:=fun g=>if wr.any (fun p=>gJ (hd p.1) == some g) then w.heap[g]? else h g
theorem wH (r:Rl nt w0 h0 fr bl a w h hd) (wr:List (Nat × Option aX)):h.le (CZ w h hd wr):=fun b o e=>by
  unfold CZ
  split
  · exact r.hle b o e
  · exact e
theorem G3 (r:Rl nt w0 h0 fr bl a w h hd) (wr:List (Nat × Option aX)):(CZ w h hd wr).le (hw w):=fun b o e=>by
  unfold CZ at e
  split at e
  · exact e
  · exact r.hle b o e
theorem JU (r:Rl nt w0 h0 fr bl a w h hd) (wr:List (Nat × Option aX)) (hok:rJ bl wr):∀ b,¬ w0.own b→CZ w h hd wr b = h b:=fun b hb=>by
  unfold CZ
  split
  · rename_i q
    obtain ⟨p,hp,he⟩:=List.any_eq_true.1 q
    obtain ⟨b,h1,h2⟩:=hok.live hp
    exact absurd ((r.blk p.1 _ h1).num h2 (by simpa using he)).1 hb
  · rfl
theorem YP {e size n:Nat} {v:Value} {xs:List Value} {rows:List (List D)} (hown:kJ w e size v n xs) (hin:kC h size rows xs) (hn:rows.length = n) (hsz:0 < size)
    (l:h.le h') (hb:∀ g,gJ v = some g→h' g = w.heap[g]?):bY h' v (.sl rows):=by
  rcases hown.2 with ⟨rfl,h0⟩ | ⟨g,o,cap,cur,rfl,hh,hc,hm,hs,ht⟩
  · obtain rfl:rows = []:=List.eq_nil_of_length_eq_zero (by omega)
    exact .sl0 none 0 (fun _=>rfl)
  · have key:∀ i row j x,rows[i]? = some row→row[j]? = some x→∃ u,cur[o * size + i * size + j]? = some u ∧ bY h u x ∧ x.atom = true:=by
      intro i row j x h1 h2
      obtain ⟨q1,q2⟩:=hin i row h1
      obtain ⟨q3,u,q4,q5⟩:=q2 j x h2
      refine ⟨u,?_,q5,q3⟩
      rw [← ht,List.getElem?_take] at q4
      split at q4
      · rw [List.getElem?_drop,← Nat.add_assoc] at q4
        simpa using q4
      · cases q4
    refine .sl g (o * size) cap size n rows (fun i j=>cur.getD (o * size + i * size + j) undef) hn.symm (by omega) (fun i row h1=>(hin i row h1).1) ?_ ?_ ?_
    · intro i row j x h1 h2
      obtain ⟨u,q1,q2,q3⟩:=key i row j x h1 h2
      have:h' g = w.heap[g]?:=hb g rfl
      simp only [Hp.cell,this,hh,q1]
      simp [q1]
    · intro i row j x h1 h2
      obtain ⟨u,q1,q2,q3⟩:=key i row j x h1 h2
      have:cur.getD (o * size + i * size + j) undef = u:=by simp [q1]
      rw [this]; exact q2.mono l
    · intro i row j x h1 h2
      obtain ⟨u,q1,q2,q3⟩:=key i row j x h1 h2
      have:cur.getD (o * size + i * size + j) undef = u:=by simp [q1]
      rw [this]; exact q2.one q3
theorem P0 (r:Rl nt w0 h0 fr bl a w h hd) (wr:List (Nat × Option aX)) {p:Nat × Option aX} (hp:p ∈ wr) {v e s:Nat} {rows:List (List D)} (hb:bl p.1 = some (.rows v e s rows)):bY (CZ w h hd wr) (hd p.1) (.sl rows):=by
  obtain ⟨q1,q2,⟨xs,q3,q4⟩,q5⟩:=r.blk p.1 _ hb
  refine YP q3 q4 rfl q1 (wH r wr) fun g hg=>?_
  unfold CZ
  rw [if_pos (List.any_eq_true.2 ⟨p,hp,by simp [hg]⟩)]
theorem D8 {α:Type}:∀ (l:List (Nat × α)) (d:α) (t:Nat),lk l d t = d ∨ ∃ p ∈ l,p.1 = t ∧ p.2 = lk l d t
  | [],d,t=>.inl rfl
  | (k,v) :: r,d,t=>by
    unfold lk
    by_cases e:t = k
    · rw [if_pos e]; exact .inr ⟨(k,v),by simp,e.symm,rfl⟩
    · rw [if_neg e]
      rcases D8 r d t with q | ⟨p,q1,q2⟩
      · exact .inl q
      · exact .inr ⟨p,by simp [q1],q2⟩
theorem SU {α:Type}:∀ (l:List (Nat × α)) (d:α) (t:Nat),(∃ p ∈ l,p.1 = t)→∃ p ∈ l,p.1 = t ∧ p.2 = lk l d t
  | [],d,t,⟨p,hp,_⟩=>by cases hp
  | (k,v) :: r,d,t,h=>by
    unfold lk
    by_cases e:t = k
    · rw [if_pos e]; exact ⟨(k,v),by simp,e.symm,rfl⟩
    · rw [if_neg e]
      obtain ⟨p,hp,hpe⟩:=h
      obtain ⟨p',q1,q2⟩:=SU r d t ⟨p,by rcases List.mem_cons.1 hp with rfl | q; exact absurd hpe.symm e; exact q,hpe⟩
      exact ⟨p',by simp [q1],q2⟩
theorem A2 (r:Rl nt w0 h0 fr bl a w h hd) (wr:List (Nat × Option aX)) {v:Value} {x:V} {d:D} (hx:R1 h hd bl v x) (e:pI bl x = some d) (hw:∀ p ∈ CO bl x,p ∈ wr) :
    bY (CZ w h hd wr) v d ∧ d.atom = true:=by
  cases x with
  | d y=>simp only [pI,Option.some.injEq] at e; subst e; exact ⟨hx.2.mono (wH r wr),hx.1⟩
  | nil=>simp only [pI,Option.some.injEq] at e; subst e; rw [show v = _ from hx]; exact ⟨.sl0 none 0 (fun _=>rfl),rfl⟩
  | own id ver =>
    obtain ⟨b,c,hb,hc,hle,h1,he⟩:=hx
    simp only [pI,hb] at e
    cases b with
    | rows v' e' s rows =>
      simp only [aX.ver?,Option.some.injEq] at hc
      simp only at e
      split at e
      · rename_i hv
        cases e
        rw [he (by omega)]
        exact ⟨P0 r wr (p:=(id,some (.froz v' rows))) (hw _ (by simp [CO,hb])) hb,rfl⟩
      · cases e
    | froz v' rows =>
      simp only [aX.ver?,Option.some.injEq] at hc
      simp only at e
      split at e
      · rename_i hv
        cases e
        rw [he (by omega)]
        exact ⟨bY.mono (wH r wr) (r.blk id _ hb),rfl⟩
      · cases e
    | _=>cases e
  | ptr id off =>
    obtain ⟨⟨b,hb,hbx⟩,g,hg,rfl⟩:=hx
    simp only [pI,hb] at e
    cases b with
    | fbox cs =>
      simp only [Option.some.injEq] at e
      subst e
      have:=r.blk id _ hb
      simp only [BR,hg] at this
      exact ⟨bY.mono (wH r wr) (EY this),rfl⟩
    | _=>cases e
  | fn f caps =>
    obtain ⟨rfl,rfl⟩:=hx
    simp only [pI,List.isEmpty_nil,if_true,Option.some.injEq] at e
    subst e
    exact ⟨.fn f #[] [] rfl (fun j x e=>by simp at e),rfl⟩
  | _=>cases e
theorem aBM (r:Rl nt w0 h0 fr bl a w h hd) (wr:List (Nat × Option aX)) {p:Nat × Option aX} (hp:p ∈ wr) {cs:List V} {ds:List D} (hb:bl p.1 = some (.box cs)) (hm:bI (pI bl) cs = some ds) (hq:∀ q ∈ cs.flatMap (CO bl),q ∈ wr):bY (CZ w h hd wr) (hd p.1) (.ptr ds 0):=by
  obtain ⟨g,arr,e,h1,h2,h3,h4,h5,h6⟩:=r.blk p.1 _ hb
  obtain ⟨m1,m2⟩:=cO hm
  have hg:CZ w h hd wr g = some (.cells arr e (0,0)):=by
    unfold CZ
    rw [if_pos (List.any_eq_true.2 ⟨p,hp,by simp [h1,gJ]⟩)]
    exact h3
  have key:∀ (j:Nat) (x:D),ds[j]? = some x→j < arr.size ∧ bY (CZ w h hd wr) (arr.getD j undef) x ∧ (arr.getD j undef).oneCell' = true:=by
    intro j x hx
    obtain ⟨y,hy,hyx⟩:=dQ hm hx
    have hj:j < arr.size:=by rw [h4]; exact (List.getElem?_eq_some_iff.1 hy).1
    exact ⟨hj,(A2 r wr (h5 j y hy).1 hyx fun q hq'=>hq q (List.mem_flatMap.2 ⟨y,List.mem_of_getElem? hy,hq'⟩)).1,(h5 j y hy).2⟩
  rw [h1]
  refine .ptr g 0 0 0 ds (fun j=>arr.getD j undef) rfl ?_ (fun j x hx=>(key j x hx).2.1) (fun j x hx=>(key j x hx).2.2)
  intro j x hx
  have hj:=(key j x hx).1
  simp [Hp.cell,hg,hj]
theorem Rl.freeze (r:Rl nt w0 h0 fr bl a w h hd) (wr:List (Nat × Option aX)) (hok:rJ bl wr):Rl nt w0 h0 fr (cA bl wr) a w (CZ w h hd wr) hd:=by
  have hcase:∀ id b',cA bl wr id = some b'→(bl id = some b' ∧ (∀ p ∈ wr,p.1 ≠ id)) ∨ (b'.live = false ∧ ∃ p ∈ wr,p.1 = id ∧ p.2 = some b'):=by
    intro id b' hb
    unfold cA at hb
    by_cases hm:∃ p ∈ wr,p.1 = id
    · obtain ⟨p,q1,q2,q3⟩:=SU wr (bl id) id hm
      rw [hb] at q3
      refine .inr ⟨?_,p,q1,q2,q3⟩
      rcases hok p q1 with ⟨v,e,s,rows,q4,q5⟩ | ⟨cs,ds,q4,q5,_⟩
      · rw [q3] at q5; cases q5; rfl
      · rw [q3] at q5; cases q5; rfl
    · rcases D8 wr (bl id) id with q | ⟨p,q1,q2,q3⟩
      · exact .inl ⟨q ▸ hb,fun p hp e=>hm ⟨p,hp,e⟩⟩
      · exact absurd ⟨p,q1,q2⟩ hm
  have hkp:Kp hd hd bl (cA bl wr):=by
    intro id b hb
    by_cases hm:∃ p ∈ wr,p.1 = id
    · obtain ⟨p,q1,q2,q3⟩:=SU wr (bl id) id hm
      rcases hok p q1 with ⟨v,e,s,rows,q4,q5⟩ | ⟨cs,ds,q4,q5,_⟩
      · rw [q2,hb] at q4
        cases q4
        exact ⟨.froz v rows,by unfold cA; rw [← q3,q5],by simp [wY]⟩
      · rw [q2,hb] at q4
        cases q4
        exact ⟨.fbox ds,by unfold cA; rw [← q3,q5],by simp [wY]⟩
    · refine ⟨b,?_,wY.refl hd id b⟩
      unfold cA
      rcases D8 wr (bl id) id with q | ⟨p,q1,q2,q3⟩
      · rw [q]; exact hb
      · exact absurd ⟨p,q1,q2⟩ hm
  refine { tmps:=r.tmps,defers:=r.defers,fixed:=r.fixed,below:=r.below,hle:=G3 r wr,h0le:=r.h0le.trans (wH r wr),hbase:=fun b hb=>(JU r wr hok b hb).trans (r.hbase b hb),
           frame:=fun t=>(r.frame t).keep (wH r wr) hkp,blk:=?_,sep:=?_ }
  · intro id b' hb'
    rcases hcase id b' hb' with ⟨hb,hn⟩ | ⟨hl,p,hp,rfl,hpe⟩
    · refine (r.blk id b' hb).keep (wH r wr) hkp rfl fun hl g hg=>⟨rfl,fun hn'=>?_⟩
      unfold CZ
      rw [if_neg]
      · exact hn'
      · intro q
        obtain ⟨p,hp,he⟩:=List.any_eq_true.1 q
        obtain ⟨b,h1,h2⟩:=hok.live hp
        exact hn p hp (r.sep p.1 id _ b' g h1 hb h2 hl (by simpa using he) hg)
    · rcases hok p hp with ⟨v,e,s,rows,q4,q5⟩ | ⟨cs,ds,q4,q5,q6,q7⟩
      · rw [hpe] at q5
        cases q5
        exact P0 r wr hp q4
      · rw [hpe] at q5
        cases q5
        exact aBM r wr hp q4 q6 q7
  · intro i j bi bj g hi hj li lj gi gj
    rcases hcase i bi hi with ⟨hi',_⟩ | ⟨q,_⟩
    · rcases hcase j bj hj with ⟨hj',_⟩ | ⟨q,_⟩
      · exact r.sep i j bi bj g hi' hj' li lj gi gj
      · rw [q] at lj; cases lj
    · rw [q] at li; cases li
end
end Vm
end Go.Proofs.Ytfhebiceipgdmaa
set_option linter.unusedVariables false
set_option linter.unusedSimpArgs false
namespace Go.Proofs.Ytfhebiceipgdmaa
namespace Vm
open Go.RowKit
def sS:Value→Option V
  | .int k n=>some (.d (.int k n))
  | .bool b=>some (.d (.bool b))
  | .string s=>if s.size ≤ maxLen then some (.d (.str s)) else none
  | .slice none 0 0=>some .nil
  | .pointer none=>some (.d .np)
  | v=>if v.oneCell' then some .any else none
def aGx:Value→Option V
  | .agg arr=>(bI sS arr.toList).map .agg
  | .tuple _=>none
  | v=>sS v
def jS:Operand→Option cY
  | .tmp t=>some (.t t)
  | .const v=>(aGx v).map .c
  | .func f=>some (.c (.d (.fn f [])))
  | .global _=>none
def R8:Option Operand→Option (Option cY)
  | none=>some none
  | some x=>(jS x).map some
def dOf:V→Option D
  | .d x=>if x.atom then some x else none
  | .nil=>some (.sl [])
  | _=>none
def lX (P:Program) (t:TypeId):Option Bool:=match P.underlying t with
  | some (.struct _) | some (.array _ _)=>some true
  | some _=>some false
  | none=>none
def BK (P:Program):Nat→TypeId→Option (List Nat)
  | 0,_=>none
  | d + 1,t=>match P.underlying t with
    | some (.int _)=>some [0]
    | some .bool=>some [1]
    | some .string=>some [2]
    | some (.struct fs)=>if P.stoodInHeld t then none else fs.toList.foldl (fun (acc:Option (List Nat)) f=>match acc with
        | none=>none
        | some ks=>if f.offset = ks.length ∧ f.name ≠ "_" then match BK P d f.type,P.info? f.type with
            | some l,some i=>if i.size = l.length then some (ks ++ l) else none
            | _,_=>none
          else none) (some [])
    | _=>none
def KW (P:Program) (op:BinOp) (t:TypeId) (x y:Operand):Option jA:=match jS x,jS y with
    | some x',some y'=>match op with
      | .shl=>none
      | .shr=>none
      | op=>match P.underlying t with
        | some (.int _) | some .string=>some (.bin 0 op x' y')
        | some .bool=>some (.bin 1 op x' y')
        | some (.struct _)=>match op,BK P 20 t with
          | .eql,some ks=>if P.eqGuardType P.depth t = false then some (.eqS ks false x' y') else none
          | .neq,some ks=>if P.eqGuardType P.depth t = false then some (.eqS ks true x' y') else none
          | _,_=>none
        | _=>none
    | _,_=>none
def yI (P:Program) (o:Oper):Option jA :=
  match o.op with
  | .move x=>(jS x).map .move
  | .assign x=>(jS x).map .move
  | .pick c a b=>match jS c,jS a,jS b with
    | some c,some a,some b=>some (.pick c a b)
    | _,_,_=>none
  | .alloc e=>match P.info? e with
    | some i=>match i.zero with
      | some z=>(bI sS z.cells.toList).map .alloc
      | none=>none
    | none=>none
  | .box e x=>(jS x).map .box
  | .build t parts=>match P.info? t,P.underlying t with
    | some i,some (.struct fs)=>match i.zero with
      | some z=>match bI sS z.cells.toList,bI (fun (p:Nat × Operand)=>match fs[p.1]?,jS p.2 with
          | some f,some x=>(P.info? f.type).map fun j=>(f.offset,j.size,x)
          | _,_=>none) parts.toList with
        | some zs,some ps=>if fs.toList.all (fun f=>(P.info? f.type).isSome) then some (.build zs ps) else none
        | _,_=>none
      | none=>none
    | some i,some (.array _ e)=>match i.zero,P.info? e with
      | some z,some ei=>match bI sS z.cells.toList,bI (fun (p:Nat × Operand)=>(jS p.2).map fun x=>(p.1 * ei.size,ei.size,x)) parts.toList with
        | some zs,some ps=>some (.build zs ps)
        | _,_=>none
      | _,_=>none
    | _,_=>none
  | .buildSlice t len parts=>match P.underlying t with
    | some (.slice e)=>match P.info? e with
      | some i=>match i.zero with
        | some z=>match bI sS z.cells.toList with
          | some zs=>match bI dOf zs,bI (fun (p:Nat × Operand)=>(jS p.2).map fun x=>(p.1,x)) parts.toList with
            | some row,some ps=>if len * i.size ≤ 16777216 ∧ z.cells.size = i.size ∧ 0 < i.size then some (.buildSlice e i.size row len ps) else none
            | _,_=>none
          | none=>none
        | none=>none
      | none=>none
    | _=>none
  | .load t x=>match lX P t,P.info? t,jS x with
    | some b,some i,some x=>some (.load i.size b x)
    | _,_,_=>none
  | .store t x v=>match P.info? t,jS x,jS v with
    | some i,some x,some v=>some (.store i.size x v)
    | _,_,_=>none
  | .nilCheck x=>(jS x).map .nilCheck
  | .binOp op t x y _=>KW P op t x y
  | .unOp op _ x=>(jS x).map (.un op)
  | .convert s d x=>match P.underlying s,P.underlying d,jS x with
    | some (.int _),some (.int k),some x=>some (.conv k x)
    | some .string,some (.slice e),some x=>match P.underlying e with
      | some (.int .u8)=>some (.bytes x)
      | _=>none
    | _,_,_=>none
  | .slice t x lo hi mx=>match mx with
    | some _=>none
    | none=>match P.underlying t,jS x,R8 lo,R8 hi with
      | some (.slice e),some x,some lo,some hi=>(P.info? e).map fun i=>.slice i.size x lo hi
      | some .string,some x,some lo,some hi=>some (.strSlice x lo hi)
      | _,_,_,_=>none
  | .fieldAddr s x f=>match P.underlying s,jS x with
    | some (.struct fs),some x=>match fs[f]? with
      | some f=>match P.info? f.type with
        | some i=>if i.size = 0 then none else some (.fieldAddr f.offset x)
        | none=>none
      | none=>none
    | _,_=>none
  | .field s x f=>match P.underlying s,jS x with
    | some (.struct fs),some x=>match fs[f]? with
      | some f=>match P.info? f.type,lX P f.type with
        | some i,some b=>some (.field f.offset i.size b x)
        | _,_=>none
      | none=>none
    | _,_=>none
  | .indexAddr t x i=>match P.underlying t,jS x,jS i with
    | some (.slice e),some x,some i=>(P.info? e).map fun j=>.indexAddr j.size x i
    | some (.array n e),some x,some (.c (.d (.int _ q)))=>match P.info? e with
      | some j=>if 0 ≤ q ∧ q < n ∧ j.size ≠ 0 then some (.fieldAddr (q.toNat * j.size) x) else none
      | none=>none
    | _,_,_=>none
  | .index t x i=>match P.underlying t,jS x,jS i with
    | some .string,some x,some i=>some (.index x i)
    | _,_,_=>none
  | .extract x i=>(jS x).map fun x=>.extract x i
  | .makeSlice t l c=>match P.underlying t,jS l,jS c with
    | some (.slice e),some l,some c=>match P.info? e with
      | some i=>match i.zero with
        | some z=>match bI sS z.cells.toList with
          | some zs=>match bI dOf zs with
            | some row=>if z.cells.size = i.size ∧ 0 < i.size then some (.makeSlice e i.size i.bytes row l c) else none
            | none=>none
          | none=>none
        | none=>none
      | none=>none
    | _,_,_=>none
  | .makeFunc fn first captured=>match fn with
    | .func f=>if first.isEmpty = true then (bI jS captured.toList).map fun caps=>.mkfn f caps else none
    | _=>none
  | .call c=>match c.callee with
    | .value (.func f)=>match P.funcs[f]?,bI jS c.args.toList with
      | some fn,some args=>if fn.name ≠ "runtime.NumGoroutine" ∧ fn.body.isSome then some (.call f args) else none
      | _,_=>none
    | .value x=>match jS x,bI jS c.args.toList with
      | some x,some args=>some (.callv x args)
      | _,_=>none
    | .builtin .len=>match c.args.toList,c.argTypes.toList with
      | [x],[t]=>match P.underlying t,jS x with
        | some .string,some x=>some (.lenS x)
        | some (.slice _),some x=>some (.len x)
        | _,_=>none
      | _,_=>none
    | .builtin .append=>match c.args.toList,c.argTypes.toList with
      | [x,y],[t,u]=>if t = u then match P.underlying t,jS x,jS y with
          | some (.slice e),some x,some y=>match P.info? e with
            | some i=>match i.zero with
              | some z=>if z.cells.size = i.size ∧ 0 < i.size ∧ 0 < i.bytes then some (.append e i.size i.bytes x y) else none
              | none=>none
            | none=>none
          | _,_,_=>none
        else none
      | _,_=>none
    | .builtin .clear=>match c.args.toList,c.argTypes.toList with
      | [x],[t]=>match P.underlying t,jS x with
        | some (.slice e),some x=>match P.info? e with
          | some i=>match i.zero with
            | some z=>match bI sS z.cells.toList with
              | some zs=>match bI dOf zs with
                | some row=>if z.cells.size = i.size ∧ 0 < i.size then some (.clear row x) else none
                | none=>none
              | none=>none
            | none=>none
          | none=>none
        | _,_=>none
      | _,_=>none
    | .builtin .max=>(bI jS c.args.toList).map .max
    | .builtin .min=>(bI jS c.args.toList).map .min
    | _=>none
  | _=>none
def uB (P:Program) (o:Oper):jA:=(yI P o).getD .fail
def aHo (nt:Nat):Option Nat→Bool
  | some d=>decide (d < nt)
  | none=>true
def vR (P:Program) (nt:Nat) (ops:Array Oper) (o:Oper):Option bT :=
  if aHo nt o.dst = true then match o.guard with
    | none=>some ⟨o.dst,uB P o,none⟩
    | some (j,b)=>match (ops[j]?).bind (·.dst) with
      | some t=>some ⟨o.dst,uB P o,some (t,b)⟩
      | none=>none
    else none
def P2 (ops:List Oper):List Nat:=ops.foldl (fun acc o =>
  acc ++ [(o.after.toList.filter (Region.binds .any)).foldl (fun s e=>s ||| 2 ^ e.on ||| acc.getD e.on 0) 0]) []
def QZ (ops:List Oper):List (Nat × Nat) :=
  let an:=P2 ops
  (List.range ops.length).flatMap fun j=>((List.range j).filter fun i=>!((an.getD j 0).testBit i)).map fun i=>(i,j)
def I2 (ops:List Oper):Bool:=ops.zipIdx.all fun (o,i)=>o.after.all fun e=>!(Region.binds .any e) || e.on < i
def tJ (P:Program) (nt:Nat):Code→Option a8
  | .skip=>some .skip
  | .region _ ops draw=>match bI (vR P nt ops) ops.toList with
    | none=>none
    | some l=>if draw then (if I2 ops.toList then some (.region l (some (QZ ops.toList))) else none) else some (.region l none)
  | .seq a b=>match tJ P nt a,tJ P nt b with
    | some a,some b=>some (.seq a b)
    | _,_=>none
  | .cond c a b=>match jS c,tJ P nt a,tJ P nt b with
    | some c,some a,some b=>some (.cond c a b)
    | _,_,_=>none
  | .block id a=>(tJ P nt a).map (.block id)
  | .loop a=>(tJ P nt a).map .loop
  | .exit id=>some (.exit id)
  | .ret=>some .ret
  | _=>none
def jA.bare:jA→jA
  | .lend f args _=>.call f args
  | .cut size x lo hi=>.slice size x lo hi
  | so=>so
def bT.bare (o:bT):bT:=⟨o.dst,o.op.bare,o.guard⟩
def a8.bare:a8→a8
  | .region l d=>.region (l.map bT.bare) d
  | .seq a b=>.seq a.bare b.bare
  | .cond c a b=>.cond c a.bare b.bare
  | .block id a=>.block id a.bare
  | .loop a=>.loop a.bare
  | .pre _ a=>a.bare
  | .post a _=>a.bare
  | c=>c
def aAv (P:Program):ResultVar→Option sQ
  | .tmp t=>some (.tmp t)
  | .cell t ty=>match lX P ty,P.info? ty with
    | some b,some i=>some (.cell t i.size b)
    | _,_=>none
def iK (P:Program) (fn:Func) (sf:dJ):Prop :=
  fn.params.size + fn.nfree = sf.np ∧ fn.name ≠ "runtime.NumGoroutine" ∧ fn.ntmps = sf.nt ∧ sf.np ≤ sf.nt ∧ bI (aAv P) fn.results.toList = some sf.results ∧ ∃ c,fn.body = some c ∧ tJ P sf.nt c = some sf.body.bare
section
variable {h:Hp} {hd:Nat→Value} {bl:Nat→Option aX}
theorem J2 {v:Value} {x:V} (e:sS v = some x):R1 h hd bl v x ∧ v.oneCell' = true:=by
  unfold sS at e
  split at e
  · cases e; exact ⟨⟨rfl,.int _ _⟩,rfl⟩
  · cases e; exact ⟨⟨rfl,.bool _⟩,rfl⟩
  · split at e
    · rename_i hs; cases e; exact ⟨⟨rfl,.str _ hs⟩,rfl⟩
    · cases e
  · cases e; exact ⟨rfl,rfl⟩
  · cases e; exact ⟨⟨rfl,.np⟩,rfl⟩
  · split at e
    · rename_i ho; cases e; exact ⟨trivial,ho⟩
    · cases e
theorem xA {arr:Array Value} {cs:List V} (e:bI sS arr.toList = some cs):arr.size = cs.length ∧ ∀ j x,cs[j]? = some x→R1 h hd bl (arr.getD j undef) x ∧ (arr.getD j undef).oneCell' = true:=by
  obtain ⟨h1,h2⟩:=cO e
  refine ⟨by simpa using h1,fun j x hx=>?_⟩
  obtain ⟨v,q1,q2⟩:=dQ e hx
  have:arr.getD j undef = v:=by
    have:arr[j]? = some v:=by simpa using q1
    simp [this]
  rw [this]
  exact J2 q2
theorem aEf {v:Value} {x:V} (e:aGx v = some x):R2 h hd bl v x:=by
  unfold aGx at e
  split at e
  · rename_i arr
    cases hm:bI sS arr.toList with
    | none=>simp [hm] at e
    | some cs =>
      simp only [hm,Option.map_some,Option.some.injEq] at e
      subst e
      obtain ⟨h1,h2⟩:=xA (h:=h) (hd:=hd) (bl:=bl) hm
      exact ⟨arr,rfl,h1,h2⟩
  · cases e
  · exact R2.of1 (J2 e).1
theorem cJ {fr:Nat→V} {a:Act} (hf:∀ t,R3 h hd bl (a.tmps.getD t undef) (fr t)) {x:Operand} {y:cY} (e:jS x = some y):R3 h hd bl (a.eval x) (cQ fr y):=by
  cases x with
  | tmp t=>simp only [jS,Option.some.injEq] at e; subst e; exact hf t
  | const v =>
    simp only [jS] at e
    cases hv:aGx v with
    | none=>simp [hv] at e
    | some u=>simp only [hv,Option.map_some,Option.some.injEq] at e; subst e; exact R3.of2 (aEf hv)
  | func f=>simp only [jS,Option.some.injEq] at e; subst e; exact ⟨rfl,.fn f #[] [] rfl (fun j x e=>by simp at e)⟩
  | global g=>simp [jS] at e
end
end Vm
end Go.Proofs.Ytfhebiceipgdmaa
