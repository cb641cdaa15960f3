/- A small machine over values that are no memory: what it answers, the model's functions answer (VmSound). Plain definitions. Maps keyed by numbers, as the small machine reads them. Keys that are two numbers: their sixteen bytes, and the number that codes them. What it is that memory holds what the small machine says. The small machine's steps: what may become of memory. From the model's code to the small machine's. -/
import Derived.RowKit
import Derived.Orders
import Derived.Below
import Derived.Laws.MakeOwn
import Derived.Maps.OwnSet
set_option linter.unusedVariables false
set_option linter.unusedSimpArgs false
namespace Go.Proofs.Ytgjcnbgfaimepaa
theorem aN {p q:Prop} (a:p) (b:q):p ∧ q:=And.intro a b
namespace Vm
inductive ML where
  | b (x:Bool)
  | i (n:Int)
  deriving Inhabited
def A6 {α:Type} (k:Int) (v:α):List (Int × α)->List (Int × α)
  | []=>[(k,v)]
  | y :: r=>if k < y.1 then (k,v) :: y :: r else y :: A6 k v r
def CA {α:Type} (k:Int) (m:List (Int × α)):List (Int × α):=m.filter fun p=>!decide (p.1 = k)
def GB {α:Type} (k:Int) (v:α) (m:List (Int × α)):List (Int × α):=A6 k v (CA k m)
def yN {α:Type} (k:Int) (z:α) (m:List (Int × α)):α:=match m.find? fun p=>decide (p.1 = k) with
  | some p=>p.2
  | none=>z
def E3 (a b:Int):Int:=a % 18446744073709551616 * 18446744073709551616 + b % 18446744073709551616
def lP (n:Int):Prop:=-9223372036854775808 <= n ∧ n <= 9223372036854775807
instance (n:Int):Decidable (lP n):=inferInstanceAs (Decidable (_ ∧ _))
def ML.kind:ML->Nat
  | .b _=>1
  | .i _=>0
inductive D where
  | int (k:IntKind) (n:Int)
  | bool (b:Bool)
  | str (s:ByteArray)
  | sl (rows:List (List D))
  | agg (cs:List D)
  | tup (vs:List D)
  | ptr (row:List D) (off:Nat)
  | fn (f:Nat) (caps:List D)
  | np
  | ref (n:Nat)
  | own (x:D) (es:List (Nat × Nat)) (rs:List (List (List D)))
  | mp (ek:Nat) (m:List (Int × ML))
  | mref (n:Nat)
  deriving Inhabited
def ML.d:ML->D
  | .b x=>.bool x
  | .i n=>.int .i64 n
inductive V where
  | any
  | d (x:D)
  | nil
  | agg (cs:List V)
  | tup (vs:List V)
  | ptr (id off:Nat)
  | own (id ver:Nat)
  | orow (id ver i off:Nat)
  | fn (f:Nat) (caps:List V)
  | mp (id:Nat)
  deriving Inhabited
inductive aI where
  | box (cs:List V)
  | rows (ver e size:Nat) (rows:List (List D))
  | froz (ver:Nat) (rows:List (List D))
  | fbox (cs:List D)
  /-- the slots of a caller,while what it calls is run in its place -/
  | outer (cs:List V)
  | mp (ek:Nat) (m:List (Int × ML))
  | fmp (ek:Nat) (m:List (Int × ML))
  deriving Inhabited
inductive bD where
  | t (n:Nat)
  | c (v:V)
  deriving Inhabited
inductive eZ where
  | fail
  | move (x:bD)
  | pick (c a b:bD)
  | alloc (zero:List V)
  | box (x:bD)
  | build (zero:List V) (parts:List (Nat × Nat × bD))
  | buildSlice (e size:Nat) (zero:List D) (len:Nat) (parts:List (Nat × bD))
  | load (size:Nat) (isAgg:Bool) (x:bD)
  | store (size:Nat) (x v:bD)
  | nilCheck (x:bD)
  | bin (c:Nat) (op:BinOp) (x y:bD)
  | eqS (ks:List Nat) (neg:Bool) (x y:bD)
  | un (op:UnOp) (x:bD)
  | conv (k:IntKind) (x:bD)
  | slice (size:Nat) (x:bD) (lo hi:Option bD)
  | strSlice (x:bD) (lo hi:Option bD)
  | fieldAddr (off:Nat) (x:bD)
  | field (off size:Nat) (isAgg:Bool) (x:bD)
  | indexAddr (size:Nat) (x i:bD)
  | index (x i:bD)
  | len (x:bD)
  | lenS (x:bD)
  | append (e size bytes:Nat) (x y:bD)
  | makeSlice (e size bytes:Nat) (zero:List D) (len cap:bD)
  | max (l:List bD)
  | min (l:List bD)
  | extract (x:bD) (i:Nat)
  | call (f:Nat) (args:List bD)
  | mkfn (f:Nat) (caps:List bD)
  | callv (x:bD) (args:List bD)
  | bytes (x:bD)
  | lend (f:Nat) (args:List bD) (t:Nat)
  | cut (size:Nat) (x:bD) (lo hi:Option bD)
  | clear (z:List D) (x:bD)
  | isnil (neg:Bool) (x:bD)
  /-- a call that hands over new memory only -/
  | calln (f:Nat) (args:List bD)
  /-- a function value that holds boxes that can still be written -/
  | mkfnv (f:Nat) (caps:List bD)
  | mkmap (ek:Nat)
  | mput (ek:Nat) (m k v:bD)
  | mget (z:ML) (m k:bD)
  | mdel (ek:Nat) (m k:bD)
  /-- keys of two numbers -/
  | mputP (m k v:bD)
  | mgetP (m k:bD)
  /-- a pointer held against nil -/
  | isnp (neg:Bool) (x:bD)
  /-- the place of an array's element -/
  | indexArr (n size:Nat) (x i:bD)
  /-- an element of an array of values of one cell -/
  | idxA (n:Nat) (x i:bD)
  deriving Inhabited
structure aM where
  dst:Option Nat
  op:eZ
  guard:Option (Nat × Bool)
  /-- the name of the memory that it makes -/
  site:Nat
  deriving Inhabited
structure sD where
  live:List Nat
  keep:List Nat
  ownT:List (Nat × Nat × Nat × Nat)
  ownC:List (Nat × Nat × Nat × Nat × Nat)
  fzT:List Nat
  fzC:List (Nat × Nat)
  deriving Inhabited
structure St where
  fr:List (Nat × V)
  bl:List (Nat × Option aI)
inductive jI where
  | tmp (t:Nat)
  | cell (t size:Nat) (isAgg:Bool)
inductive aH where
  | skip
  | region (ops:List aM) (draw:Option (List (Nat × Nat)))
  | seq (a b:aH)
  | cond (c:bD) (a b:aH)
  | block (id:Nat) (a:aH)
  | loop (a:aH)
  | exit (id:Nat)
  | ret
  | pre (m:sD) (a:aH)
  | post (a:aH) (m:sD)
  | hand (g:St->Option St)
  /-- a function that is run in its caller's place -/
  | inl (ops:List aM) (args:List bD) (dst:Option Nat) (f:Nat) (body:aH) (res:List jI) (id:Nat) (slots:List Nat)
  /-- a function value that is run in its caller's place; nc: how many boxes it holds -/
  | inlv (ops:List aM) (x:bD) (nc:Nat) (args:List bD) (dst:Option Nat) (f:Nat) (body:aH) (res:List jI) (id:Nat) (slots:List Nat)
  deriving Inhabited
structure cY where
  np:Nat
  nt:Nat
  results:List jI
  body:aH
  fresh:Bool
  lend:Bool
def lk {α:Type} (l:List (Nat × α)) (d:α) (t:Nat):α:=match l with
  | []=>d
  | (k,v) :: r=>if t = k then v else lk r d t
def St.get (s:St) (t:Nat):V:=lk s.fr .any t
def St.blk (s:St) (i:Nat):Option aI:=lk s.bl none i
def bC (fr:Nat->V):bD->V
  | .t n=>fr n
  | .c v=>v
def V.cells:V->List V
  | .agg cs=>cs
  | v=>[v]
def V.cell:V->Bool
  | .any | .agg _ | .tup _=>false
  | _=>true
def V.one:V->Bool
  | .agg _ | .tup _=>false
  | _=>true
def V.known:V->Bool
  | .any | .tup _=>false
  | _=>true
def aK {α β:Type} (f:α->Option β):List α->Option (List β)
  | []=>some []
  | x :: r=>match f x with
    | none=>none
    | some y=>match aK f r with
      | none=>none
      | some ys=>some (y :: ys)
def MZ (bl:Nat->Option aI):V->Bool
  | .ptr id _=>match bl id with
    | some (.box _)=>true
    | some (.fbox _)=>true
    | _=>false
  | _=>false
def qF (bl:Nat->Option aI):V->Option D
  | .d x=>some x
  | .nil=>some (.sl [])
  | .own id ver=>match bl id with
    | some (.rows v _ _ rows)=>if ver = v then some (.sl rows) else none
    | some (.froz v rows)=>if ver = v then some (.sl rows) else none
    | _=>none
  | .ptr id off=>match bl id with
    | some (.fbox cs)=>some (.ptr cs off)
    | _=>none
  | .fn f caps=>if caps.isEmpty then some (.fn f []) else none
  | .mp id=>match bl id with
    | some (.mp ek m)=>some (.mp ek m)
    | some (.fmp ek m)=>some (.mp ek m)
    | _=>none
  | _=>none
def iA (bl:Nat->Option aI):V->Option D
  | .ptr id off=>match bl id with
    | some (.box cs)=>(aK (qF bl) cs).map fun ds=>.ptr ds off
    | some (.fbox cs)=>some (.ptr cs off)
    | _=>none
  | v=>qF bl v
def iB (bl:Nat->Option aI):V->Option D
  | .agg cs=>(aK (iA bl) cs).map .agg
  | v=>iA bl v
def toD (bl:Nat->Option aI):V->Option D
  | .tup vs=>(aK (iB bl) vs).map .tup
  | v=>iB bl v
def HP (bl:Nat->Option aI):V->List (Nat × Option aI)
  | .own id ver=>match bl id with
    | some (.rows v _ _ rows)=>[(id,some (.froz v rows))]
    | _=>[]
  | .mp id=>match bl id with
    | some (.mp ek m)=>[(id,some (.fmp ek m))]
    | _=>[]
  | _=>[]
def yX (bl:Nat->Option aI):V->List (Nat × Option aI)
  | .ptr id off=>match bl id with
    | some (.box cs)=>match aK (qF bl) cs with
      | some ds=>(id,some (.fbox ds)) :: cs.flatMap (HP bl)
      | none=>[]
    | _=>[]
  | v=>HP bl v
def u3 (bl:Nat->Option aI):V->List (Nat × Option aI)
  | .agg cs=>cs.flatMap (yX bl)
  | v=>yX bl v
def E5:D->Bool
  | .int _ _ | .bool _ | .str _=>true
  | _=>false
def ZH:D->Bool
  | .agg cs=>cs.all E5
  | x=>E5 x
def GM:D->Bool
  | .tup vs=>vs.all ZH
  | x=>ZH x
def aOg:D->V
  | .agg cs=>.agg (cs.map .d)
  | x=>.d x
def toV:D->V
  | .tup vs=>.tup (vs.map aOg)
  | x=>aOg x
def B3 (site n:Nat):Nat:=site + 100000 * (n + 1)
def YG (site:Nat):D->V
  | .ref n=>.own (B3 site n) 0
  | .mref n=>.mp (B3 site n)
  | x=>.d x
def R4 (site:Nat):D->V
  | .agg cs=>.agg (cs.map (YG site))
  | x=>YG site x
def thaw (site:Nat):D->V
  | .tup vs=>.tup (vs.map (R4 site))
  | x=>R4 site x
def aQF (m:List (Int × ML)):List (List D):=m.map fun p=>[.int .i64 p.1,p.2.d]
def aQR (rows:List (List D)):List (Int × ML):=rows.map fun row=>match row with
  | [.int _ n,.bool b]=>(n,.b b)
  | [.int _ n,.int _ k]=>(n,.i k)
  | _=>(0,.b false)
def yF (e size:Nat) (rows:List (List D)):aI:=if size = 0 then .mp e (aQR rows) else .rows 0 e size rows
def fA (site:Nat):Nat->List (Nat × Nat)->List (List (List D))->List (Nat × Option aI)
  | n,(e,size) :: es,rows :: rs=>(B3 site n,some (yF e size rows)) :: fA site (n + 1) es rs
  | _,_,_=>[]
def KZ (bl:Nat->Option aI):List (Nat × Option aI)->Bool
  | []=>true
  | (i,_) :: l=>match bl i with
    | none=>KZ bl l
    | some _=>false
def nK (site:Nat) (bl:Nat->Option aI) (fz:List (Nat × Option aI)):D->Option (V × List (Nat × Option aI))
  | .own x es rs=>if KZ bl (fA site 0 es rs) = true then some (thaw site x,fA site 0 es rs ++ fz) else none
  | r=>some (toV r,if GM r then [] else fz)
def pM (op:BinOp) (k:IntKind) (x y:Int):Option D:=match op with
  | .add=>some (.int k (k.wrap (x + y)))
  | .sub=>some (.int k (k.wrap (x - y)))
  | .mul=>some (.int k (k.wrap (x * y)))
  | .quo=>if y = 0 then none else some (.int k (k.wrap (x.tdiv y)))
  | .rem=>if y = 0 then none else some (.int k (x.tmod y))
  | .and=>some (.int k (k.wrap (BitVec.ofInt k.bits x &&& BitVec.ofInt k.bits y).toNat))
  | .or=>some (.int k (k.wrap (BitVec.ofInt k.bits x ||| BitVec.ofInt k.bits y).toNat))
  | .xor=>some (.int k (k.wrap (BitVec.ofInt k.bits x ^^^ BitVec.ofInt k.bits y).toNat))
  | .andNot=>some (.int k (k.wrap (BitVec.ofInt k.bits x &&& ~~~(BitVec.ofInt k.bits y)).toNat))
  | .eql=>some (.bool (x == y))
  | .neq=>some (.bool (x != y))
  | .lss=>some (.bool (x < y))
  | .leq=>some (.bool (x <= y))
  | .gtr=>some (.bool (x > y))
  | .geq=>some (.bool (x ≥ y))
  | _=>none
def PI (op:BinOp) (x y:ByteArray):Option D:=match op with
  | .eql=>some (.bool (x.toList == y.toList))
  | .neq=>some (.bool !(x.toList == y.toList))
  | .lss=>some (.bool (Op.bytesLess x.toList y.toList))
  | .leq=>some (.bool (Op.bytesLess x.toList y.toList || x.toList == y.toList))
  | .gtr=>some (.bool !(Op.bytesLess x.toList y.toList || x.toList == y.toList))
  | .geq=>some (.bool !(Op.bytesLess x.toList y.toList))
  | _=>none
def vN:Nat->V->V->Option Bool
  | 0,.d (.int k x),.d (.int k' y)=>if k = k' then some (x == y) else none
  | 1,.d (.bool x),.d (.bool y)=>some (x == y)
  | 2,.d (.str x),.d (.str y)=>some (x == y)
  | _,_,_=>none
def dL:List Nat->List V->List V->Option Bool
  | [],[],[]=>some true
  | k :: ks,x :: xs,y :: ys=>match vN k x y with
    | some a=>match dL ks xs ys with
      | some b=>some (a && b)
      | none=>none
    | none=>none
  | _,_,_=>none
def eqV (ks:List Nat) (neg:Bool):V->V->Option D
  | .agg xs,.agg ys=>match dL ks xs ys with
    | some b=>some (.bool (if neg then !b else b))
    | none=>none
  | _,_=>none
def zS:Nat->BinOp->V->V->Option D
  | 0,op,.d (.int k x),.d (.int k' y)=>if k = k' then pM op k x y else none
  | 0,op,.d (.str x),.d (.str y)=>PI op x y
  | 1,.eql,.d (.bool x),.d (.bool y)=>some (.bool (x == y))
  | 1,.neq,.d (.bool x),.d (.bool y)=>some (.bool !(x == y))
  | _,_,_,_=>none
def unV (op:UnOp):V->Option D
  | .d (.bool b)=>match op with
    | .not=>some (.bool !b)
    | _=>none
  | .d (.int k n)=>match op with
    | .neg=>some (.int k (k.wrap (0 - n)))
    | _=>none
  | _=>none
def hZ {α:Type}:List α->Nat->List α->List α
  | l,_,[]=>l
  | [],_,_=>[]
  | _ :: l,0,x :: r=>x :: hZ l 0 r
  | y :: l,n + 1,xs=>y :: hZ l n xs
def FU:List V->List (Nat × Nat × V)->Option (List V)
  | z,[]=>some z
  | z,(off,size,v) :: r=>if v.cells.length = size ∧ off + size <= z.length ∧ v.known = true then FU (hZ z off v.cells) r else none
def kC (bl:Nat->Option aI) (size:Nat):List (List D)->List (Nat × V)->Option (List (List D))
  | rs,[]=>some rs
  | rs,(i,v) :: r=>match aK (iA bl) v.cells with
    | some row=>if row.length = size ∧ i < rs.length then kC bl size (rs.set i row) r else none
    | none=>none
def aA8 (k:IntKind):Int->List V->Option D
  | x,[]=>some (.int k x)
  | x,.d (.int k' y) :: r=>if k = k' then aA8 k (if y > x then y else x) r else none
  | _,_=>none
def aON:List V->Option D
  | .d (.int k x) :: r=>aA8 k x r
  | _=>none
def aAL (k:IntKind):Int->List V->Option D
  | x,[]=>some (.int k x)
  | x,.d (.int k' y) :: r=>if k = k' then aAL k (if y < x then y else x) r else none
  | _,_=>none
def aN4:List V->Option D
  | .d (.int k x) :: r=>aAL k x r
  | _=>none
def fL (bl:Nat->Option aI):V->Option (List (List D))
  | .d (.sl rows)=>some rows
  | .nil=>some []
  | .own id ver=>match bl id with
    | some (.rows v _ _ rows)=>if ver = v then some rows else none
    | some (.froz v rows)=>if ver = v then some rows else none
    | _=>none
  | _=>none
abbrev IG:=Option (V × List (Nat × Option aI))
def IG.v (x:Option D):IG:=x.map fun d=>(.d d,[])
def sized (size:Nat) (rows:List (List D)):Bool:=rows.all fun row=>row.length == size
def vQ (bl:Nat->Option aI) (size:Nat) (x:V) (lo hi:Option V):IG :=
  match x,lo,hi with
  | .own id ver,none,some (.d (.int _ h))=>match bl id with
    | some (.rows v e size rows)=>if ver = v ∧ 0 <= h ∧ h.toNat <= rows.length then some (.own id (ver + 1),[(id,some (.rows (ver + 1) e size (rows.take h.toNat)))]) else none
    | _=>none
  | x,lo,hi=>match fL bl x with
    | none=>none
    | some rows =>
      match (match hi with | none=>some (rows.length:Int) | some (.d (.int _ h))=>some h | _=>none),(match lo with | none=>some (0:Int) | some (.d (.int _ l))=>some l | _=>none) with
      | some h,some l=>if 0 <= l ∧ l <= h ∧ h.toNat <= rows.length ∧ sized size rows = true then some (.d (.sl ((rows.take h.toNat).drop l.toNat)),yX bl x) else none
      | _,_=>none
def MV (x:V) (lo hi:Option V):IG :=
  match x with
  | .d (.str s) =>
    match (match hi with | none=>some (s.size:Int) | some (.d (.int _ h))=>some h | _=>none),(match lo with | none=>some (0:Int) | some (.d (.int _ l))=>some l | _=>none) with
    | some h,some l=>if 0 <= l ∧ l <= h ∧ h.toNat <= s.size then some (.d (.str (s.extract l.toNat h.toNat)),[]) else none
    | _,_=>none
  | _=>none
def JH (bl:Nat->Option aI) (size:Nat) (x:V) (lo hi:Option V):IG:=match x with
  | .own id ver=>match bl id with
    | some (.rows v e sz rows)=>match (match hi with | none=>some (rows.length:Int) | some (.d (.int _ h))=>some h | _=>none),(match lo with | none=>some (0:Int) | some (.d (.int _ l))=>some l | _=>none) with
      | some h,some l=>if ver = v ∧ sz = size ∧ 0 <= l ∧ l <= h ∧ h.toNat <= rows.length then some (.own id (ver + 1),[(id,some (.rows (ver + 1) e sz ((rows.take h.toNat).drop l.toNat)))]) else none
      | _,_=>none
    | _=>none
  | _=>none
def K7 (bl:Nat->Option aI):V->Option D
  | .own id ver=>match bl id with
    | some (.rows v e size rows)=>if ver = v then some (.own (.ref 0) [(e,size)] [rows]) else none
    | _=>none
  | _=>none
def C3 (bl:Nat->Option aI) (t:Nat):Nat->List V->Option (List D)
  | _,[]=>some []
  | i,v :: r=>match (if i = t then K7 bl v else iB bl v) with
    | none=>none
    | some d=>match C3 bl t (i + 1) r with
      | none=>none
      | some ds=>some (d :: ds)
def sK (bl:Nat->Option aI) (t:Nat):Nat->List V->List (Nat × Option aI)
  | _,[]=>[]
  | i,v :: r=>(if i = t then [] else u3 bl v) ++ sK bl t (i + 1) r
def nS (rows:List (List D)):Bool:=rows.all fun row=>row.all E5
def RU:D->Bool
  | .ref _ | .mref _=>true
  | x=>E5 x
def XX:D->Bool
  | .agg cs=>cs.all RU
  | x=>RU x
def aCC:D->Bool
  | .tup vs=>vs.all XX
  | x=>XX x
def HS (x:D) (rs:List (List (List D))):Bool:=aCC x && rs.all nS
def AR (id:Nat):List (Nat × Option aI)->Bool
  | []=>true
  | (i,_) :: l=>if i = id then false else AR id l
def JV (bl:Nat->Option aI) (neg:Bool):V->Option D
  | .nil=>some (.bool (!neg))
  | x=>match fL bl x with
    | some (_ :: _)=>some (.bool neg)
    | _=>none
def RL (bl:Nat->Option aI):V->Option (Nat × List (Int × ML))
  | .d (.mp ek m)=>some (ek,m)
  | .mp id=>match bl id with
    | some (.mp ek m)=>some (ek,m)
    | some (.fmp ek m)=>some (ek,m)
    | _=>none
  | _=>none
def aGz:V->Option ML
  | .d (.bool b)=>some (.b b)
  | .d (.int .i64 n)=>if lP n then some (.i n) else none
  | _=>none
def H8:V->Option Int
  | .d (.int .i64 n)=>if lP n then some n else none
  | _=>none
def S9:V->Option Int
  | .agg [.d (.int .i64 a),.d (.int .i64 b)]=>if lP a ∧ lP b then some (E3 a b) else none
  | _=>none
def aKG (neg:Bool):V->Option D
  | .ptr _ _=>some (.bool neg)
  | .d (.ptr _ _)=>some (.bool neg)
  | .d .np=>some (.bool (!neg))
  | _=>none
def aDa:V->Option Bool
  | .d (.bool b)=>some b
  | _=>none
def bZ (C:Nat->List D->Option D) (site:Nat) (ev:bD->V) (bl:Nat->Option aI):eZ->IG
  | .fail=>none
  | .move x=>some (ev x,[])
  | .pick c a b=>match ev c with
    | .d (.bool true)=>some (ev a,[])
    | .d (.bool false)=>some (ev b,[])
    | _=>none
  | .alloc z=>match bl site with
    | none=>some (.ptr site 0,[(site,some (.box z))])
    | some _=>none
  | .box x=>match bl site with
    | none=>if (ev x).known = true then some (.ptr site 0,[(site,some (.box (ev x).cells))]) else none
    | some _=>none
  | .build z parts=>(FU z (parts.map fun (o,s,x)=>(o,s,ev x))).map fun cs=>(.agg cs,[])
  | .buildSlice e size z n parts=>match bl site with
    | none=>match kC bl size (List.replicate n z) (parts.map fun (i,x)=>(i,ev x)) with
      | some rows=>some (.own site 0,(site,some (.rows 0 e size rows)) :: parts.flatMap fun (_,x)=>u3 bl (ev x))
      | none=>none
    | some _=>none
  | .load size isAgg x=>match ev x with
    | .ptr id off=>match bl id with
      | some (.box cs) =>
        if isAgg then (if off + size <= cs.length then some (.agg ((cs.drop off).take size),[]) else none)
        else cs[off]?.map fun v=>(v,[])
      | some (.fbox row) =>
        if isAgg then (if off + size <= row.length then some (.agg (((row.drop off).take size).map .d),[]) else none)
        else row[off]?.map fun v=>(.d v,[])
      | _=>none
    | .d (.ptr row off) =>
      if isAgg then (if off + size <= row.length then some (.agg (((row.drop off).take size).map .d),[]) else none)
      else row[off]?.map fun v=>(.d v,[])
    | .orow id ver i off=>match bl id with
      | some (.rows v e sz rows)=>if ver = v then match rows[i]? with
        | some row =>
          if isAgg then (if off + size <= row.length then some (.agg (((row.drop off).take size).map .d),[]) else none)
          else row[off]?.map fun v=>(.d v,[])
        | none=>none
        else none
      | _=>none
    | _=>none
  | .store size x v=>match ev x with
    | .ptr id off=>match bl id with
      | some (.box cs)=>if (ev v).cells.length = size ∧ off + size <= cs.length ∧ (ev v).known = true then some (.any,[(id,some (.box (hZ cs off (ev v).cells)))]) else none
      | _=>none
    | .orow id ver i off=>match bl id with
      | some (.rows w e sz rows)=>if ver = w then match rows[i]?,aK (iA bl) (ev v).cells with
        | some row,some ds=>if ds.length = size ∧ off + size <= row.length ∧ AR id (u3 bl (ev v)) = true then some (.any,(id,some (.rows w e sz (rows.set i (hZ row off ds)))) :: u3 bl (ev v)) else none
        | _,_=>none
        else none
      | _=>none
    | _=>none
  | .nilCheck x=>match ev x with
    | .ptr id off=>some (.ptr id off,[])
    | .d (.ptr row off)=>some (.d (.ptr row off),[])
    | .orow id ver i off=>match bl id with
      | some (.rows v _ _ _)=>if ver = v then some (.orow id ver i off,[]) else none
      | _=>none
    | _=>none
  | .bin c op x y=>IG.v (zS c op (ev x) (ev y))
  | .eqS ks neg x y=>IG.v (eqV ks neg (ev x) (ev y))
  | .un op x=>IG.v (unV op (ev x))
  | .conv k x=>match ev x with
    | .d (.int _ n)=>some (.d (.int k (k.wrap n)),[])
    | _=>none
  | .slice size x lo hi=>vQ bl size (ev x) (lo.map ev) (hi.map ev)
  | .strSlice x lo hi=>MV (ev x) (lo.map ev) (hi.map ev)
  | .fieldAddr off x=>match ev x with
    | .ptr id o=>some (.ptr id (o + off),[])
    | .d (.ptr row o)=>some (.d (.ptr row (o + off)),[])
    | .orow id ver i o=>match bl id with
      | some (.rows v _ _ _)=>if ver = v then some (.orow id ver i (o + off),[]) else none
      | _=>none
    | _=>none
  | .indexArr n size x i=>match ev i with
    | .d (.int _ q)=>if 0 <= q ∧ q < n then (match ev x with
      | .ptr id o=>some (.ptr id (o + q.toNat * size),[])
      | .d (.ptr row o)=>some (.d (.ptr row (o + q.toNat * size)),[])
      | .orow id ver i o=>match bl id with
        | some (.rows v _ _ _)=>if ver = v then some (.orow id ver i (o + q.toNat * size),[]) else none
        | _=>none
      | _=>none) else none
    | _=>none
  | .idxA n x i=>match ev i with
    | .d (.int _ q)=>if 0 <= q ∧ q < n then (match ev x with
      | .agg cs=>if cs.length = n then cs[q.toNat]?.map fun v=>(v,[]) else none
      | _=>none) else none
    | _=>none
  | .isnp neg x=>IG.v (aKG neg (ev x))
  | .field off size isAgg x=>match ev x with
    | .agg cs =>
      if isAgg then (if off + size <= cs.length then some (.agg ((cs.drop off).take size),[]) else none)
      else cs[off]?.map fun v=>(v,[])
    | _=>none
  | .indexAddr size x i=>match ev i with
    | .d (.int _ n)=>match ev x with
      | .own id ver=>match bl id with
        | some (.rows v e sz rows)=>if ver = v ∧ sz = size ∧ 0 <= n ∧ n.toNat < rows.length then some (.orow id ver n.toNat 0,[]) else none
        | some (.froz v rows)=>if ver = v ∧ 0 <= n then match rows[n.toNat]? with
          | some row=>if row.length = size then some (.d (.ptr row 0),[]) else none
          | none=>none
          else none
        | _=>none
      | .d (.sl rows)=>if 0 <= n then match rows[n.toNat]? with
        | some row=>if row.length = size then some (.d (.ptr row 0),[]) else none
        | none=>none
        else none
      | _=>none
    | _=>none
  | .index x i=>match ev x,ev i with
    | .d (.str s),.d (.int _ n)=>if 0 <= n then match s[n.toNat]? with
      | some b=>some (.d (.int .u8 b.toNat),[])
      | none=>none
      else none
    | _,_=>none
  | .len x=>(fL bl (ev x)).map fun rows=>(.d (.int .i64 rows.length),[])
  | .lenS x=>match ev x with
    | .d (.str s)=>some (.d (.int .i64 s.size),[])
    | _=>none
  | .append e size bytes x y=>match fL bl (ev y) with
    | none=>none
    | some new =>
      if sized size new = true then
      match ev x with
      | .nil=>match bl site with
        | none=>if new.length * bytes <= 140737488355328 then some (.own site 0,[(site,some (.rows 0 e size new))]) else none
        | some _=>none
      | .own id ver=>match bl id with
        | some (.rows v e' size' rows)=>if ver = v ∧ e' = e ∧ size' = size ∧ (rows.length + new.length) * bytes <= 140737488355328 then some (.own id (ver + 1),[(id,some (.rows (ver + 1) e size (rows ++ new)))]) else none
        | _=>none
      | _=>none
      else none
  | .makeSlice e size bytes z l c=>match bl site with
    | none=>match ev l,ev c with
      | .d (.int _ n),.d (.int _ m)=>if 0 <= n ∧ n <= m ∧ (bytes:Int) * m <= 281474976710656 ∧ m <= 9223372036854775807 then some (.own site 0,[(site,some (.rows 0 e size (List.replicate n.toNat z)))]) else none
      | _,_=>none
    | some _=>none
  | .max l=>IG.v (aON (l.map ev))
  | .min l=>IG.v (aN4 (l.map ev))
  | .extract x i=>match ev x with
    | .tup vs=>vs[i]?.map fun v=>(v,[])
    | _=>none
  | .call f args=>match aK (fun x=>iB bl (ev x)) args with
    | none=>none
    | some ds=>match C f ds with
      | none=>none
      | some r=>nK site bl (args.flatMap fun x=>u3 bl (ev x)) r
  | .bytes x=>match ev x with
    | .d (.str s)=>some (.d (.sl (s.data.toList.map fun b=>[.int .u8 b.toNat])),[])
    | _=>none
  | .lend f args t=>match (args.map ev)[t]? with
    | some (.own id ver)=>match C3 bl t 0 (args.map ev) with
      | none=>none
      | some ds=>if AR id (sK bl t 0 (args.map ev)) = true then match C f ds with
          | some (.own y [(e,size)] [rows'])=>match bl id with
            | some (.rows v e' size' _)=>if ver = v ∧ e = e' ∧ size = size' ∧ GM y = true ∧ nS rows' = true then some (toV y,[(id,some (.rows v e size rows'))]) else none
            | _=>none
          | _=>none
        else none
    | _=>none
  | .calln f args=>match aK (fun x=>iB bl (ev x)) args with
    | none=>none
    | some ds=>match C f ds with
      | some (.own x es rs)=>if HS x rs = true then nK site bl [] (.own x es rs) else none
      | _=>none
  | .mkmap ek=>match bl site with
    | none=>some (.mp site,[(site,some (.mp ek []))])
    | some _=>none
  | .mput ek m k v=>match ev m,H8 (ev k),aGz (ev v) with
    | .mp id,some n,some x=>match bl id with
      | some (.mp ek' l)=>if x.kind = ek ∧ ek' = ek ∧ l.length < 1000000000000 then some (.any,[(id,some (.mp ek (GB n x l)))]) else none
      | _=>none
    | _,_,_=>none
  | .mget z m k=>match RL bl (ev m),H8 (ev k) with
    | some (ek,l),some n=>if l.isEmpty = true ∨ z.kind = ek then some (.d (yN n z l).d,[]) else none
    | _,_=>none
  | .mputP m k v=>match ev m,S9 (ev k),aDa (ev v) with
    | .mp id,some n,some x=>match bl id with
      | some (.mp 3 l)=>if l.length < 1000000000000 then some (.any,[(id,some (.mp 3 (GB n (.b x) l)))]) else none
      | _=>none
    | _,_,_=>none
  | .mgetP m k=>match ev m,S9 (ev k) with
    | .mp id,some n=>match bl id with
      | some (.mp 3 l)=>some (.d (yN n (.b false) l).d,[])
      | _=>none
    | _,_=>none
  | .mdel ek m k=>match ev m,H8 (ev k) with
    | .d (.mp 2 []),some _=>some (.any,[])
    | .mp id,some n=>match bl id with
      | some (.mp ek' l)=>if ek' = ek then some (.any,[(id,some (.mp ek (CA n l)))]) else none
      | _=>none
    | _,_=>none
  | .cut size x lo hi=>JH bl size (ev x) (lo.map ev) (hi.map ev)
  | .isnil neg x=>IG.v (JV bl neg (ev x))
  | .clear z x=>match ev x with
    | .nil=>some (.any,[])
    | .own id ver=>match bl id with
      | some (.rows v e size rows)=>if ver = v ∧ z.length = size then some (.any,[(id,some (.rows v e size (List.replicate rows.length z)))]) else none
      | _=>none
    | _=>none
  | .mkfn f caps=>match aK (fun x=>iA bl (ev x)) caps with
    | none=>none
    | some ds=>some (.d (.fn f ds),caps.flatMap fun x=>yX bl (ev x))
  | .mkfnv f caps=>if (caps.map ev).all (MZ bl) = true then some (.fn f (caps.map ev),[]) else none
  | .callv g args=>match ev g with
    | .d (.fn f caps)=>match aK (fun x=>iB bl (ev x)) args with
      | none=>none
      | some ds=>match C f (ds ++ caps) with
        | none=>none
        | some r=>nK site bl (args.flatMap fun x=>u3 bl (ev x)) r
    | _=>none
def St.put (s:St) (dst:Option Nat) (v:V) (wr:List (Nat × Option aI)):St :=
  ⟨match dst with | some d=>(d,v) :: s.fr | none=>s.fr,wr ++ s.bl⟩
inductive G where
  | run | skip | bad
def xD:V->Bool->G
  | .d (.bool true),true=>.run
  | .d (.bool false),false=>.run
  | .d (.bool _),_=>.skip
  | .tup [],_=>.skip
  | _,_=>.bad
def aM.wants (fr:Nat->V) (o:aM):G:=match o.guard with
  | none=>.run
  | some (t,b)=>xD (fr t) b
def xI (C:Nat->List D->Option D) (o:aM) (s:St):Option St :=
  match o.wants s.get with
  | .run=>match bZ C o.site (bC s.get) s.blk o.op with
    | some (v,wr)=>some (s.put o.dst v wr)
    | none=>none
  | .skip=>some (s.put o.dst (.tup []) [])
  | .bad=>none
def hJ (C:Nat->List D->Option D):List aM->St->Option St
  | [],s=>some s
  | o :: r,s=>match xI C o s with
    | some s'=>hJ C r s'
    | none=>none
end Vm
end Go.Proofs.Ytgjcnbgfaimepaa
namespace Go.Proofs.Ytgjcnbgfaimepaa
namespace Vm
open Go.RowKit Go.WideElems Go.MapKept Go.ChangeMaps Go.Maps
def ML.val:ML->Value
  | .b x=>.bool x
  | .i n=>.int .i64 n
def ML.lit:ML->Lit
  | .b x=>.bool x
  | .i n=>.int .i64 n
def ML.ok:ML->Prop
  | .b _=>True
  | .i n=>lP n
def aRw (x:MapEntry):Int × ML:=((match x.key with | .int _ n=>n | _=>0),match x.val with | .bool b=>.b b | .int _ n=>.i n | _=>.b false)
def aKD (ek:Nat) (x:MapEntry):Prop:=(∃ n,x.key = .int .i64 n ∧ lP n) ∧ ∃ v:ML,x.val = v.val ∧ v.kind = ek ∧ v.ok
def ID (o:Option Obj) (ek:Nat) (m:List (Int × ML)):Prop:=(ek = 0 ∨ ek = 1) ∧ ∃ es clock,o = some (.map es clock) ∧ es.size <= maxLen ∧ Stamped es clock ∧ (∀ x ∈ es.toList,aKD ek x) ∧ m = (es.toList.map aRw).foldr (fun y l=>A6 y.1 y.2 l) []
def eM (p:Int × ML):Lit × DataW Unit:=(.int .i64 p.1,.lit p.2.lit)
def QT (m:List (Int × ML)):DataW Unit:=.map (m.map eM)
def uW (ek:Nat):TypeDesc:=if ek = 0 then .int .i64 else .bool
theorem BD {n:Int} (h:lP n):(Lit.int .i64 n).wf = true:=by
  unfold lP at h
  simp [Lit.wf,IntKind.min,IntKind.max,IntKind.signed,IntKind.bits]
  omega
theorem UA {n:Int} (h:(Lit.int .i64 n).wf = true):lP n:=by
  unfold lP
  simp [Lit.wf,IntKind.min,IntKind.max,IntKind.signed,IntKind.bits] at h
  exact ⟨by omega,by omega⟩
theorem TX (y:Int × ML):∀ l:List (Int × ML),(A6 y.1 y.2 l).map eM = DataW.insert (eM y) (l.map eM)
  | []=>rfl
  | z :: r=>by
    have e:(eM y).1.before (eM z).1 = decide (y.1 < z.1):=rfl
    simp only [A6,List.map_cons,DataW.insert,e]
    by_cases c:y.1 < z.1
    · rw [if_pos c,if_pos (decide_eq_true c)]; rfl
    · rw [if_neg c,if_neg (by simpa using c),List.map_cons,TX y r]
theorem MA:∀ l:List (Int × ML),(l.foldr (fun y l=>A6 y.1 y.2 l) []).map eM = (l.map eM).foldr DataW.insert []
  | []=>rfl
  | y :: r=>by rw [List.foldr_cons,TX,MA r]; rfl
theorem WI {α:Type} (k:Int) (v:α):∀ l:List (Int × α),(A6 k v l).length = l.length + 1
  | []=>rfl
  | y :: r=>by
    unfold A6
    split
    · rfl
    · rw [List.length_cons,WI k v r,List.length_cons]
theorem C6:∀ l:List (Int × ML),(l.foldr (fun y l=>A6 y.1 y.2 l) []).length = l.length
  | []=>rfl
  | y :: r=>by rw [List.foldr_cons,WI,C6 r,List.length_cons]
theorem aJ5:∀ {a b:List (Int × ML)},a.map eM = b.map eM->a = b
  | [],[],_=>rfl
  | [],_ :: _,h=>by simp at h
  | _ :: _,[],h=>by simp at h
  | (k,v) :: a,(k',v') :: b,h=>by
    simp only [List.map_cons,List.cons.injEq] at h
    obtain ⟨h1,h2⟩:=h
    rw [aJ5 h2]
    simp only [eM,Prod.mk.injEq,Lit.int.injEq,true_and,DataW.lit.injEq] at h1
    obtain ⟨rfl,h3⟩:=h1
    cases v <;> cases v' <;> simp [ML.lit] at h3 <;> subst h3 <;> rfl
section
variable {P:Program} {K E:TypeId} {ek:Nat}
theorem C1 (hE:P.underlying E = some (uW ek)) {v:ML} (hv:v.kind = ek) (ho:v.ok):plainElem (H:=Unit) P E v.val = some (.lit v.lit,[]):=by
  cases v with
  | b x =>
    subst hv
    exact plainElem_bool hE x
  | i n =>
    subst hv
    exact plainElem_int hE (BD ho)
theorem yT (hE:P.underlying E = some (uW ek)) (hk:ek = 0 ∨ ek = 1) {u:Value} {z:DataW Unit × List MemPlace} (h:plainElem P E u = some z):∃ v:ML,u = v.val ∧ v.kind = ek ∧ v.ok ∧ z = (.lit v.lit,[]):=by
  rcases hk with rfl | rfl
  · obtain ⟨a,rfl,rfl,hw⟩:=plainElem_int_inv hE h
    exact ⟨.i a,rfl,rfl,UA hw,rfl⟩
  · unfold plainElem at h
    rw [show P.underlying E = some .bool from hE] at h
    cases u with
    | bool x =>
      simp only [Option.some.injEq] at h
      subst h
      exact ⟨.b x,rfl,rfl,trivial,rfl⟩
    | _=>simp at h
theorem aM5 (hK:P.underlying K = some (.int .i64)) {u:Value} {kl:Lit} (h:keyOf P K u = some kl):∃ n,u = .int .i64 n ∧ lP n ∧ kl = .int .i64 n:=by
  cases u <;> simp [keyOf,hK,mapKey] at h
  obtain ⟨⟨rfl,h2⟩,h3⟩:=h
  exact ⟨_,rfl,UA h2,h3.symm⟩
theorem aAx (hK:P.underlying K = some (.int .i64)) (hE:P.underlying E = some (uW ek)) {x:MapEntry} (h:aKD ek x):rd P K (plainElem P E) x = some (eM (aRw x)):=by
  obtain ⟨key,val,born⟩:=x
  obtain ⟨⟨n,h1,h2⟩,v,h3,h4,h5⟩:=h
  dsimp only at h1 h3
  subst h1; subst h3
  rw [rd_mk (keyOf_int_mk hK (BD h2)) (C1 hE h4 h5)]
  cases v <;> rfl
theorem ID.owns (hK:P.underlying K = some (.int .i64)) (hE:P.underlying E = some (uW ek)) {w:World} {g:Nat} {m:List (Int × ML)} (h:ID w.heap[g]? ek m):w.ownsMap P K (plainElem P E) g m.length (QT m):=by
  obtain ⟨_,es,clock,h1,h2,h3,h4,rfl⟩:=h
  refine ⟨es,clock,h1,⟨h2,h3,fun x hx=>⟨_,aAx hK hE (h4 x hx)⟩⟩,?_,?_⟩
  · rw [C6,List.length_map]; simp
  · unfold QT
    rw [MA,List.map_map]
    congr 2
    refine List.map_congr_left fun x hx=>?_
    rw [rg_of (aAx hK hE (h4 x hx))]; rfl
theorem ID.of_owns (hK:P.underlying K = some (.int .i64)) (hE:P.underlying E = some (uW ek)) (hk:ek = 0 ∨ ek = 1) {w:World} {g n:Nat} {m:List (Int × ML)} (h:w.ownsMap P K (plainElem P E) g n (QT m)):ID w.heap[g]? ek m:=by
  obtain ⟨es,clock,h1,F,_,h5⟩:=h
  have hent:∀ x ∈ es.toList,aKD ek x:=by
    intro x hx
    obtain ⟨y,hy⟩:=F.reads x hx
    obtain ⟨z,hz,_⟩:=rd_val hy
    obtain ⟨v,q1,q2,q3,_⟩:=yT hE hk hz
    obtain ⟨a,q4,q5,_⟩:=aM5 hK (rd_key hy)
    exact ⟨⟨a,q4,q5⟩,v,q1,q2,q3⟩
  refine ⟨hk,es,clock,h1,F.size,F.stamped,hent,aJ5 ?_⟩
  unfold QT at h5
  rw [DataW.map.injEq] at h5
  rw [h5,MA,List.map_map]
  congr 1
  refine List.map_congr_left fun x hx=>?_
  rw [rg_of (aAx hK hE (hent x hx))]; rfl
end
theorem aDt (k:Int) (m:List (Int × ML)):DataW.del (QT m) (.int .i64 k) = QT (CA k m):=by
  show DataW.map ((m.map eM).filter fun p=>!p.1.sameKey (.int .i64 k)) = DataW.map ((CA k m).map eM)
  unfold CA
  rw [List.filter_map]
  congr 2
  refine List.filter_congr fun p _=>?_
  show (!decide (IntKind.i64 = .i64 ∧ p.1 = k)) = !decide (p.1 = k)
  simp
theorem aL2 (k:Int) (v:ML) (m:List (Int × ML)):DataW.put (QT m) (.int .i64 k) (.lit v.lit) = QT (GB k v m):=by
  have h:DataW.map ((m.map eM).filter fun p=>!p.1.sameKey (.int .i64 k)) = DataW.map ((CA k m).map eM):=aDt k m
  rw [DataW.map.injEq] at h
  show DataW.map (DataW.insert (.int .i64 k,.lit v.lit) ((m.map eM).filter fun p=>!p.1.sameKey (.int .i64 k))) = DataW.map ((GB k v m).map eM)
  unfold GB
  rw [h]
  exact congrArg DataW.map (TX (k,v) (CA k m)).symm
theorem aNh (k:Int) (z:ML) (m:List (Int × ML)):DataW.atKey (QT m) (.int .i64 k) (.lit z.lit) = .lit (yN k z m).lit:=by
  unfold DataW.atKey QT yN
  dsimp only
  rw [List.find?_map]
  have e:(fun p:Lit × DataW Unit=>p.1.sameKey (.int .i64 k)) ∘ eM = fun p:Int × ML=>decide (p.1 = k):=by
    funext p
    show decide (IntKind.i64 = .i64 ∧ p.1 = k) = decide (p.1 = k)
    simp
  rw [e]
  cases m.find? fun p=>decide (p.1 = k) <;> rfl
theorem U5 {a b:ML} (h:a.lit = b.lit):a = b:=by
  cases a <;> cases b <;> simp [ML.lit] at h <;> subst h <;> rfl
theorem aGk {ek:Nat} (hk:ek = 0 ∨ ek = 1):ID (some (.map #[] 0)) ek []:=⟨hk,#[],0,rfl,by simp,stamped_empty 0,fun x hx=>by simp at hx,rfl⟩
section
variable {P:Program} {t K E:TypeId} {w:World} {g ek:Nat} {m:List (Int × ML)} {z:ML}
theorem S1 (h:ID w.heap[g]? ek m) (ht:P.underlying t = some (.map K E)) (hK:P.underlying K = some (.int .i64)) (hE:P.underlying E = some (uW z.kind)) (hz:(zeroValue E).run P w = .ok z.val w) (ho:z.ok) (hk:m = [] ∨ z.kind = ek) {n:Int} (hn:lP n) :
    (Instr.lookup t (.map (some g)) (.int .i64 n) false).run P w = .ok (yN n z m).val w:=by
  have h' : ID w.heap[g]? z.kind m:=by
    rcases hk with rfl | rfl
    · obtain ⟨_,es,clock,h1,h2,h3,h4,h5⟩:=h
      have:es.toList = []:=by
        have:=congrArg List.length h5
        rw [C6,List.length_map] at this
        exact List.eq_nil_of_length_eq_zero this.symm
      exact ⟨by cases z <;> simp [ML.kind],es,clock,h1,h2,h3,fun x hx=>(by rw [this] at hx; cases hx),h5⟩
    · exact h
  have hown:=h'.owns hK hE
  obtain ⟨v,ps,hrun,hv⟩:=hown.lookup (int_keyed hK) ht hz (C1 hE rfl ho) (keyOf_int_mk hK (BD hn))
  rw [aNh] at hv
  obtain ⟨v',rfl,_,_,h4⟩:=yT hE (by cases z <;> simp [ML.kind]) hv
  rw [Prod.mk.injEq,DataW.lit.injEq] at h4
  rw [hrun,U5 h4.1]
theorem aDL (ht:P.underlying t = some (.map K E)) (hK:P.underlying K = some (.int .i64)) (hz:(zeroValue E).run P w = .ok z.val w) {n:Int} (hn:lP n) :
    (Instr.lookup t (.map none) (.int .i64 n) false).run P w = .ok z.val w:=by
  have:=Maps.look_nil false (int_keyed hK) ht hz (keyOf_int_mk hK (BD hn))
  simpa using this
theorem aJl (h:ID w.heap[g]? ek m) (ht:P.underlying t = some (.map K E)) (hK:P.underlying K = some (.int .i64)) (hE:P.underlying E = some (uW ek)) {v:ML} (hv:v.kind = ek) (ho:v.ok) (hlen:m.length < maxLen) {n:Int} (hn:lP n) :
    ∃ w',(Instr.mapUpdate t (.map (some g)) (.int .i64 n) v.val).run P w = .ok () w' ∧ ID w'.heap[g]? ek (GB n v m) ∧ w.grownBy w' (some g):=by
  have hown:=h.owns hK hE
  obtain ⟨w',hrun,h1,h2⟩:=hown.update (int_keyed hK) ht hlen (keyOf_int_mk hK (BD hn)) (C1 hE hv ho)
  rw [aL2] at h1
  exact ⟨w',hrun,ID.of_owns hK hE (by cases v <;> simp [ML.kind] at hv <;> omega) h1,h2⟩
theorem aKL (h:ID w.heap[g]? ek m) (ht:P.underlying t = some (.map K E)) (hK:P.underlying K = some (.int .i64)) (hE:P.underlying E = some (uW ek)) (hk:ek = 0 ∨ ek = 1) (ty:TypeId) {n:Int} (hn:lP n) :
    ∃ w',(Builtin.delete_ #[t,K] ty #[.map (some g),.int .i64 n]).run P w = .ok (.tuple #[]) w' ∧ ID w'.heap[g]? ek (CA n m) ∧ w.grownBy w' (some g):=by
  have hown:=h.owns hK hE
  obtain ⟨w',hrun,h1,h2⟩:=hown.drop (int_keyed hK) ht (keyOf_int_mk hK (BD hn)) ty
  rw [aDt] at h1
  exact ⟨w',hrun,ID.of_owns hK hE hk h1,h2.grown⟩
end
end Vm
end Go.Proofs.Ytgjcnbgfaimepaa
namespace Go.Proofs.Ytgjcnbgfaimepaa
namespace Vm
open Go.RowKit Go.WideElems Go.MapKept Go.ChangeMaps Go.Maps
theorem NK:∀ (w n:Nat),(bytesLE w n).length = w
  | 0,_=>rfl
  | w + 1,n=>by simp [bytesLE,NK w]
theorem BN (w n:Nat):(bytesBE w n).length = w:=by simp [bytesBE,NK]
theorem rL (w n:Nat):bytesBE (w + 1) n = bytesBE w (n / 256) ++ [UInt8.ofNat (n % 256)]:=by simp [bytesBE,bytesLE]
theorem N0:∀ (a b:List UInt8) (x y:UInt8),a.length = b.length->bytesBefore (a ++ [x]) (b ++ [y]) = (bytesBefore a b || (a == b && decide (x < y)))
  | [],[],x,y,_=>by simp [bytesBefore]
  | [],_ :: _,_,_,h=>by simp at h
  | _ :: _,[],_,_,h=>by simp at h
  | p :: a,q :: b,x,y,h=>by
    have ih:=N0 a b x y (by simpa using h)
    simp only [List.cons_append,bytesBefore,ih]
    by_cases h1:p < q
    · simp [h1]
    · by_cases h2:p = q
      · subst h2; simp [h1]
      · have h3:(p == q) = false:=by simpa using h2
        simp [h1,h3]
theorem DL:∀ (w:Nat) {n m:Nat},n < 256 ^ w->m < 256 ^ w->(bytesBE w n = bytesBE w m ↔ n = m)
  | 0,n,m,hn,hm=>by
    have:n = m:=by simp at hn hm; omega
    simp [this]
  | w + 1,n,m,hn,hm=>by
    rw [rL,rL]
    have hn' : n / 256 < 256 ^ w:=by rw [Nat.pow_succ] at hn; omega
    have hm' : m / 256 < 256 ^ w:=by rw [Nat.pow_succ] at hm; omega
    constructor
    · intro q
      have h1:=List.append_inj q (by rw [BN,BN])
      have h2:=(DL w hn' hm').1 h1.1
      have h3:UInt8.ofNat (n % 256) = UInt8.ofNat (m % 256):=by simpa using h1.2
      have h4:=congrArg UInt8.toNat h3
      simp only [UInt8.toNat_ofNat'] at h4
      omega
    · rintro rfl; rfl
theorem O5:∀ (w:Nat) {n m:Nat},n < 256 ^ w->m < 256 ^ w->bytesBefore (bytesBE w n) (bytesBE w m) = decide (n < m)
  | 0,n,m,hn,hm=>by
    have:¬ n < m:=by simp at hn hm; omega
    rw [decide_eq_false this]
    rfl
  | w + 1,n,m,hn,hm=>by
    have hn' : n / 256 < 256 ^ w:=by rw [Nat.pow_succ] at hn; omega
    have hm' : m / 256 < 256 ^ w:=by rw [Nat.pow_succ] at hm; omega
    rw [rL,rL,N0 _ _ _ _ (by rw [BN,BN]),O5 w hn' hm']
    have h1:(bytesBE w (n / 256) == bytesBE w (m / 256)) = decide (n / 256 = m / 256):=by
      rw [Bool.eq_iff_iff,beq_iff_eq,decide_eq_true_eq]
      exact DL w hn' hm'
    have h2:decide (UInt8.ofNat (n % 256) < UInt8.ofNat (m % 256)) = decide (n % 256 < m % 256):=by
      rw [Bool.eq_iff_iff,decide_eq_true_eq,decide_eq_true_eq,UInt8.lt_iff_toNat_lt]
      simp only [UInt8.toNat_ofNat']
      omega
    rw [h1,h2,Bool.eq_iff_iff]
    simp only [Bool.or_eq_true,Bool.and_eq_true,decide_eq_true_eq]
    omega
theorem NO:∀ (w v x y:Nat),y < 256 ^ w->bytesBE v x ++ bytesBE w y = bytesBE (v + w) (x * 256 ^ w + y)
  | 0,v,x,y,hy=>by
    have:y = 0:=by simpa using hy
    subst this
    simp [bytesBE,bytesLE]
  | w + 1,v,x,y,hy=>by
    have hy' : y / 256 < 256 ^ w:=by rw [Nat.pow_succ] at hy; omega
    rw [rL,← List.append_assoc,NO w v x (y / 256) hy',← Nat.add_assoc,rL]
    have e:x * 256 ^ (w + 1) = x * 256 ^ w * 256:=by rw [Nat.pow_succ,Nat.mul_assoc]
    congr 2
    · rw [e]; omega
    · rw [e]; congr 1; omega
def UX (c:Int):Lit:=.string (bytesBE 16 c.toNat)
def U2 (c:Int):Prop:=0 <= c ∧ c < 340282366920938463463374607431768211456
theorem K3 (a b:Int):U2 (E3 a b):=by unfold U2 E3; omega
theorem HZ {c:Int} (h:U2 c):c.toNat < 256 ^ 16:=by
  unfold U2 at h
  have e:(256:Nat) ^ 16 = 340282366920938463463374607431768211456:=by decide
  rw [e]
  omega
theorem aBu {c c' : Int} (h:U2 c) (h' : U2 c'):(UX c).before (UX c') = decide (c < c'):=by
  show bytesBefore _ _ = _
  rw [O5 16 (HZ h) (HZ h'),Bool.eq_iff_iff,decide_eq_true_eq,decide_eq_true_eq]
  unfold U2 at h h'
  omega
theorem YI {c c' : Int} (h:U2 c) (h' : U2 c'):(UX c).sameKey (UX c') = decide (c = c'):=by
  show (bytesBE 16 c.toNat == bytesBE 16 c'.toNat) = _
  rw [Bool.eq_iff_iff,beq_iff_eq,decide_eq_true_eq,DL 16 (HZ h) (HZ h')]
  unfold U2 at h h'
  omega
def B9 (m:List (Int × ML)):Prop:=∀ p ∈ m,U2 p.1
def eP (p:Int × ML):Lit × DataW Unit:=(UX p.1,.lit p.2.lit)
def RG (m:List (Int × ML)):DataW Unit:=.map (m.map eP)
theorem aCH {α:Type} {k:Int} {v:α} {z:Int × α}:∀ {l:List (Int × α)},z ∈ A6 k v l->z = (k,v) ∨ z ∈ l
  | [],h=>by simp [A6] at h; exact .inl h
  | y :: r,h=>by
    unfold A6 at h
    split at h
    · rcases List.mem_cons.1 h with h | h
      · exact .inl h
      · exact .inr h
    · rcases List.mem_cons.1 h with h | h
      · exact .inr (by simp [h])
      · rcases aCH h with h | h
        · exact .inl h
        · exact .inr (by simp [h])
theorem B9.ins {k:Int} {v:ML} {l:List (Int × ML)} (hk:U2 k) (h:B9 l):B9 (A6 k v l):=fun p hp=>by
  rcases aCH hp with rfl | q
  · exact hk
  · exact h p q
theorem B9.del {k:Int} {l:List (Int × ML)} (h:B9 l):B9 (CA k l):=fun p hp=>h p (List.mem_filter.1 hp).1
theorem O0 (y:Int × ML) (hy:U2 y.1):∀ l:List (Int × ML),B9 l->(A6 y.1 y.2 l).map eP = DataW.insert (eP y) (l.map eP)
  | [],_=>rfl
  | z :: r,h=>by
    have e:(eP y).1.before (eP z).1 = decide (y.1 < z.1):=aBu hy (h z (by simp))
    simp only [A6,List.map_cons,DataW.insert,e]
    by_cases c:y.1 < z.1
    · rw [if_pos c,if_pos (decide_eq_true c)]; rfl
    · rw [if_neg c,if_neg (by simpa using c),List.map_cons,O0 y hy r fun p hp=>h p (by simp [hp])]
theorem EY:∀ l:List (Int × ML),B9 l->B9 (l.foldr (fun y l=>A6 y.1 y.2 l) [])
  | [],_=>fun p hp=>(by cases hp)
  | y :: r,h=>B9.ins (h y (by simp)) (EY r fun p hp=>h p (by simp [hp]))
theorem J5:∀ l:List (Int × ML),B9 l->(l.foldr (fun y l=>A6 y.1 y.2 l) []).map eP = (l.map eP).foldr DataW.insert []
  | [],_=>rfl
  | y :: r,h=>by
    have hr:B9 r:=fun p hp=>h p (by simp [hp])
    rw [List.foldr_cons,O0 _ (h y (by simp)) _ (EY r hr),J5 r hr]; rfl
theorem aHJ {k:Int} {m:List (Int × ML)} (hk:U2 k) (h:B9 m):DataW.del (RG m) (UX k) = RG (CA k m):=by
  show DataW.map ((m.map eP).filter fun p=>!p.1.sameKey (UX k)) = DataW.map ((CA k m).map eP)
  unfold CA
  rw [List.filter_map]
  congr 2
  refine List.filter_congr fun p hp=>?_
  show (!(UX p.1).sameKey (UX k)) = !decide (p.1 = k)
  rw [YI (h p hp) hk]
theorem aJu {k:Int} (v:ML) {m:List (Int × ML)} (hk:U2 k) (h:B9 m):DataW.put (RG m) (UX k) (.lit v.lit) = RG (GB k v m):=by
  have h1:DataW.map ((m.map eP).filter fun p=>!p.1.sameKey (UX k)) = DataW.map ((CA k m).map eP):=aHJ hk h
  rw [DataW.map.injEq] at h1
  show DataW.map (DataW.insert (UX k,.lit v.lit) ((m.map eP).filter fun p=>!p.1.sameKey (UX k))) = DataW.map ((GB k v m).map eP)
  unfold GB
  rw [h1]
  exact congrArg DataW.map (O0 (k,v) hk (CA k m) h.del).symm
theorem aH5 {k:Int} (z:ML) {m:List (Int × ML)} (hk:U2 k) (h:B9 m):DataW.atKey (RG m) (UX k) (.lit z.lit) = .lit (yN k z m).lit:=by
  unfold DataW.atKey RG yN
  dsimp only
  rw [List.find?_map]
  have e:m.find? ((fun p:Lit × DataW Unit=>p.1.sameKey (UX k)) ∘ eP) = m.find? fun p:Int × ML=>decide (p.1 = k):=by
    induction m with
    | nil=>rfl
    | cons y m ih =>
      have h1:((fun p:Lit × DataW Unit=>p.1.sameKey (UX k)) ∘ eP) y = decide (y.1 = k):=YI (h y (by simp)) hk
      rw [List.find?_cons,List.find?_cons,h1,ih fun p hp=>h p (by simp [hp])]
  rw [e]
  cases m.find? fun p=>decide (p.1 = k) <;> rfl
structure EQ (P:Program) (K:TypeId):Prop where
  keyed:Keyed P K
  key:∀ a b:Int,lP a->lP b->keyOf P K (.agg #[.int .i64 a,.int .i64 b]) = some (UX (E3 a b))
  inv:∀ {u:Value} {l:Lit},keyOf P K u = some l->∃ a b:Int,u = .agg #[.int .i64 a,.int .i64 b] ∧ lP a ∧ lP b
def aSc:Value->Int
  | .agg cs=>match cs.toList with
    | [.int _ a,.int _ b]=>E3 a b
    | _=>0
  | _=>0
def aMk (x:MapEntry):Int × ML:=(aSc x.key,match x.val with | .bool b=>.b b | _=>.b false)
def P4 (x:MapEntry):Prop:=(∃ a b:Int,x.key = .agg #[.int .i64 a,.int .i64 b] ∧ lP a ∧ lP b) ∧ ∃ c:Bool,x.val = .bool c
def MU (o:Option Obj) (m:List (Int × ML)):Prop:=∃ es clock,o = some (.map es clock) ∧ es.size <= maxLen ∧ Stamped es clock ∧ (∀ x ∈ es.toList,P4 x) ∧ m = (es.toList.map aMk).foldr (fun y l=>A6 y.1 y.2 l) []
theorem aMy {x:MapEntry} (h:P4 x):U2 (aMk x).1:=by
  obtain ⟨⟨a,b,h1,_⟩,_⟩:=h
  show U2 (aSc x.key)
  rw [h1]
  exact K3 a b
theorem KU {es:Array MapEntry} (h:∀ x ∈ es.toList,P4 x):B9 (es.toList.map aMk):=fun p hp=>by
  obtain ⟨x,hx,rfl⟩:=List.mem_map.1 hp
  exact aMy (h x hx)
theorem MU.all {o:Option Obj} {m:List (Int × ML)} (h:MU o m):B9 m:=by
  obtain ⟨es,clock,_,_,_,h4,rfl⟩:=h
  exact EY _ (KU h4)
section
variable {P:Program} {K E:TypeId}
theorem U9 (hK:EQ P K) (hE:P.underlying E = some (uW 1)) {x:MapEntry} (h:P4 x):rd P K (plainElem P E) x = some (eP (aMk x)):=by
  obtain ⟨key,val,born⟩:=x
  obtain ⟨⟨a,b,h1,h2,h3⟩,c,h4⟩:=h
  dsimp only at h1 h4
  subst h1; subst h4
  have hv:plainElem (H:=Unit) P E (.bool c) = some (.lit (.bool c),[]):=C1 (v:=.b c) hE rfl trivial
  rw [rd_mk (hK.key a b h2 h3) hv]
  rfl
theorem MU.owns (hK:EQ P K) (hE:P.underlying E = some (uW 1)) {w:World} {g:Nat} {m:List (Int × ML)} (h:MU w.heap[g]? m):w.ownsMap P K (plainElem P E) g m.length (RG m):=by
  obtain ⟨es,clock,h1,h2,h3,h4,rfl⟩:=h
  refine ⟨es,clock,h1,⟨h2,h3,fun x hx=>⟨_,U9 hK hE (h4 x hx)⟩⟩,?_,?_⟩
  · rw [C6,List.length_map]; simp
  · unfold RG
    rw [J5 _ (KU h4),List.map_map]
    congr 2
    refine List.map_congr_left fun x hx=>?_
    rw [rg_of (U9 hK hE (h4 x hx))]; rfl
theorem aKT:∀ {a b:List (Int × ML)},B9 a->B9 b->a.map eP = b.map eP->a = b
  | [],[],_,_,_=>rfl
  | [],_ :: _,_,_,h=>by simp at h
  | _ :: _,[],_,_,h=>by simp at h
  | (k,v) :: a,(k',v') :: b,h1,h2,h=>by
    simp only [List.map_cons,List.cons.injEq] at h
    obtain ⟨h3,h4⟩:=h
    rw [aKT (fun p hp=>h1 p (by simp [hp])) (fun p hp=>h2 p (by simp [hp])) h4]
    simp only [eP,Prod.mk.injEq,DataW.lit.injEq] at h3
    obtain ⟨h5,h6⟩:=h3
    have h7:bytesBE 16 k.toNat = bytesBE 16 k'.toNat:=by
      unfold UX at h5
      injection h5
    have g1:=h1 (k,v) (by simp)
    have g2:=h2 (k',v') (by simp)
    have h8:=(DL 16 (HZ g1) (HZ g2)).1 h7
    have h9:k = k':=by
      unfold U2 at g1 g2
      simp only at g1 g2
      omega
    rw [h9,U5 h6]
theorem MU.of_owns (hK:EQ P K) (hE:P.underlying E = some (uW 1)) {w:World} {g n:Nat} {m:List (Int × ML)} (hm:B9 m) (h:w.ownsMap P K (plainElem P E) g n (RG m)):MU w.heap[g]? m:=by
  obtain ⟨es,clock,h1,F,_,h5⟩:=h
  have hent:∀ x ∈ es.toList,P4 x:=by
    intro x hx
    obtain ⟨y,hy⟩:=F.reads x hx
    obtain ⟨z,hz,_⟩:=rd_val hy
    obtain ⟨v,q1,q2,q3,_⟩:=yT hE (.inr rfl) hz
    obtain ⟨a,b,q4,q5,q6⟩:=hK.inv (rd_key hy)
    refine ⟨⟨a,b,q4,q5,q6⟩,?_⟩
    cases v with
    | b c=>exact ⟨c,q1⟩
    | i n=>simp [ML.kind] at q2
  refine ⟨es,clock,h1,F.size,F.stamped,hent,aKT hm (EY _ (KU hent)) ?_⟩
  unfold RG at h5
  rw [DataW.map.injEq] at h5
  rw [h5,J5 _ (KU hent),List.map_map]
  congr 1
  refine List.map_congr_left fun x hx=>?_
  rw [rg_of (U9 hK hE (hent x hx))]; rfl
theorem aEl {t:TypeId} {w:World} {g:Nat} {m:List (Int × ML)} {z:Bool} (h:MU w.heap[g]? m) (ht:P.underlying t = some (.map K E)) (hK:EQ P K) (hE:P.underlying E = some (uW 1)) (hz:(zeroValue E).run P w = .ok (.bool z) w) {a b:Int} (ha:lP a) (hb:lP b) :
    (Instr.lookup t (.map (some g)) (.agg #[.int .i64 a,.int .i64 b]) false).run P w = .ok (yN (E3 a b) (.b z) m).val w:=by
  have hown:=h.owns hK hE
  obtain ⟨v,ps,hrun,hv⟩:=hown.lookup hK.keyed ht hz (C1 (v:=.b z) hE rfl trivial) (hK.key a b ha hb)
  rw [aH5 (.b z) (K3 a b) h.all] at hv
  obtain ⟨v',rfl,_,_,h4⟩:=yT hE (.inr rfl) hv
  rw [Prod.mk.injEq,DataW.lit.injEq] at h4
  rw [hrun,U5 h4.1]
theorem aIb {t:TypeId} {w:World} {g:Nat} {m:List (Int × ML)} (h:MU w.heap[g]? m) (ht:P.underlying t = some (.map K E)) (hK:EQ P K) (hE:P.underlying E = some (uW 1)) (c:Bool) (hlen:m.length < maxLen) {a b:Int} (ha:lP a) (hb:lP b) :
    ∃ w',(Instr.mapUpdate t (.map (some g)) (.agg #[.int .i64 a,.int .i64 b]) (.bool c)).run P w = .ok () w' ∧ MU w'.heap[g]? (GB (E3 a b) (.b c) m) ∧ w.grownBy w' (some g):=by
  have hown:=h.owns hK hE
  obtain ⟨w',hrun,h1,h2⟩:=hown.update hK.keyed ht hlen (hK.key a b ha hb) (C1 (v:=.b c) hE rfl trivial)
  rw [aJu (.b c) (K3 a b) h.all] at h1
  exact ⟨w',hrun,MU.of_owns hK hE (B9.ins (K3 a b) h.all.del) h1,h2⟩
theorem aGq:MU (some (.map #[] 0)) []:=⟨#[],0,rfl,by simp,stamped_empty 0,fun x hx=>by simp at hx,rfl⟩
end
def nZ (o:Option Obj) (ek:Nat) (m:List (Int × ML)):Prop:=ID o ek m ∨ (ek = 3 ∧ MU o m)
theorem nZ.old {o:Option Obj} {ek:Nat} {m:List (Int × ML)} (h:nZ o ek m) (hk:ek ≠ 3):ID o ek m:=h.elim id fun q=>absurd q.1 hk
theorem nZ.pair {o:Option Obj} {m:List (Int × ML)} (h:nZ o 3 m):MU o m:=h.elim (fun q=>absurd q.1 (by decide)) fun q=>q.2
theorem nZ.of {o o' : Option Obj} {ek:Nat} {m:List (Int × ML)} (h:nZ o ek m) (he:∀ x,o = some x->o' = some x):nZ o' ek m:=by
  rcases h with ⟨hk,es,clock,h1,h2⟩ | ⟨hk,es,clock,h1,h2⟩
  · exact .inl ⟨hk,es,clock,he _ h1,h2⟩
  · exact .inr ⟨hk,es,clock,he _ h1,h2⟩
theorem nZ.obj {o:Option Obj} {ek:Nat} {m:List (Int × ML)} (h:nZ o ek m):∃ es clock,o = some (.map es clock):=by
  rcases h with ⟨hk,es,clock,h1,h2⟩ | ⟨hk,es,clock,h1,h2⟩ <;> exact ⟨es,clock,h1⟩
theorem aAT {ek:Nat} (hk:ek = 0 ∨ ek = 1):nZ (some (.map #[] 0)) ek []:=.inl (aGk hk)
section
variable {P:Program} {t K E:TypeId} {w:World} {g ek:Nat} {m:List (Int × ML)} {z:ML}
theorem nZ.owns (hK:P.underlying K = some (.int .i64)) (hE:P.underlying E = some (uW ek)) (h:nZ w.heap[g]? ek m) (hk:ek ≠ 3):w.ownsMap P K (plainElem P E) g m.length (QT m):=(h.old hk).owns hK hE
theorem aKi (h:nZ w.heap[g]? ek m) (ht:P.underlying t = some (.map K E)) (hK:P.underlying K = some (.int .i64)) (hE:P.underlying E = some (uW z.kind)) (hz:(zeroValue E).run P w = .ok z.val w) (ho:z.ok) (hk:m = [] ∨ z.kind = ek) {n:Int} (hn:lP n) :
    (Instr.lookup t (.map (some g)) (.int .i64 n) false).run P w = .ok (yN n z m).val w:=by
  rcases h with h | ⟨h3,es,clock,h1,h2,h4,h5,h6⟩
  · exact S1 h ht hK hE hz ho hk hn
  · rcases hk with rfl | hk
    · have he:es.toList = []:=by
        have:=congrArg List.length h6
        rw [C6,List.length_map] at this
        exact List.eq_nil_of_length_eq_zero this.symm
      have hm:ID w.heap[g]? z.kind []:=⟨by cases z <;> simp [ML.kind],es,clock,h1,h2,h4,fun x hx=>(by rw [he] at hx; cases hx),by rw [he]; rfl⟩
      exact S1 hm ht hK hE hz ho (.inr rfl) hn
    · rw [h3] at hk
      cases z <;> simp [ML.kind] at hk
theorem aMu (h:nZ w.heap[g]? ek m) (ht:P.underlying t = some (.map K E)) (hK:P.underlying K = some (.int .i64)) (hE:P.underlying E = some (uW ek)) {v:ML} (hv:v.kind = ek) (ho:v.ok) (hlen:m.length < maxLen) {n:Int} (hn:lP n) :
    ∃ w',(Instr.mapUpdate t (.map (some g)) (.int .i64 n) v.val).run P w = .ok () w' ∧ nZ w'.heap[g]? ek (GB n v m) ∧ w.grownBy w' (some g):=by
  have hk:ek ≠ 3:=by rintro rfl; cases v <;> simp [ML.kind] at hv
  obtain ⟨w',h1,h2,h3⟩:=aJl (h.old hk) ht hK hE hv ho hlen hn
  exact ⟨w',h1,.inl h2,h3⟩
theorem aN2 (h:nZ w.heap[g]? ek m) (ht:P.underlying t = some (.map K E)) (hK:P.underlying K = some (.int .i64)) (hE:P.underlying E = some (uW ek)) (hk:ek = 0 ∨ ek = 1) (ty:TypeId) {n:Int} (hn:lP n) :
    ∃ w',(Builtin.delete_ #[t,K] ty #[.map (some g),.int .i64 n]).run P w = .ok (.tuple #[]) w' ∧ nZ w'.heap[g]? ek (CA n m) ∧ w.grownBy w' (some g):=by
  obtain ⟨w',h1,h2,h3⟩:=aKL (h.old (by rcases hk with rfl | rfl <;> decide)) ht hK hE hk ty hn
  exact ⟨w',h1,.inl h2,h3⟩
end
end Vm
end Go.Proofs.Ytgjcnbgfaimepaa
namespace Go.Proofs.Ytgjcnbgfaimepaa
namespace Vm
open Go.RowKit
abbrev Hp:=Nat->Option Obj
def Hp.le (h k:Hp):Prop:=∀ b o,h b = some o->k b = some o
def hw (w:World):Hp:=fun b=>w.heap[b]?
def Hp.cell (h:Hp) (b o:Nat):Option Value:=match h b with
  | some (.cells c _ _)=>c[o]?
  | _=>none
theorem Hp.le.refl (h:Hp):h.le h:=fun _ _ e=>e
theorem Hp.le.trans {a b c:Hp} (h:a.le b) (k:b.le c):a.le c:=fun x o e=>k x o (h x o e)
theorem Hp.cell_le {h k:Hp} (l:h.le k) {b o:Nat} {v:Value} (e:h.cell b o = some v):k.cell b o = some v:=by
  unfold Hp.cell at *
  cases hb:h b with
  | none=>simp [hb] at e
  | some x=>rw [l b x hb]; rw [hb] at e; exact e
theorem HW (w:World) (b o:Nat):w.cell? ⟨b,o,none⟩ = (hw w).cell b o:=by
  simp only [World.cell?,Hp.cell,hw]
  cases w.heap[b]? with
  | none=>rfl
  | some x=>cases x <;> rfl
structure bQ extends World where
  L:Nat->Prop
  /-- slots that stay as they are -/
  F:Nat->Option Value
  /-- what the slots of callers hold -/
  O:Nat->Nat->Value
  /-- the calls that are deferred (the marks of ranges over functions) -/
  M:List Deferred
def bQ.of (w:World):bQ:={ w with L:=fun _=>False,F:=fun _=>none,O:=fun _ _=>undef,M:=[] }
def C7 (nt:Nat) (b:bQ) (dst:Option Nat):Prop:=∀ d,dst = some d->d < nt ∧ b.F d = none
def bQ.own (b:bQ) (g:Nat):Prop:=b.heap.size <= g ∨ b.L g
theorem bQ.own_of {w:World} {g:Nat} (h:(bQ.of w).own g):w.heap.size <= g:=by
  rcases h with h | h
  · exact h
  · exact h.elim
structure yP (b:bQ) (w w' : World):Prop where
  os:w'.os = w.os
  tape:w'.tape = w.tape
  output:w'.output = w.output
  size:w.heap.size <= w'.heap.size
  block:∀ k,¬ b.own k->w'.heap[k]? = w.heap[k]?
theorem yP.refl (b:bQ) (w:World):yP b w w:=⟨rfl,rfl,rfl,Nat.le_refl _,fun _ _=>rfl⟩
theorem yP.trans {b:bQ} {u v w:World} (h:yP b u v) (k:yP b v w):yP b u w :=
  ⟨k.os.trans h.os,k.tape.trans h.tape,k.output.trans h.output,Nat.le_trans h.size k.size,fun i hi=>(k.block i hi).trans (h.block i hi)⟩
theorem bQ.lt {b:bQ} {k:Nat} (h:¬ b.own k):k < b.heap.size:=Nat.lt_of_not_le fun q=>h (.inl q)
theorem yP.of {b:bQ} {w w' : World} (hb:b.heap.size <= w.heap.size) (h:Below w.heap.size w w'):yP b w w' :=
  ⟨h.os,h.tape,h.output,h.size,fun k hk=>h.block k (Nat.lt_of_lt_of_le (bQ.lt hk) hb)⟩
theorem yP.below {w w' : World} (h:yP (bQ.of w) w w'):Below w.heap.size w w' :=
  ⟨h.os,h.tape,h.output,h.size,fun k hk=>h.block k fun q=>by have:=bQ.own_of q; omega⟩
theorem yP.alloc {b:bQ} {w:World} (hb:b.heap.size <= w.heap.size) (o:Obj):yP b w (w.alloc o):=yP.of hb ((Below.refl _ _).alloc (Nat.le_refl _) o)
theorem yP.grown {b:bQ} {w w' : World} {row:Option Nat} (hg:w.grownBy w' row) (hB:b.heap.size <= w.heap.size) (hr:∀ k,row = some k->b.own k):yP b w w' :=
  ⟨hg.os,hg.tape,hg.output,hg.size,fun k hk=>hg.block k (Nat.lt_of_lt_of_le (bQ.lt hk) hB) fun e=>hk (hr k e.symm)⟩
theorem yP.drew {b:bQ} {a w:World} (h:yP b a w):yP b a w.drew:=⟨h.os,h.tape,h.output,h.size,h.block⟩
def D.noTup:D->Bool
  | .tup _=>false
  | _=>true
inductive aS (h:Hp):Value->D->Prop
  | int (k:IntKind) (n:Int):aS h (.int k n) (.int k n)
  | bool (b:Bool):aS h (.bool b) (.bool b)
  | str (s:ByteArray) (hs:s.size <= maxLen):aS h (.string s) (.str s)
  | np:aS h (.pointer none) .np
  | fn (f:Nat) (arr:Array Value) (cs:List D) (hl:arr.size = cs.length) (hr:∀ (j:Nat) (x:D),cs[j]? = some x->aS h (arr.getD j undef) x):aS h (.func (.func f) #[] arr) (.fn f cs)
  | sl0 (a:Option Addr) (c:Nat) (h0:a = none->c = 0):aS h (.slice a 0 c) (.sl [])
  | sl (b off c k n:Nat) (rows:List (List D)) (cv:Nat->Nat->Value) (hn:n = rows.length) (hc:rows.length <= c)
      (hk:∀ (i:Nat) (row:List D),rows[i]? = some row->row.length = k)
      (hm:∀ (i:Nat) (row:List D) (j:Nat) (x:D),rows[i]? = some row->row[j]? = some x->h.cell b (off + i * k + j) = some (cv i j))
      (hr:∀ (i:Nat) (row:List D) (j:Nat) (x:D),rows[i]? = some row->row[j]? = some x->aS h (cv i j) x)
      (ho:∀ (i:Nat) (row:List D) (j:Nat) (x:D),rows[i]? = some row->row[j]? = some x->(cv i j).oneCell' = true):aS h (.slice (some ⟨b,off,none⟩) n c) (.sl rows)
  | agg (arr:Array Value) (cs:List D) (hl:arr.size = cs.length) (hr:∀ (j:Nat) (x:D),cs[j]? = some x->aS h (arr.getD j undef) x)
      (ho:∀ (j:Nat) (x:D),cs[j]? = some x->(arr.getD j undef).oneCell' = true):aS h (.agg arr) (.agg cs)
  | tup (arr:Array Value) (vs:List D) (hl:arr.size = vs.length) (hr:∀ (j:Nat) (x:D),vs[j]? = some x->aS h (arr.getD j undef) x) (hn:∀ (j:Nat) (x:D),vs[j]? = some x->x.noTup = true):aS h (.tuple arr) (.tup vs)
  | ptr (b o off n:Nat) (row:List D) (cv:Nat->Value) (hn:n = o + off)
      (hm:∀ (j:Nat) (x:D),row[j]? = some x->h.cell b (o + j) = some (cv j))
      (hr:∀ (j:Nat) (x:D),row[j]? = some x->aS h (cv j) x)
      (ho:∀ (j:Nat) (x:D),row[j]? = some x->(cv j).oneCell' = true):aS h (.pointer (some ⟨b,n,none⟩)) (.ptr row off)
  | mp0:aS h (.map none) (.mp 2 [])
  | mp (g ek:Nat) (m:List (Int × ML)) (hm:nZ (h g) ek m):aS h (.map (some g)) (.mp ek m)
theorem nZ.le {h k:Hp} (l:h.le k) {g ek:Nat} {m:List (Int × ML)} (hm:nZ (h g) ek m):nZ (k g) ek m:=by
  exact hm.of fun x hx=>l g x hx
theorem aS.mono {h k:Hp} (l:h.le k) {v:Value} {x:D} (r:aS h v x):aS k v x:=by
  induction r with
  | int=>exact .int _ _
  | bool=>exact .bool _
  | str s hs=>exact .str s hs
  | np=>exact .np
  | fn f arr cs hl hr ih=>exact .fn f arr cs hl ih
  | sl0 a c h0=>exact .sl0 a c h0
  | sl b off c kk n rows cv hn hc hk hm hr ho ih=>exact .sl b off c kk n rows cv hn hc hk (fun i row j x h1 h2=>Hp.cell_le l (hm i row j x h1 h2)) ih ho
  | agg arr cs hl hr ho ih=>exact .agg arr cs hl ih ho
  | tup arr vs hl hr hn ih=>exact .tup arr vs hl ih hn
  | ptr b o off n row cv hn hm hr ho ih=>exact .ptr b o off n row cv hn (fun j x h1=>Hp.cell_le l (hm j x h1)) ih ho
  | mp0=>exact .mp0
  | mp g ek m hm=>exact .mp g ek m (hm.le l)
def D.atom:D->Bool
  | .agg _ | .tup _=>false
  | _=>true
theorem aS.one {h:Hp} {v:Value} {x:D} (r:aS h v x) (hx:x.atom = true):v.oneCell' = true:=by
  cases r <;> first | rfl | simp [D.atom] at hx
def eR:Value->Option Nat
  | .pointer (some a)=>some a.block
  | .slice (some a) _ _=>some a.block
  | .map (some g)=>some g
  | _=>none
def aI.ver? : aI->Option Nat
  | .rows v _ _ _=>some v
  | .froz v _=>some v
  | .box _=>none
  | .fbox _=>none
  | .outer _=>none
  | .mp _ _=>none
  | .fmp _ _=>none
def aI.isMp:aI->Bool
  | .mp _ _ | .fmp _ _=>true
  | _=>false
def aI.isBox:aI->Bool
  | .box _ | .fbox _=>true
  | _=>false
def RC (hd:Nat->Value) (bl:Nat->Option aI) (v:Value):V->Prop
  | .ptr id off=>(∃ b,bl id = some b ∧ b.isBox = true) ∧ ∃ g,hd id = .pointer (some ⟨g,0,none⟩) ∧ v = .pointer (some ⟨g,off,none⟩)
  | _=>False
def R1 (h:Hp) (hd:Nat->Value) (bl:Nat->Option aI) (v:Value):V->Prop
  | .any=>True
  | .d x=>x.atom = true ∧ aS h v x
  | .nil=>v = .slice none 0 0
  | .ptr id off=>(∃ b,bl id = some b ∧ b.isBox = true) ∧ ∃ g,hd id = .pointer (some ⟨g,0,none⟩) ∧ v = .pointer (some ⟨g,off,none⟩)
  | .own id ver=>∃ b c,bl id = some b ∧ b.ver? = some c ∧ ver <= c ∧ v.oneCell' = true ∧ (ver = c->v = hd id)
  | .orow id ver i off=>∃ b c,bl id = some b ∧ b.ver? = some c ∧ ver <= c ∧ v.oneCell' = true ∧ ∀ e size rows,b = .rows ver e size rows->∃ g b n c,hd id = .slice (some ⟨g,b,none⟩) n c ∧ v = .pointer (some ⟨g,b + (i * size + off),none⟩)
  | .fn f caps=>∃ arr:Array Value,v = .func (.func f) #[] arr ∧ arr.size = caps.length ∧ ∀ j x,caps[j]? = some x->RC hd bl (arr.getD j undef) x
  | .mp id=>(∃ b,bl id = some b ∧ b.isMp = true) ∧ v = hd id ∧ ∃ g,hd id = .map (some g)
  | .agg _ | .tup _=>False
def R2 (h:Hp) (hd:Nat->Value) (bl:Nat->Option aI) (v:Value):V->Prop
  | .agg cs=>∃ arr,v = .agg arr ∧ arr.size = cs.length ∧ ∀ j x,cs[j]? = some x->R1 h hd bl (arr.getD j undef) x ∧ (arr.getD j undef).oneCell' = true
  | x=>R1 h hd bl v x
def R3 (h:Hp) (hd:Nat->Value) (bl:Nat->Option aI) (v:Value):V->Prop
  | .tup vs=>∃ arr,v = .tuple arr ∧ arr.size = vs.length ∧ ∀ j x,vs[j]? = some x->R2 h hd bl (arr.getD j undef) x
  | x=>R2 h hd bl v x
def iK (w:World) (e size:Nat) (v:Value) (n:Nat) (xs:List Value):Prop:=xs.length = n * size ∧
  ((v = .slice none 0 0 ∧ n = 0) ∨ ∃ g o cap cur,v = .slice (some ⟨g,o * size,none⟩) n cap ∧ w.heap[g]? = some (.cells cur e (0,0)) ∧ n <= cap ∧ cap <= maxLen ∧ (o + cap) * size <= cur.size ∧ (cur.toList.drop (o * size)).take (n * size) = xs)
theorem wL {w:World} {base e size n:Nat} {v:Value} {xs:List Value} (h:w.ownsRow base e size v n xs):iK w e size v n xs:=by
  refine ⟨h.1,?_⟩
  rcases h.2 with q | ⟨g,cap,cur,q1,q2,q3,q4,q5,q6,q7⟩
  · exact .inl q
  · exact .inr ⟨g,0,cap,cur,by simpa using q1,q3,q4,q5,by simp [q6],by simpa using q7⟩
theorem iK.lt {w:World} {e size n:Nat} {v:Value} {xs:List Value} (h:iK w e size v n xs):∀ g,eR v = some g->g < w.heap.size:=by
  intro g hg
  rcases h.2 with ⟨rfl,_⟩ | ⟨g',o,cap,cur,rfl,q,_⟩
  · cases hg
  · cases hg; exact (Array.getElem?_eq_some_iff.1 q).1
theorem iK.one {w:World} {e size n:Nat} {v:Value} {xs:List Value} (h:iK w e size v n xs):v.oneCell' = true:=by
  rcases h.2 with ⟨rfl,_⟩ | ⟨g',o,cap,cur,rfl,q,_⟩ <;> rfl
theorem iK.num {w:World} {e size n:Nat} {v:Value} {xs:List Value} (h:iK w e size v n xs):eR v = v.ownBlock:=by
  rcases h.2 with ⟨rfl,_⟩ | ⟨g',o,cap,cur,rfl,q,_⟩ <;> rfl
theorem iK.cells {w:World} {e size n:Nat} {v:Value} {xs:List Value} (h:iK w e size v n xs) {g b m c:Nat} (hv:v = .slice (some ⟨g,b,none⟩) m c):∀ (j:Nat) (u:Value),xs[j]? = some u->w.cell? ⟨g,b + j,none⟩ = some u:=by
  intro j u hj
  rcases h.2 with ⟨rfl,_⟩ | ⟨g',o,cap,cur,rfl,q,q1,q2,q3,q4⟩
  · cases hv
  · cases hv
    rw [← q4,List.getElem?_take] at hj
    split at hj
    · rw [List.getElem?_drop] at hj
      have:cur[o * size + j]? = some u:=by simpa using hj
      simp [World.cell?,q,this]
    · cases hj
def gK (h:Hp) (size:Nat) (rows:List (List D)) (xs:List Value):Prop :=
  ∀ i row,rows[i]? = some row->row.length = size ∧ ∀ j x,row[j]? = some x->x.atom = true ∧ ∃ u,xs[i * size + j]? = some u ∧ aS h u x
def BR (base:bQ) (w:World) (h:Hp) (hd:Nat->Value) (bl:Nat->Option aI) (id:Nat):aI->Prop
  | .box cs=>∃ g arr e,hd id = .pointer (some ⟨g,0,none⟩) ∧ base.own g ∧ w.heap[g]? = some (.cells arr e (0,0)) ∧ arr.size = cs.length ∧
      (∀ j x,cs[j]? = some x->R1 h hd bl (arr.getD j undef) x ∧ (arr.getD j undef).oneCell' = true) ∧ h g = none
  | .rows ver e size rows=>0 < size ∧ rows.length <= maxLen ∧ (∃ xs,iK w e size (hd id) rows.length xs ∧ gK h size rows xs) ∧ ∀ g,eR (hd id) = some g->h g = none ∧ base.own g
  | .froz ver rows=>aS h (hd id) (.sl rows)
  | .fbox cs=>aS h (hd id) (.ptr cs 0)
  | .outer cs=>∀ j x,cs[j]? = some x->R3 h hd bl (base.O id j) x
  | .mp ek m=>∃ g,hd id = .map (some g) ∧ base.own g ∧ nZ w.heap[g]? ek m ∧ h g = none
  | .fmp ek m=>aS h (hd id) (.mp ek m)
def aI.live:aI->Bool
  | .fmp _ _=>false
  | .froz _ _=>false
  | .fbox _=>false
  | .outer _=>false
  | _=>true
structure Rl (nt:Nat) (w0:bQ) (h0:Hp) (fr:Nat->V) (bl:Nat->Option aI) (a:Act) (w:World) (h:Hp) (hd:Nat->Value):Prop where
  tmps:a.tmps.size = nt
  defers:a.defers = w0.M
  fixed:∀ t v,w0.F t = some v->a.tmps.getD t undef = v
  below:yP w0 w0.toWorld w
  hle:h.le (hw w)
  h0le:h0.le h
  hbase:∀ b,¬ w0.own b->h b = h0 b
  frame:∀ t,R3 h hd bl (a.tmps.getD t undef) (fr t)
  blk:∀ id b,bl id = some b->BR w0 w h hd bl id b
  sep:∀ i j bi bj g,bl i = some bi->bl j = some bj->bi.live = true->bj.live = true->eR (hd i) = some g->eR (hd j) = some g->i = j
def vT (hd hd' : Nat->Value) (id:Nat):aI->aI->Prop
  | .box _,.box _=>hd' id = hd id
  | .box _,.fbox _=>hd' id = hd id
  | .fbox _,.fbox _=>hd' id = hd id
  | .rows v e s _,.rows v' e' s' _=>(v' = v ∧ e' = e ∧ s' = s ∧ hd' id = hd id) ∨ v < v'
  | .rows v _ _ _,.froz v' _=>v' = v ∧ hd' id = hd id
  | .froz v _,.froz v' _=>v' = v ∧ hd' id = hd id
  | .outer _,.outer _=>True
  | .mp e _,.mp e' _=>e' = e ∧ hd' id = hd id
  | .mp e _,.fmp e' _=>e' = e ∧ hd' id = hd id
  | .fmp e _,.fmp e' _=>e' = e ∧ hd' id = hd id
  | _,_=>False
def Kp (hd hd' : Nat->Value) (bl bl' : Nat->Option aI):Prop:=∀ id b,bl id = some b->∃ b',bl' id = some b' ∧ vT hd hd' id b b'
theorem vT.refl (hd:Nat->Value) (id:Nat) (b:aI):vT hd hd id b b:=by cases b <;> simp [vT]
theorem Kp.refl (hd:Nat->Value) (bl:Nat->Option aI):Kp hd hd bl bl:=fun id b h=>⟨b,h,vT.refl hd id b⟩
section
variable {h h' : Hp} {hd hd' : Nat->Value} {bl bl' : Nat->Option aI} {v:Value}
theorem RC.keep (k:Kp hd hd' bl bl') {v:Value}:∀ {x:V},RC hd bl v x->RC hd' bl' v x:=by
  intro x r
  cases x with
  | ptr id off =>
    obtain ⟨⟨b,hb,hx⟩,g,hg,e⟩:=r
    obtain ⟨b',hb',kk⟩:=k _ _ hb
    cases b <;> cases b' <;> simp only [vT] at kk <;> first | (simp [aI.isBox] at hx; done) | exact ⟨⟨_,hb',rfl⟩,g,kk.trans hg,e⟩
  | _=>exact r.elim
theorem R1.keep (l:h.le h') (k:Kp hd hd' bl bl'):∀ {x:V},R1 h hd bl v x->R1 h' hd' bl' v x:=by
  intro x r
  cases x with
  | any=>trivial
  | d x=>exact ⟨r.1,r.2.mono l⟩
  | nil=>exact r
  | agg cs=>exact r
  | tup cs=>exact r
  | ptr id off =>
    obtain ⟨⟨b,hb,hx⟩,g,hg,e⟩:=r
    obtain ⟨b',hb',kk⟩:=k _ _ hb
    cases b <;> cases b' <;> simp only [vT] at kk <;> first | (simp [aI.isBox] at hx; done) | exact ⟨⟨_,hb',rfl⟩,g,kk.trans hg,e⟩
  | own id ver =>
    obtain ⟨b,c,hb,hc,hle,h1,he⟩:=r
    obtain ⟨b',hb',kk⟩:=k _ _ hb
    cases b <;> cases b' <;> simp only [vT] at kk <;> simp only [aI.ver?,Option.some.injEq,reduceCtorEq] at hc
    · rcases kk with ⟨rfl,_,_,kk⟩ | kk
      · exact ⟨_,_,hb',rfl,by omega,h1,fun e=>(he (by omega)).trans kk.symm⟩
      · exact ⟨_,_,hb',rfl,by omega,h1,fun e=>by omega⟩
    · obtain ⟨rfl,kk⟩:=kk
      exact ⟨_,_,hb',rfl,by omega,h1,fun e=>(he (by omega)).trans kk.symm⟩
    · obtain ⟨rfl,kk⟩:=kk
      exact ⟨_,_,hb',rfl,by omega,h1,fun e=>(he (by omega)).trans kk.symm⟩
  | orow id ver i off =>
    obtain ⟨b,c,hb,hc,hle,h1,he⟩:=r
    obtain ⟨b',hb',kk⟩:=k _ _ hb
    cases b <;> cases b' <;> simp only [vT] at kk <;> simp only [aI.ver?,Option.some.injEq,reduceCtorEq] at hc
    · rcases kk with ⟨rfl,rfl,rfl,kk⟩ | kk
      · refine ⟨_,_,hb',rfl,by omega,h1,fun e s rows eq=>?_⟩
        cases eq
        rw [kk]
        exact he _ _ _ rfl
      · exact ⟨_,_,hb',rfl,by omega,h1,fun e s rows eq=>by cases eq; omega⟩
    · exact ⟨_,_,hb',rfl,by omega,h1,fun e s rows eq=>by cases eq⟩
    · exact ⟨_,_,hb',rfl,by omega,h1,fun e s rows eq=>by cases eq⟩
  | fn f caps =>
    obtain ⟨arr,e,hs,hr⟩:=r
    exact ⟨arr,e,hs,fun j x hx=>(hr j x hx).keep k⟩
  | mp id =>
    obtain ⟨⟨b,hb,hx⟩,e,g,hg⟩:=r
    obtain ⟨b',hb',kk⟩:=k _ _ hb
    cases b <;> cases b' <;> simp only [vT] at kk <;> first | (simp [aI.isMp] at hx; done) | exact ⟨⟨_,hb',rfl⟩,e.trans kk.2.symm,g,kk.2.trans hg⟩
theorem R1.one {x:V} (r:R1 h hd bl v x) (hx:x ≠ .any):v.oneCell' = true:=by
  cases x with
  | any=>exact absurd rfl hx
  | d x=>exact r.2.one r.1
  | nil=>rw [show v = _ from r]; rfl
  | agg cs=>exact r.elim
  | tup cs=>exact r.elim
  | ptr id off=>obtain ⟨_,g,_,rfl⟩:=r; rfl
  | own id ver=>obtain ⟨b,c,hb,hc,hle,h1,he⟩:=r; exact h1
  | orow id ver i off=>obtain ⟨b,c,hb,hc,hle,h1,he⟩:=r; exact h1
  | fn f caps=>obtain ⟨arr,rfl,_⟩:=r; rfl
  | mp id=>obtain ⟨_,rfl,g,hg⟩:=r; rw [hg]; rfl
theorem R2.of1 {x:V} (r:R1 h hd bl v x):R2 h hd bl v x:=by
  cases x <;> first | exact r | exact r.elim
theorem R3.of2 {x:V} (r:R2 h hd bl v x):R3 h hd bl v x:=by
  cases x <;> first | exact r | exact r.elim
theorem R2.keep (l:h.le h') (k:Kp hd hd' bl bl'):∀ {x:V},R2 h hd bl v x->R2 h' hd' bl' v x:=by
  intro x r
  cases x with
  | agg cs =>
    obtain ⟨arr,e,hs,hr⟩:=r
    exact ⟨arr,e,hs,fun j x hx=>⟨(hr j x hx).1.keep l k,(hr j x hx).2⟩⟩
  | _=>exact R2.of1 (R1.keep l k r)
theorem R3.keep (l:h.le h') (k:Kp hd hd' bl bl'):∀ {x:V},R3 h hd bl v x->R3 h' hd' bl' v x:=by
  intro x r
  cases x with
  | tup cs =>
    obtain ⟨arr,e,hs,hr⟩:=r
    exact ⟨arr,e,hs,fun j x hx=>(hr j x hx).keep l k⟩
  | _=>exact R3.of2 (R2.keep l k r)
theorem gK.mono {size:Nat} {rows:List (List D)} {xs:List Value} (l:h.le h') (r:gK h size rows xs):gK h' size rows xs:=fun i row hi =>
  ⟨(r i row hi).1,fun j x hx=>⟨((r i row hi).2 j x hx).1,by obtain ⟨u,h1,h2⟩:=((r i row hi).2 j x hx).2; exact ⟨u,h1,h2.mono l⟩⟩⟩
end
theorem DO {base:Nat} {w:World} {e size n:Nat} {v:Value} {xs:List Value} (h:w.ownsRow base e size v n xs):eR v = v.ownBlock:=by
  rcases h.2 with ⟨rfl,_⟩ | ⟨g,cap,cur,rfl,_⟩ <;> rfl
theorem BR.keep {base:bQ} {w w' : World} {h h' : Hp} {hd hd' : Nat->Value} {bl bl' : Nat->Option aI} {id:Nat} {b:aI} (l:h.le h') (k:Kp hd hd' bl bl')
    (hh:hd' id = hd id) (hw:b.live = true->∀ g,eR (hd id) = some g->w'.heap[g]? = w.heap[g]? ∧ (h g = none->h' g = none)) (r:BR base w h hd bl id b):BR base w' h' hd' bl' id b:=by
  cases b with
  | box cs =>
    obtain ⟨g,arr,e,h1,h2,h3,h4,h5,h6⟩:=r
    obtain ⟨q1,q2⟩:=hw rfl g (by rw [h1]; rfl)
    exact ⟨g,arr,e,hh.trans h1,h2,q1.trans h3,h4,fun j x hx=>⟨(h5 j x hx).1.keep l k,(h5 j x hx).2⟩,q2 h6⟩
  | rows ver e size rows =>
    obtain ⟨h1,h2,⟨xs,h3,h4⟩,h5⟩:=r
    refine ⟨h1,h2,⟨xs,?_,h4.mono l⟩,fun g hg=>⟨(hw rfl g (hh ▸ hg)).2 (h5 g (hh ▸ hg)).1,(h5 g (hh ▸ hg)).2⟩⟩
    rw [hh]
    refine ⟨h3.1,?_⟩
    rcases h3.2 with q | ⟨g,o,cap,cur,q1,q3,q4⟩
    · exact .inl q
    · exact .inr ⟨g,o,cap,cur,q1,((hw rfl g (by rw [q1]; rfl)).1).trans q3,q4⟩
  | froz ver rows =>
    show aS h' (hd' id) (.sl rows)
    rw [hh]
    exact aS.mono l r
  | fbox cs =>
    show aS h' (hd' id) (.ptr cs 0)
    rw [hh]
    exact aS.mono l r
  | outer cs=>exact fun j x hx=>R3.keep l k (r j x hx)
  | mp ek m =>
    obtain ⟨g,h1,h2,h3,h4⟩:=r
    obtain ⟨q1,q2⟩:=hw rfl g (by rw [h1]; rfl)
    exact ⟨g,hh.trans h1,h2,by rw [q1]; exact h3,q2 h4⟩
  | fmp ek m =>
    show aS h' (hd' id) (.mp ek m)
    rw [hh]
    exact aS.mono l r
theorem BR.num {base:bQ} {w:World} {h:Hp} {hd:Nat->Value} {bl:Nat->Option aI} {id:Nat} {b:aI} (hb:b.live = true) (r:BR base w h hd bl id b) {g:Nat} (hg:eR (hd id) = some g) :
    base.own g ∧ g < w.heap.size ∧ h g = none:=by
  cases b with
  | box cs =>
    obtain ⟨g',arr,e,h1,h2,h3,h4,h5,h6⟩:=r
    rw [h1] at hg
    obtain rfl:=Option.some.inj hg
    exact ⟨h2,(Array.getElem?_eq_some_iff.1 h3).1,h6⟩
  | rows ver e size rows =>
    obtain ⟨h1,h2,⟨xs,h3,h4⟩,h5⟩:=r
    have:=h3.lt g hg
    exact ⟨(h5 g hg).2,this,(h5 g hg).1⟩
  | froz ver rows=>simp [aI.live] at hb
  | fbox cs=>simp [aI.live] at hb
  | outer cs=>simp [aI.live] at hb
  | mp ek m =>
    obtain ⟨g',h1,h2,h3,h4⟩:=r
    rw [h1] at hg
    obtain rfl:=Option.some.inj hg
    obtain ⟨es,clock,h5⟩:=h3.obj
    exact ⟨h2,(Array.getElem?_eq_some_iff.1 h5).1,h4⟩
  | fmp ek m=>simp [aI.live] at hb
end Vm
end Go.Proofs.Ytgjcnbgfaimepaa
namespace Go.Proofs.Ytgjcnbgfaimepaa
namespace Vm
open Go.RowKit
theorem bB {α β:Type} {f:α->Option β}:∀ {l:List α} {ys:List β},aK f l = some ys->l.length = ys.length ∧ ∀ (i:Nat) (x:α),l[i]? = some x->∃ y,ys[i]? = some y ∧ f x = some y
  | [],ys,h=>by simp [aK] at h; subst h; simp
  | x :: r,ys,h=>by
    simp only [aK] at h
    split at h
    · cases h
    · rename_i y hy
      split at h
      · cases h
      · rename_i zs hz
        cases h
        obtain ⟨h1,h2⟩:=bB hz
        refine ⟨by simp [h1],fun i x' hx=>?_⟩
        cases i with
        | zero=>simp at hx; subst hx; exact ⟨y,by simp,hy⟩
        | succ i=>simpa using h2 i x' (by simpa using hx)
theorem bP {α β:Type} {f:α->Option β} {l:List α} {ys:List β} (h:aK f l = some ys) {i:Nat} {y:β} (hy:ys[i]? = some y):∃ x,l[i]? = some x ∧ f x = some y:=by
  obtain ⟨h1,h2⟩:=bB h
  have:i < l.length:=by rw [h1]; exact (List.getElem?_eq_some_iff.1 hy).1
  obtain ⟨y',q1,q2⟩:=h2 i l[i] (by simp [this])
  rw [hy] at q1
  cases q1
  exact ⟨l[i],by simp [this],q2⟩
def dU (fr:Nat->V) (dst:Option Nat) (v:V):Nat->V:=fun t=>if dst = some t then v else fr t
def bE (bl:Nat->Option aI) (wr:List (Nat × Option aI)):Nat->Option aI:=fun id=>lk wr (bl id) id
theorem SY (bl:Nat->Option aI) (i:Nat) (b:Option aI) (wr:List (Nat × Option aI)):bE bl ((i,b) :: wr) = bE (bE bl wr) [(i,b)]:=by
  funext id; simp [bE,lk]
theorem lZ (bl:Nat->Option aI) (i:Nat) (b:Option aI):bE bl [(i,b)] i = b:=by simp [bE,lk]
theorem vU (bl:Nat->Option aI) {i j:Nat} (b:Option aI) (h:j ≠ i):bE bl [(i,b)] j = bl j:=by simp [bE,lk,h]
theorem GH (a:Act) (dst:Option Nat) (cv:Value) (t nt:Nat) (hs:a.tmps.size = nt) (hd:∀ d,dst = some d->d < nt) :
    (a.put dst cv).tmps.getD t undef = if dst = some t then cv else a.tmps.getD t undef:=by
  cases dst with
  | none=>simp [Act.put]
  | some d =>
    have:=hd d rfl
    simp only [Act.put,Option.some.injEq]
    by_cases e:d = t
    · subst e; simp [hs,this]
    · simp [e,Array.getElem?_setIfInBounds_ne e]
section
variable {nt:Nat} {w0:bQ} {w w' : World} {h0 h h' : Hp} {fr:Nat->V} {bl bl' : Nat->Option aI} {a:Act} {hd hd' : Nat->Value}
theorem Rl.put (r:Rl nt w0 h0 fr bl a w h hd) (dst:Option Nat) (cv:Value) (v:V) (hdst:C7 nt w0 dst)
    (hl:h.le h') (hle:h'.le (hw w')) (hb:∀ b,¬ w0.own b->h' b = h b) (hbel:yP w0 w w') (hk:Kp hd hd' bl bl')
    (hB:∀ id b,bl' id = some b->BR w0 w' h' hd' bl' id b)
    (hsep:∀ i j bi bj g,bl' i = some bi->bl' j = some bj->bi.live = true->bj.live = true->eR (hd' i) = some g->eR (hd' j) = some g->i = j)
    (hv:R3 h' hd' bl' cv v):Rl nt w0 h0 (dU fr dst v) bl' (a.put dst cv) w' h' hd' where
  tmps:=by cases dst <;> simp [Act.put,r.tmps]
  defers:=by cases dst <;> simp [Act.put,r.defers]
  fixed:=fun t u hF=>by
    rw [GH a dst cv t nt r.tmps fun d e=>(hdst d e).1]
    by_cases e:dst = some t
    · rw [(hdst t e).2] at hF; cases hF
    · rw [if_neg e]; exact r.fixed t u hF
  below:=r.below.trans hbel
  hle:=hle
  h0le:=r.h0le.trans hl
  hbase:=fun b h=>(hb b h).trans (r.hbase b h)
  frame:=fun t=>by
    rw [GH a dst cv t nt r.tmps fun d e=>(hdst d e).1]
    unfold dU
    by_cases e:dst = some t
    · rw [if_pos e,if_pos e]; exact hv
    · rw [if_neg e,if_neg e]; exact (r.frame t).keep hl hk
  blk:=hB
  sep:=hsep
theorem Rl.put0 (r:Rl nt w0 h0 fr bl a w h hd) (dst:Option Nat) (cv:Value) (v:V) (hdst:C7 nt w0 dst) (hv:R3 h hd bl cv v) :
    Rl nt w0 h0 (dU fr dst v) bl (a.put dst cv) w h hd :=
  r.put dst cv v hdst (Hp.le.refl _) r.hle (fun _ _=>rfl) (yP.refl _ _) (Kp.refl _ _) r.blk r.sep hv
theorem Rl.turn (r:Rl nt w0 h0 fr bl a w h hd) (dst:Option Nat) (cv:Value) (v:V) (hdst:C7 nt w0 dst)
    (id:Nat) (b:aI) (hv' : Value) (hbel:yP w0 w w') (hle:h.le (hw w'))
    (hk:∀ b0,bl id = some b0->vT hd (fun i=>if i = id then hv' else hd i) id b0 b)
    (hoth:∀ g,g < w.heap.size->(∀ b0,bl id = some b0->b0.live = true->eR (hd id) ≠ some g)->w'.heap[g]? = w.heap[g]?)
    (hB:BR w0 w' h (fun i=>if i = id then hv' else hd i) (bE bl [(id,some b)]) id b)
    (hnew:∀ g,eR hv' = some g->b.live = true->w.heap.size <= g ∨ ∃ b0,bl id = some b0 ∧ b0.live = true ∧ eR (hd id) = some g)
    (hvv:R3 h (fun i=>if i = id then hv' else hd i) (bE bl [(id,some b)]) cv v) :
    Rl nt w0 h0 (dU fr dst v) (bE bl [(id,some b)]) (a.put dst cv) w' h (fun i=>if i = id then hv' else hd i):=by
  have hkp:Kp hd (fun i=>if i = id then hv' else hd i) bl (bE bl [(id,some b)]):=by
    intro j c hj
    by_cases e:j = id
    · subst e; exact ⟨b,lZ _ _ _,hk c hj⟩
    · refine ⟨c,by rw [vU _ _ e]; exact hj,?_⟩
      have:=vT.refl hd j c
      cases c <;> simp only [vT] at this ⊢ <;> simp [e]
  refine r.put dst cv v hdst (Hp.le.refl _) hle (fun _ _=>rfl) hbel hkp ?_ ?_ hvv
  · intro j c hj
    by_cases e:j = id
    · subst e
      rw [lZ] at hj
      obtain rfl:=Option.some.inj hj
      exact hB
    · rw [vU _ _ e] at hj
      refine (r.blk j c hj).keep (Hp.le.refl _) hkp (by simp [e]) fun hl g hg=>⟨?_,fun q=>q⟩
      refine hoth g ((r.blk j c hj).num hl hg).2.1 fun b0 hb0 hl0 hg0=>e (r.sep j id c b0 g hj hb0 hl hl0 hg hg0)
  · intro i j bi bj g hi hj li lj gi gj
    by_cases ei:i = id
    · subst ei
      by_cases ej:j = i
      · exact ej.symm
      · rw [vU _ _ ej] at hj
        rw [lZ] at hi
        obtain rfl:=Option.some.inj hi
        simp only [if_pos] at gi
        rw [if_neg ej] at gj
        exfalso
        rcases hnew g gi li with q | ⟨b0,q1,q2,q3⟩
        · have:=((r.blk j bj hj).num lj gj).2.1; omega
        · exact ej (r.sep j i bj b0 g hj q1 lj q2 gj q3)
    · rw [vU _ _ ei] at hi
      rw [if_neg ei] at gi
      by_cases ej:j = id
      · subst ej
        rw [lZ] at hj
        obtain rfl:=Option.some.inj hj
        simp only [if_pos] at gj
        exfalso
        rcases hnew g gj lj with q | ⟨b0,q1,q2,q3⟩
        · have:=((r.blk i bi hi).num li gi).2.1; omega
        · exact ei (r.sep i j bi b0 g hi q1 li q2 gi q3)
      · rw [vU _ _ ej] at hj
        rw [if_neg ej] at gj
        exact r.sep i j bi bj g hi hj li lj gi gj
theorem SD (hle:h.le (hw w)) (o:Obj):h.le (hw (w.alloc o)):=fun b x e=>by
  have:=hle b x e
  have hlt:b < w.heap.size:=(Array.getElem?_eq_some_iff.1 this).1
  exact (heap_alloc_old w o b hlt).trans this
theorem HH (hle:h.le (hw w)) {g:Nat} (hg:w.heap.size <= g):h g = none:=by
  cases e:h g with
  | none=>rfl
  | some o=>exact absurd (Array.getElem?_eq_some_iff.1 (hle g o e)).1 (by omega)
theorem aCu {base e size n:Nat} {v:Value} {xs:List Value} (h:w.ownsRow base e size v n xs):v.oneCell' = true:=by
  rcases h.2 with ⟨rfl,_⟩ | ⟨g,cap,cur,rfl,_⟩ <;> rfl
theorem Rl.newBox (r:Rl nt w0 h0 fr bl a w h hd) (dst:Option Nat) (hdst:C7 nt w0 dst) (site:Nat) (hs:bl site = none) (arr:Array Value) (e:TypeId) (cs:List V)
    (hl:arr.size = cs.length) (hr:∀ j x,cs[j]? = some x->R1 h hd bl (arr.getD j undef) x ∧ (arr.getD j undef).oneCell' = true) :
    ∃ hd',Rl nt w0 h0 (dU fr dst (.ptr site 0)) (bE bl [(site,some (.box cs))]) (a.put dst (.pointer (some ⟨w.heap.size,0,none⟩))) (w.alloc (.cells arr e)) h hd':=by
  have hbase:w0.heap.size <= w.heap.size:=r.below.size
  have hkp:Kp hd (fun i=>if i = site then .pointer (some ⟨w.heap.size,0,none⟩) else hd i) bl (bE bl [(site,some (.box cs))]):=by
    intro j c hj
    have e:j ≠ site:=fun e=>by rw [e,hs] at hj; cases hj
    refine ⟨c,by rw [vU _ _ e]; exact hj,?_⟩
    have:=vT.refl hd j c
    cases c <;> simp only [vT] at this ⊢ <;> simp [e]
  refine ⟨_,r.turn dst _ _ hdst site (.box cs) (.pointer (some ⟨w.heap.size,0,none⟩)) (yP.alloc hbase _) (SD r.hle _)
    (fun b0 hb0=>by rw [hs] at hb0; cases hb0) (fun g hg _=>heap_alloc_old w _ g hg) ?_ (fun g hg _=>.inl (by simp [eR] at hg; omega)) ?_⟩
  · exact ⟨w.heap.size,arr,e,by simp,.inl hbase,heap_alloc_new w _,hl,fun j x hx=>⟨(hr j x hx).1.keep (Hp.le.refl _) hkp,(hr j x hx).2⟩,HH r.hle (Nat.le_refl _)⟩
  · exact ⟨⟨_,lZ _ _ _,rfl⟩,w.heap.size,by simp,rfl⟩
theorem Rl.newRows' (r:Rl nt w0 h0 fr bl a w h hd) (dst:Option Nat) (hdst:C7 nt w0 dst) (site:Nat) (hs:bl site = none) (e size:Nat) (rows:List (List D)) (hv:Value) (xs:List Value)
    (hsz:0 < size) (hlen:rows.length <= maxLen) (hg:w.grownBy w' none) (hown:w'.ownsRow w.heap.size e size hv rows.length xs) (hin:gK h size rows xs) :
    ∃ hd' : Nat->Value,hd' site = hv ∧ Rl nt w0 h0 (dU fr dst (.own site 0)) (bE bl [(site,some (.rows 0 e size rows))]) (a.put dst hv) w' h hd':=by
  have hbase:w0.heap.size <= w.heap.size:=r.below.size
  have hown':=wL hown
  have hbel:yP w0 w w':=yP.grown hg hbase (fun k hk=>by cases hk)
  have hle:h.le (hw w'):=fun b o hb=>by
    have:=r.hle b o hb
    exact (hg.block b (Array.getElem?_eq_some_iff.1 this).1 (by simp)).trans this
  refine ⟨_,by simp,r.turn dst _ _ hdst site (.rows 0 e size rows) hv hbel hle
    (fun b0 hb0=>by rw [hs] at hb0; cases hb0) (fun g hg' _=>hg.block g hg' (by simp)) ?_ (fun g hg' _=>.inl (hown.lt g ((DO hown) ▸ hg')).1) ?_⟩
  · exact ⟨hsz,hlen,⟨xs,by simpa using hown',hin⟩,fun g hg'=>⟨HH r.hle (hown.lt g ((DO hown) ▸ (by simpa using hg'))).1,.inl (Nat.le_trans hbase (hown.lt g ((DO hown) ▸ (by simpa using hg'))).1)⟩⟩
  · exact ⟨_,0,lZ _ _ _,rfl,Nat.le_refl _,aCu hown,fun _=>by simp⟩
theorem Rl.newRows (r:Rl nt w0 h0 fr bl a w h hd) (dst:Option Nat) (hdst:C7 nt w0 dst) (site:Nat) (hs:bl site = none) (e size:Nat) (rows:List (List D)) (hv:Value) (xs:List Value)
    (hsz:0 < size) (hlen:rows.length <= maxLen) (hg:w.grownBy w' none) (hown:w'.ownsRow w.heap.size e size hv rows.length xs) (hin:gK h size rows xs) :
    ∃ hd',Rl nt w0 h0 (dU fr dst (.own site 0)) (bE bl [(site,some (.rows 0 e size rows))]) (a.put dst hv) w' h hd' :=
  let ⟨hd',_,q⟩:=r.newRows' dst hdst site hs e size rows hv xs hsz hlen hg hown hin
  ⟨hd',q⟩
theorem Rl.grow (r:Rl nt w0 h0 fr bl a w h hd) (dst:Option Nat) (hdst:C7 nt w0 dst) (id ver e size:Nat) (rows rows' : List (List D)) (hb:bl id = some (.rows ver e size rows)) (hv:Value) (xs:List Value)
    (hlen:rows'.length <= maxLen) (hg:w.grownBy w' (hd id).ownBlock) (hown:iK w' e size hv rows'.length xs) (hin:gK h size rows' xs)
    (hnew:∀ g,eR hv = some g->w.heap.size <= g ∨ eR (hd id) = some g) :
    ∃ hd',Rl nt w0 h0 (dU fr dst (.own id (ver + 1))) (bE bl [(id,some (.rows (ver + 1) e size rows'))]) (a.put dst hv) w' h hd':=by
  have hbase:w0.heap.size <= w.heap.size:=r.below.size
  obtain ⟨q1,q2,⟨xs0,q3,q4⟩,q5⟩:=r.blk id _ hb
  have hnum:eR (hd id) = (hd id).ownBlock:=q3.num
  have hbel:yP w0 w w':=yP.grown hg hbase (fun k hk=>(q5 k (hnum.trans hk)).2)
  have hle:h.le (hw w'):=fun b o hb'=>by
    have:=r.hle b o hb'
    refine (hg.block b (Array.getElem?_eq_some_iff.1 this).1 fun e'=>?_).trans this
    rw [(q5 b (hnum.trans e'.symm)).1] at hb'
    cases hb'
  refine ⟨_,r.turn dst _ _ hdst id (.rows (ver + 1) e size rows') hv hbel hle
    (fun b0 hb0=>by rw [hb] at hb0; cases hb0; exact .inr (Nat.lt_succ_self _)) (fun g hg' hne=>hg.block g hg' (fun e'=>hne _ hb rfl (hnum.trans e'.symm))) ?_
    (fun g hg' _=>(hnew g hg').imp (fun q=>q) fun q=>⟨_,hb,rfl,q⟩) ?_⟩
  · refine ⟨q1,hlen,⟨xs,by simpa using hown,hin⟩,fun g hg'=>?_⟩
    simp only [if_pos] at hg'
    rcases hnew g hg' with q | q
    · exact ⟨HH r.hle q,.inl (Nat.le_trans hbase q)⟩
    · exact q5 g q
  · exact ⟨_,ver + 1,lZ _ _ _,rfl,Nat.le_refl _,hown.one,fun _=>by simp⟩
theorem Rl.setBox (r:Rl nt w0 h0 fr bl a w h hd) (dst:Option Nat) (hdst:C7 nt w0 dst) (cv:Value) (id:Nat) (cs cs' : List V) (hb:bl id = some (.box cs)) (g:Nat) (arr arr' : Array Value) (e:TypeId)
    (hd0:hd id = .pointer (some ⟨g,0,none⟩)) (hl:arr'.size = cs'.length) (hr:∀ j x,cs'[j]? = some x->R1 h hd bl (arr'.getD j undef) x ∧ (arr'.getD j undef).oneCell' = true)
    (hg' : w'.heap[g]? = some (.cells arr' e (0,0))) (hg:w.grownBy w' (some g)) :
    ∃ hd',Rl nt w0 h0 (dU fr dst .any) (bE bl [(id,some (.box cs'))]) (a.put dst cv) w' h hd':=by
  have hbase:w0.heap.size <= w.heap.size:=r.below.size
  have hnum:eR (hd id) = some g:=by rw [hd0]; rfl
  obtain ⟨n1,n2,n3⟩:=(r.blk id _ hb).num rfl hnum
  have hbel:yP w0 w w':=yP.grown hg hbase (fun k hk=>by cases hk; exact n1)
  have hle:h.le (hw w'):=fun b o hb'=>by
    have:=r.hle b o hb'
    refine (hg.block b (Array.getElem?_eq_some_iff.1 this).1 fun e'=>?_).trans this
    cases e'
    rw [n3] at hb'
    cases hb'
  have hfe:(fun i=>if i = id then hd id else hd i) = hd:=by funext i; by_cases e:i = id <;> simp [e]
  have hkp:Kp hd hd bl (bE bl [(id,some (.box cs'))]):=by
    intro j c hj
    by_cases e:j = id
    · subst e; rw [hb] at hj; cases hj; exact ⟨_,lZ _ _ _,rfl⟩
    · exact ⟨c,by rw [vU _ _ e]; exact hj,vT.refl hd j c⟩
  have:=r.turn (w':=w') dst cv .any hdst id (.box cs') (hd id) hbel hle
    (fun b0 hb0=>by rw [hb] at hb0; cases hb0; simp [vT]) (fun k hk hne=>hg.block k hk (fun e'=>by cases e'; exact hne _ hb rfl hnum)) ?_
    (fun k hk _=>.inr ⟨_,hb,rfl,hk⟩) trivial
  · rw [hfe] at this; exact ⟨_,this⟩
  · rw [hfe]
    exact ⟨g,arr',e,hd0,n1,hg',hl,fun j x hx=>⟨(hr j x hx).1.keep (Hp.le.refl _) hkp,(hr j x hx).2⟩,n3⟩
theorem Rl.setRows (r:Rl nt w0 h0 fr bl a w h hd) (dst:Option Nat) (hdst:C7 nt w0 dst) (cv:Value) (id ver e size:Nat) (rows rows' : List (List D)) (hb:bl id = some (.rows ver e size rows)) (xs:List Value)
    (hlen:rows'.length = rows.length) (hg:w.grownBy w' (hd id).ownBlock) (hown:iK w' e size (hd id) rows'.length xs) (hin:gK h size rows' xs) :
    Rl nt w0 h0 (dU fr dst .any) (bE bl [(id,some (.rows ver e size rows'))]) (a.put dst cv) w' h hd:=by
  have hbase:w0.heap.size <= w.heap.size:=r.below.size
  obtain ⟨q1,q2,⟨xs0,q3,q4⟩,q5⟩:=r.blk id _ hb
  have hnum:eR (hd id) = (hd id).ownBlock:=q3.num
  have hbel:yP w0 w w':=yP.grown hg hbase (fun k hk=>(q5 k (hnum.trans hk)).2)
  have hle:h.le (hw w'):=fun b o hb'=>by
    have:=r.hle b o hb'
    refine (hg.block b (Array.getElem?_eq_some_iff.1 this).1 fun e'=>?_).trans this
    rw [(q5 b (hnum.trans e'.symm)).1] at hb'
    cases hb'
  have hfe:(fun i=>if i = id then hd id else hd i) = hd:=by funext i; by_cases e:i = id <;> simp [e]
  have:=r.turn (w':=w') dst cv .any hdst id (.rows ver e size rows') (hd id) hbel hle
    (fun b0 hb0=>by rw [hb] at hb0; cases hb0; simp [vT]) (fun g hg' hne=>hg.block g hg' (fun e'=>hne _ hb rfl (hnum.trans e'.symm))) ?_
    (fun g hg' _=>.inr ⟨_,hb,rfl,hg'⟩) trivial
  · rw [hfe] at this; exact this
  · rw [hfe]
    exact ⟨q1,by omega,⟨xs,hown,hin⟩,q5⟩
theorem Rl.newMap (r:Rl nt w0 h0 fr bl a w h hd) (dst:Option Nat) (hdst:C7 nt w0 dst) (site:Nat) (hs:bl site = none) (ek:Nat) (hk:nZ (some (.map #[] 0)) ek []) :
    ∃ hd',Rl nt w0 h0 (dU fr dst (.mp site)) (bE bl [(site,some (.mp ek []))]) (a.put dst (.map (some w.heap.size))) (w.alloc (.map #[] 0)) h hd':=by
  have hbase:w0.heap.size <= w.heap.size:=r.below.size
  refine ⟨_,r.turn dst _ _ hdst site (.mp ek []) (.map (some w.heap.size)) (yP.alloc hbase _) (SD r.hle _)
    (fun b0 hb0=>by rw [hs] at hb0; cases hb0) (fun g hg _=>heap_alloc_old w _ g hg) ?_ (fun g hg _=>.inl (by simp [eR] at hg; omega)) ?_⟩
  · refine ⟨w.heap.size,by simp,.inl hbase,?_,HH r.hle (Nat.le_refl _)⟩
    rw [heap_alloc_new w _]
    exact hk
  · exact ⟨⟨_,lZ _ _ _,rfl⟩,by simp,w.heap.size,by simp⟩
theorem Rl.setMap (r:Rl nt w0 h0 fr bl a w h hd) (dst:Option Nat) (hdst:C7 nt w0 dst) (cv:Value) (id ek:Nat) (m m' : List (Int × ML)) (hb:bl id = some (.mp ek m)) (g:Nat)
    (hd0:hd id = .map (some g)) (hm:nZ w'.heap[g]? ek m') (hg:w.grownBy w' (some g)) :
    ∃ hd',Rl nt w0 h0 (dU fr dst .any) (bE bl [(id,some (.mp ek m'))]) (a.put dst cv) w' h hd':=by
  have hbase:w0.heap.size <= w.heap.size:=r.below.size
  have hnum:eR (hd id) = some g:=by rw [hd0]; rfl
  obtain ⟨n1,n2,n3⟩:=(r.blk id _ hb).num rfl hnum
  have hbel:yP w0 w w':=yP.grown hg hbase (fun k hk=>by cases hk; exact n1)
  have hle:h.le (hw w'):=fun b o hb'=>by
    have:=r.hle b o hb'
    refine (hg.block b (Array.getElem?_eq_some_iff.1 this).1 fun e'=>?_).trans this
    cases e'
    rw [n3] at hb'
    cases hb'
  have hfe:(fun i=>if i = id then hd id else hd i) = hd:=by funext i; by_cases e:i = id <;> simp [e]
  have:=r.turn (w':=w') dst cv .any hdst id (.mp ek m') (hd id) hbel hle
    (fun b0 hb0=>by rw [hb] at hb0; cases hb0; simp [vT]) (fun k hk hne=>hg.block k hk (fun e'=>by cases e'; exact hne _ hb rfl hnum)) ?_
    (fun k hk _=>.inr ⟨_,hb,rfl,hk⟩) trivial
  · rw [hfe] at this; exact ⟨_,this⟩
  · rw [hfe]
    exact ⟨g,hd0,n1,hm,n3⟩
def tY (bl:Nat->Option aI) (wr:List (Nat × Option aI)):Prop:=∀ p ∈ wr,(∃ v e s rows,bl p.1 = some (.rows v e s rows) ∧ p.2 = some (.froz v rows)) ∨
  (∃ cs ds,bl p.1 = some (.box cs) ∧ p.2 = some (.fbox ds) ∧ aK (qF bl) cs = some ds ∧ ∀ q ∈ cs.flatMap (HP bl),q ∈ wr) ∨
  ∃ ek m,bl p.1 = some (.mp ek m) ∧ p.2 = some (.fmp ek m)
theorem tY.live {bl:Nat->Option aI} {wr:List (Nat × Option aI)} (hok:tY bl wr) {p:Nat × Option aI} (hp:p ∈ wr):∃ b,bl p.1 = some b ∧ b.live = true:=by
  rcases hok p hp with ⟨v,e,s,rows,h1,_⟩ | ⟨cs,ds,h1,_⟩ | ⟨ek,m,h1,_⟩
  · exact ⟨_,h1,rfl⟩
  · exact ⟨_,h1,rfl⟩
  · exact ⟨_,h1,rfl⟩
theorem KV {h:Hp} {g off:Nat} {row:List D} (r:aS h (.pointer (some ⟨g,0,none⟩)) (.ptr row 0)):aS h (.pointer (some ⟨g,off,none⟩)) (.ptr row off):=by
  generalize hz:(0:Nat) = z at r
  cases r with
  | ptr b o off' n row cv hn hm hr ho=>exact .ptr g o off off row cv (by omega) hm hr ho
def FG (w:World) (h:Hp) (hd:Nat->Value) (wr:List (Nat × Option aI)):Hp:=fun g=>if wr.any (fun p=>eR (hd p.1) == some g) then w.heap[g]? else h g
theorem wP (r:Rl nt w0 h0 fr bl a w h hd) (wr:List (Nat × Option aI)):h.le (FG w h hd wr):=fun b o e=>by
  unfold FG
  split
  · exact r.hle b o e
  · exact e
theorem JF (r:Rl nt w0 h0 fr bl a w h hd) (wr:List (Nat × Option aI)):(FG w h hd wr).le (hw w):=fun b o e=>by
  unfold FG at e
  split at e
  · exact e
  · exact r.hle b o e
theorem PL (r:Rl nt w0 h0 fr bl a w h hd) (wr:List (Nat × Option aI)) (hok:tY bl wr):∀ b,¬ w0.own b->FG w h hd wr b = h b:=fun b hb=>by
  unfold FG
  split
  · rename_i q
    obtain ⟨p,hp,he⟩:=List.any_eq_true.1 q
    obtain ⟨b,h1,h2⟩:=hok.live hp
    exact absurd ((r.blk p.1 _ h1).num h2 (by simpa using he)).1 hb
  · rfl
theorem aDX {e size n:Nat} {v:Value} {xs:List Value} {rows:List (List D)} (hown:iK w e size v n xs) (hin:gK h size rows xs) (hn:rows.length = n) (hsz:0 < size)
    (l:h.le h') (hb:∀ g,eR v = some g->h' g = w.heap[g]?):aS h' v (.sl rows):=by
  rcases hown.2 with ⟨rfl,h0⟩ | ⟨g,o,cap,cur,rfl,hh,hc,hm,hs,ht⟩
  · obtain rfl:rows = []:=List.eq_nil_of_length_eq_zero (by omega)
    exact .sl0 none 0 (fun _=>rfl)
  · have key:∀ i row j x,rows[i]? = some row->row[j]? = some x->∃ u,cur[o * size + i * size + j]? = some u ∧ aS h u x ∧ x.atom = true:=by
      intro i row j x h1 h2
      obtain ⟨q1,q2⟩:=hin i row h1
      obtain ⟨q3,u,q4,q5⟩:=q2 j x h2
      refine ⟨u,?_,q5,q3⟩
      rw [← ht,List.getElem?_take] at q4
      split at q4
      · rw [List.getElem?_drop,← Nat.add_assoc] at q4
        simpa using q4
      · cases q4
    refine .sl g (o * size) cap size n rows (fun i j=>cur.getD (o * size + i * size + j) undef) hn.symm (by omega) (fun i row h1=>(hin i row h1).1) ?_ ?_ ?_
    · intro i row j x h1 h2
      obtain ⟨u,q1,q2,q3⟩:=key i row j x h1 h2
      have:h' g = w.heap[g]?:=hb g rfl
      simp only [Hp.cell,this,hh,q1]
      simp [q1]
    · intro i row j x h1 h2
      obtain ⟨u,q1,q2,q3⟩:=key i row j x h1 h2
      have:cur.getD (o * size + i * size + j) undef = u:=by simp [q1]
      rw [this]; exact q2.mono l
    · intro i row j x h1 h2
      obtain ⟨u,q1,q2,q3⟩:=key i row j x h1 h2
      have:cur.getD (o * size + i * size + j) undef = u:=by simp [q1]
      rw [this]; exact q2.one q3
theorem YW (r:Rl nt w0 h0 fr bl a w h hd) (wr:List (Nat × Option aI)) {p:Nat × Option aI} (hp:p ∈ wr) {v e s:Nat} {rows:List (List D)} (hb:bl p.1 = some (.rows v e s rows)):aS (FG w h hd wr) (hd p.1) (.sl rows):=by
  obtain ⟨q1,q2,⟨xs,q3,q4⟩,q5⟩:=r.blk p.1 _ hb
  refine aDX q3 q4 rfl q1 (wP r wr) fun g hg=>?_
  unfold FG
  rw [if_pos (List.any_eq_true.2 ⟨p,hp,by simp [hg]⟩)]
theorem aIj (r:Rl nt w0 h0 fr bl a w h hd) (wr:List (Nat × Option aI)) {p:Nat × Option aI} (hp:p ∈ wr) {ek:Nat} {m:List (Int × ML)} (hb:bl p.1 = some (.mp ek m)):aS (FG w h hd wr) (hd p.1) (.mp ek m):=by
  obtain ⟨g,q1,q2,q3,q4⟩:=r.blk p.1 _ hb
  rw [q1]
  refine .mp g ek m ?_
  unfold FG
  rw [if_pos (List.any_eq_true.2 ⟨p,hp,by simp [q1,eR]⟩)]
  exact q3
theorem yD {α:Type}:∀ (l:List (Nat × α)) (d:α) (t:Nat),lk l d t = d ∨ ∃ p ∈ l,p.1 = t ∧ p.2 = lk l d t
  | [],d,t=>.inl rfl
  | (k,v) :: r,d,t=>by
    unfold lk
    by_cases e:t = k
    · rw [if_pos e]; exact .inr ⟨(k,v),by simp,e.symm,rfl⟩
    · rw [if_neg e]
      rcases yD r d t with q | ⟨p,q1,q2⟩
      · exact .inl q
      · exact .inr ⟨p,by simp [q1],q2⟩
theorem aCe {α:Type}:∀ (l:List (Nat × α)) (d:α) (t:Nat),(∃ p ∈ l,p.1 = t)->∃ p ∈ l,p.1 = t ∧ p.2 = lk l d t
  | [],d,t,⟨p,hp,_⟩=>by cases hp
  | (k,v) :: r,d,t,h=>by
    unfold lk
    by_cases e:t = k
    · rw [if_pos e]; exact ⟨(k,v),by simp,e.symm,rfl⟩
    · rw [if_neg e]
      obtain ⟨p,hp,hpe⟩:=h
      obtain ⟨p',q1,q2⟩:=aCe r d t ⟨p,by rcases List.mem_cons.1 hp with rfl | q; exact absurd hpe.symm e; exact q,hpe⟩
      exact ⟨p',by simp [q1],q2⟩
theorem D1 (r:Rl nt w0 h0 fr bl a w h hd) (wr:List (Nat × Option aI)) {v:Value} {x:V} {d:D} (hx:R1 h hd bl v x) (e:qF bl x = some d) (hw:∀ p ∈ HP bl x,p ∈ wr) :
    aS (FG w h hd wr) v d ∧ d.atom = true:=by
  cases x with
  | d y=>simp only [qF,Option.some.injEq] at e; subst e; exact ⟨hx.2.mono (wP r wr),hx.1⟩
  | nil=>simp only [qF,Option.some.injEq] at e; subst e; rw [show v = _ from hx]; exact ⟨.sl0 none 0 (fun _=>rfl),rfl⟩
  | own id ver =>
    obtain ⟨b,c,hb,hc,hle,h1,he⟩:=hx
    simp only [qF,hb] at e
    cases b with
    | rows v' e' s rows =>
      simp only [aI.ver?,Option.some.injEq] at hc
      simp only at e
      split at e
      · rename_i hv
        cases e
        rw [he (by omega)]
        exact ⟨YW r wr (p:=(id,some (.froz v' rows))) (hw _ (by simp [HP,hb])) hb,rfl⟩
      · cases e
    | froz v' rows =>
      simp only [aI.ver?,Option.some.injEq] at hc
      simp only at e
      split at e
      · rename_i hv
        cases e
        rw [he (by omega)]
        exact ⟨aS.mono (wP r wr) (r.blk id _ hb),rfl⟩
      · cases e
    | _=>cases e
  | ptr id off =>
    obtain ⟨⟨b,hb,hbx⟩,g,hg,rfl⟩:=hx
    simp only [qF,hb] at e
    cases b with
    | fbox cs =>
      simp only [Option.some.injEq] at e
      subst e
      have:=r.blk id _ hb
      simp only [BR,hg] at this
      exact ⟨aS.mono (wP r wr) (KV this),rfl⟩
    | _=>cases e
  | fn f caps =>
    obtain ⟨arr,rfl,hs,hr⟩:=hx
    simp only [qF] at e
    split at e
    case isFalse=>cases e
    rename_i he
    have hcn:caps = []:=by simpa using he
    subst hcn
    have hae:arr = #[]:=by simpa using hs
    subst hae
    cases e
    exact ⟨.fn f #[] [] rfl (fun j x e=>by simp at e),rfl⟩
  | mp id =>
    obtain ⟨⟨b,hb,hbx⟩,rfl,g,hg⟩:=hx
    simp only [qF,hb] at e
    cases b with
    | mp ek m =>
      simp only [Option.some.injEq] at e
      subst e
      exact ⟨aIj r wr (p:=(id,some (.fmp ek m))) (hw _ (by simp [HP,hb])) hb,rfl⟩
    | fmp ek m =>
      simp only [Option.some.injEq] at e
      subst e
      exact ⟨aS.mono (wP r wr) (r.blk id _ hb),rfl⟩
    | _=>cases e
  | _=>cases e
theorem aKy (r:Rl nt w0 h0 fr bl a w h hd) (wr:List (Nat × Option aI)) {p:Nat × Option aI} (hp:p ∈ wr) {cs:List V} {ds:List D} (hb:bl p.1 = some (.box cs)) (hm:aK (qF bl) cs = some ds) (hq:∀ q ∈ cs.flatMap (HP bl),q ∈ wr):aS (FG w h hd wr) (hd p.1) (.ptr ds 0):=by
  obtain ⟨g,arr,e,h1,h2,h3,h4,h5,h6⟩:=r.blk p.1 _ hb
  obtain ⟨m1,m2⟩:=bB hm
  have hg:FG w h hd wr g = some (.cells arr e (0,0)):=by
    unfold FG
    rw [if_pos (List.any_eq_true.2 ⟨p,hp,by simp [h1,eR]⟩)]
    exact h3
  have key:∀ (j:Nat) (x:D),ds[j]? = some x->j < arr.size ∧ aS (FG w h hd wr) (arr.getD j undef) x ∧ (arr.getD j undef).oneCell' = true:=by
    intro j x hx
    obtain ⟨y,hy,hyx⟩:=bP hm hx
    have hj:j < arr.size:=by rw [h4]; exact (List.getElem?_eq_some_iff.1 hy).1
    exact ⟨hj,(D1 r wr (h5 j y hy).1 hyx fun q hq'=>hq q (List.mem_flatMap.2 ⟨y,List.mem_of_getElem? hy,hq'⟩)).1,(h5 j y hy).2⟩
  rw [h1]
  refine .ptr g 0 0 0 ds (fun j=>arr.getD j undef) rfl ?_ (fun j x hx=>(key j x hx).2.1) (fun j x hx=>(key j x hx).2.2)
  intro j x hx
  have hj:=(key j x hx).1
  simp [Hp.cell,hg,hj]
theorem Rl.freeze (r:Rl nt w0 h0 fr bl a w h hd) (wr:List (Nat × Option aI)) (hok:tY bl wr):Rl nt w0 h0 fr (bE bl wr) a w (FG w h hd wr) hd:=by
  have hcase:∀ id b',bE bl wr id = some b'->(bl id = some b' ∧ (∀ p ∈ wr,p.1 ≠ id)) ∨ (b'.live = false ∧ ∃ p ∈ wr,p.1 = id ∧ p.2 = some b'):=by
    intro id b' hb
    unfold bE at hb
    by_cases hm:∃ p ∈ wr,p.1 = id
    · obtain ⟨p,q1,q2,q3⟩:=aCe wr (bl id) id hm
      rw [hb] at q3
      refine .inr ⟨?_,p,q1,q2,q3⟩
      rcases hok p q1 with ⟨v,e,s,rows,q4,q5⟩ | ⟨cs,ds,q4,q5,_⟩ | ⟨ek,m,q4,q5⟩
      · rw [q3] at q5; cases q5; rfl
      · rw [q3] at q5; cases q5; rfl
      · rw [q3] at q5; cases q5; rfl
    · rcases yD wr (bl id) id with q | ⟨p,q1,q2,q3⟩
      · exact .inl ⟨q ▸ hb,fun p hp e=>hm ⟨p,hp,e⟩⟩
      · exact absurd ⟨p,q1,q2⟩ hm
  have hkp:Kp hd hd bl (bE bl wr):=by
    intro id b hb
    by_cases hm:∃ p ∈ wr,p.1 = id
    · obtain ⟨p,q1,q2,q3⟩:=aCe wr (bl id) id hm
      rcases hok p q1 with ⟨v,e,s,rows,q4,q5⟩ | ⟨cs,ds,q4,q5,_⟩ | ⟨ek,m,q4,q5⟩
      · rw [q2,hb] at q4
        cases q4
        exact ⟨.froz v rows,by unfold bE; rw [← q3,q5],by simp [vT]⟩
      · rw [q2,hb] at q4
        cases q4
        exact ⟨.fbox ds,by unfold bE; rw [← q3,q5],by simp [vT]⟩
      · rw [q2,hb] at q4
        cases q4
        exact ⟨.fmp ek m,by unfold bE; rw [← q3,q5],by simp [vT]⟩
    · refine ⟨b,?_,vT.refl hd id b⟩
      unfold bE
      rcases yD wr (bl id) id with q | ⟨p,q1,q2,q3⟩
      · rw [q]; exact hb
      · exact absurd ⟨p,q1,q2⟩ hm
  refine { tmps:=r.tmps,defers:=r.defers,fixed:=r.fixed,below:=r.below,hle:=JF r wr,h0le:=r.h0le.trans (wP r wr),hbase:=fun b hb=>(PL r wr hok b hb).trans (r.hbase b hb),
           frame:=fun t=>(r.frame t).keep (wP r wr) hkp,blk:=?_,sep:=?_ }
  · intro id b' hb'
    rcases hcase id b' hb' with ⟨hb,hn⟩ | ⟨hl,p,hp,rfl,hpe⟩
    · refine (r.blk id b' hb).keep (wP r wr) hkp rfl fun hl g hg=>⟨rfl,fun hn'=>?_⟩
      unfold FG
      rw [if_neg]
      · exact hn'
      · intro q
        obtain ⟨p,hp,he⟩:=List.any_eq_true.1 q
        obtain ⟨b,h1,h2⟩:=hok.live hp
        exact hn p hp (r.sep p.1 id _ b' g h1 hb h2 hl (by simpa using he) hg)
    · rcases hok p hp with ⟨v,e,s,rows,q4,q5⟩ | ⟨cs,ds,q4,q5,q6,q7⟩ | ⟨ek,m,q4,q5⟩
      · rw [hpe] at q5
        cases q5
        exact YW r wr hp q4
      · rw [hpe] at q5
        cases q5
        exact aKy r wr hp q4 q6 q7
      · rw [hpe] at q5
        cases q5
        exact aIj r wr hp q4
  · intro i j bi bj g hi hj li lj gi gj
    rcases hcase i bi hi with ⟨hi',_⟩ | ⟨q,_⟩
    · rcases hcase j bj hj with ⟨hj',_⟩ | ⟨q,_⟩
      · exact r.sep i j bi bj g hi' hj' li lj gi gj
      · rw [q] at lj; cases lj
    · rw [q] at li; cases li
end
end Vm
end Go.Proofs.Ytgjcnbgfaimepaa
namespace Go.Proofs.Ytgjcnbgfaimepaa
namespace Vm
open Go.RowKit
def v7:Value->Option V
  | .int k n=>some (.d (.int k n))
  | .bool b=>some (.d (.bool b))
  | .string s=>if s.size <= maxLen then some (.d (.str s)) else none
  | .slice none 0 0=>some .nil
  | .pointer none=>some (.d .np)
  | .map none=>some (.d (.mp 2 []))
  | v=>if v.oneCell' then some .any else none
def aLR:Value->Option V
  | .agg arr=>(aK v7 arr.toList).map .agg
  | .tuple _=>none
  | v=>v7 v
def gC:Operand->Option bD
  | .tmp t=>some (.t t)
  | .const v=>(aLR v).map .c
  | .func f=>some (.c (.d (.fn f [])))
  | .global _=>none
def Z4:Option Operand->Option (Option bD)
  | none=>some none
  | some x=>(gC x).map some
def dOf:V->Option D
  | .d x=>if x.atom then some x else none
  | .nil=>some (.sl [])
  | _=>none
def kH (P:Program) (t:TypeId):Option Bool:=match P.underlying t with
  | some (.struct _) | some (.array _ _)=>some true
  | some _=>some false
  | none=>none
def E8 (P:Program):Nat->TypeId->Option (List Nat)
  | 0,_=>none
  | d + 1,t=>match P.underlying t with
    | some (.int _)=>some [0]
    | some .bool=>some [1]
    | some .string=>some [2]
    | some (.struct fs)=>if P.stoodInHeld t then none else fs.toList.foldl (fun (acc:Option (List Nat)) f=>match acc with
        | none=>none
        | some ks=>if f.offset = ks.length ∧ f.name ≠ "_" then match E8 P d f.type,P.info? f.type with
            | some l,some i=>if i.size = l.length then some (ks ++ l) else none
            | _,_=>none
          else none) (some [])
    | _=>none
def MS (P:Program) (op:BinOp) (t:TypeId) (x y:Operand):Option eZ:=match gC x,gC y with
    | some x',some y'=>match op with
      | .shl=>none
      | .shr=>none
      | op=>match P.underlying t with
        | some (.int _) | some .string=>some (.bin 0 op x' y')
        | some .bool=>some (.bin 1 op x' y')
        | some (.struct _)=>match op,E8 P 20 t with
          | .eql,some ks=>if P.eqGuardType P.depth t = false then some (.eqS ks false x' y') else none
          | .neq,some ks=>if P.eqGuardType P.depth t = false then some (.eqS ks true x' y') else none
          | _,_=>none
        | some (.slice _)=>match op,y' with
          | .eql,.c .nil=>some (.isnil false x')
          | .neq,.c .nil=>some (.isnil true x')
          | _,_=>none
        | some (.pointer _)=>match op,y' with
          | .eql,.c (.d .np)=>some (.isnp false x')
          | .neq,.c (.d .np)=>some (.isnp true x')
          | _,_=>none
        | _=>none
    | _,_=>none
def PX (P:Program) (t:TypeId):Option (TypeId × TypeId × Nat):=match P.underlying t with
  | some (.map k e)=>match P.underlying k with
    | some (.int .i64)=>match P.underlying e,(P.info? e).bind (·.zero) with
      | some (.int .i64),some (.int .i64 n)=>if n = 0 then some (k,e,0) else none
      | some .bool,some (.bool false)=>some (k,e,1)
      | _,_=>none
    | _=>none
  | _=>none
def VM:Option TypeDesc->Bool
  | some (.int .i64)=>true
  | _=>false
theorem SQ {o:Option TypeDesc} (h:VM o = true):o = some (.int .i64):=by
  unfold VM at h
  split at h
  · rfl
  · cases h
def aJi (P:Program) (k:TypeId):Bool:=P.keyTypeAt 2 k && P.keyType k && P.tiled 2 k && decide (P.cellsOf k = 2) && decide (0 < P.types.size) && match P.underlying k with
  | some (.struct fs)=>match fs.toList with
    | [f,g]=>VM (P.underlying f.type) && VM (P.underlying g.type) && decide (f.offset = 0) && decide (g.offset = 1) && decide (P.cellsOf f.type = 1) && decide (P.cellsOf g.type = 1) && f.name != "_" && g.name != "_"
    | _=>false
  | _=>false
def NH (P:Program) (t:TypeId):Option (TypeId × TypeId):=match P.underlying t with
  | some (.map k e)=>if aJi P k = true then match P.underlying e,(P.info? e).bind (·.zero) with
      | some .bool,some (.bool false)=>some (k,e)
      | _,_=>none
    else none
  | _=>none
def zML (ek:Nat):ML:=if ek = 0 then .i 0 else .b false
def B0 (P:Program) (o:Oper):Option eZ :=
  match o.op with
  | .move x=>(gC x).map .move
  | .assign x=>(gC x).map .move
  | .pick c a b=>match gC c,gC a,gC b with
    | some c,some a,some b=>some (.pick c a b)
    | _,_,_=>none
  | .alloc e=>match P.info? e with
    | some i=>match i.zero with
      | some z=>(aK v7 z.cells.toList).map .alloc
      | none=>none
    | none=>none
  | .box e x=>(gC x).map .box
  | .build t parts=>match P.info? t,P.underlying t with
    | some i,some (.struct fs)=>match i.zero with
      | some z=>match aK v7 z.cells.toList,aK (fun (p:Nat × Operand)=>match fs[p.1]?,gC p.2 with
          | some f,some x=>(P.info? f.type).map fun j=>(f.offset,j.size,x)
          | _,_=>none) parts.toList with
        | some zs,some ps=>if fs.toList.all (fun f=>(P.info? f.type).isSome) then some (.build zs ps) else none
        | _,_=>none
      | none=>none
    | some i,some (.array _ e)=>match i.zero,P.info? e with
      | some z,some ei=>match aK v7 z.cells.toList,aK (fun (p:Nat × Operand)=>(gC p.2).map fun x=>(p.1 * ei.size,ei.size,x)) parts.toList with
        | some zs,some ps=>some (.build zs ps)
        | _,_=>none
      | _,_=>none
    | _,_=>none
  | .buildSlice t len parts=>match P.underlying t with
    | some (.slice e)=>match P.info? e with
      | some i=>match i.zero with
        | some z=>match aK v7 z.cells.toList with
          | some zs=>match aK dOf zs,aK (fun (p:Nat × Operand)=>(gC p.2).map fun x=>(p.1,x)) parts.toList with
            | some row,some ps=>if len * i.size <= 16777216 ∧ z.cells.size = i.size ∧ 0 < i.size then some (.buildSlice e i.size row len ps) else none
            | _,_=>none
          | none=>none
        | none=>none
      | none=>none
    | _=>none
  | .load t x=>match kH P t,P.info? t,gC x with
    | some b,some i,some x=>some (.load i.size b x)
    | _,_,_=>none
  | .store t x v=>match P.info? t,gC x,gC v with
    | some i,some x,some v=>some (.store i.size x v)
    | _,_,_=>none
  | .nilCheck x=>(gC x).map .nilCheck
  | .binOp op t x y _=>MS P op t x y
  | .unOp op _ x=>(gC x).map (.un op)
  | .convert s d x=>match P.underlying s,P.underlying d,gC x with
    | some (.int _),some (.int k),some x=>some (.conv k x)
    | some .string,some (.slice e),some x=>match P.underlying e with
      | some (.int .u8)=>some (.bytes x)
      | _=>none
    | _,_,_=>none
  | .slice t x lo hi mx=>match mx with
    | some _=>none
    | none=>match P.underlying t,gC x,Z4 lo,Z4 hi with
      | some (.slice e),some x,some lo,some hi=>(P.info? e).map fun i=>.slice i.size x lo hi
      | some .string,some x,some lo,some hi=>some (.strSlice x lo hi)
      | _,_,_,_=>none
  | .fieldAddr s x f=>match P.underlying s,gC x with
    | some (.struct fs),some x=>match fs[f]? with
      | some f=>match P.info? f.type with
        | some i=>if i.size = 0 then none else some (.fieldAddr f.offset x)
        | none=>none
      | none=>none
    | _,_=>none
  | .field s x f=>match P.underlying s,gC x with
    | some (.struct fs),some x=>match fs[f]? with
      | some f=>match P.info? f.type,kH P f.type with
        | some i,some b=>some (.field f.offset i.size b x)
        | _,_=>none
      | none=>none
    | _,_=>none
  | .indexAddr t x i=>match P.underlying t,gC x,gC i with
    | some (.slice e),some x,some i=>(P.info? e).map fun j=>.indexAddr j.size x i
    | some (.array n e),some x,some (.c (.d (.int _ q)))=>match P.info? e with
      | some j=>if 0 <= q ∧ q < n ∧ j.size ≠ 0 then some (.fieldAddr (q.toNat * j.size) x) else none
      | none=>none
    | some (.array n e),some x,some i=>match P.info? e with
      | some j=>if j.size ≠ 0 then some (.indexArr n j.size x i) else none
      | none=>none
    | _,_,_=>none
  | .index t x i=>match P.underlying t,gC x,gC i with
    | some .string,some x,some i=>some (.index x i)
    | some (.array n e),some x,some i=>match P.underlying e,P.info? e with
      | some (.pointer _),some j=>if j.size = 1 then some (.idxA n x i) else none
      | _,_=>none
    | _,_,_=>none
  | .extract x i=>(gC x).map fun x=>.extract x i
  | .makeSlice t l c=>match P.underlying t,gC l,gC c with
    | some (.slice e),some l,some c=>match P.info? e with
      | some i=>match i.zero with
        | some z=>match aK v7 z.cells.toList with
          | some zs=>match aK dOf zs with
            | some row=>if z.cells.size = i.size ∧ 0 < i.size then some (.makeSlice e i.size i.bytes row l c) else none
            | none=>none
          | none=>none
        | none=>none
      | none=>none
    | _,_,_=>none
  | .makeMap t r=>match r with
    | none=>match PX P t with
      | some z=>some (.mkmap z.2.2)
      | none=>match NH P t with
        | some _=>some (.mkmap 3)
        | none=>none
    | some _=>none
  | .mapUpdate t m k v=>match gC m,gC k,gC v with
    | some m,some k,some v=>match PX P t with
      | some z=>some (.mput z.2.2 m k v)
      | none=>match NH P t with
        | some _=>some (.mputP m k v)
        | none=>none
    | _,_,_=>none
  | .insert t m k v=>match gC m,gC k,gC v with
    | some m,some k,some v=>match PX P t with
      | some z=>some (.mput z.2.2 m k v)
      | none=>match NH P t with
        | some _=>some (.mputP m k v)
        | none=>none
    | _,_,_=>none
  | .lookup t m k ok=>match ok,gC m,gC k with
    | false,some m,some k=>match PX P t with
      | some z=>some (.mget (zML z.2.2) m k)
      | none=>match NH P t with
        | some _=>some (.mgetP m k)
        | none=>none
    | _,_,_=>none
  | .makeFunc fn first captured=>match fn with
    | .func f=>if first.isEmpty = true then (aK gC captured.toList).map fun caps=>.mkfn f caps else none
    | _=>none
  | .call c=>match c.callee with
    | .value (.func f)=>match P.funcs[f]?,aK gC c.args.toList with
      | some fn,some args=>if fn.name ≠ "runtime.NumGoroutine" ∧ fn.body.isSome then some (.call f args) else none
      | _,_=>none
    | .value x=>match gC x,aK gC c.args.toList with
      | some x,some args=>some (.callv x args)
      | _,_=>none
    | .builtin .len=>match c.args.toList,c.argTypes.toList with
      | [x],[t]=>match P.underlying t,gC x with
        | some .string,some x=>some (.lenS x)
        | some (.slice _),some x=>some (.len x)
        | _,_=>none
      | _,_=>none
    | .builtin .append=>match c.args.toList,c.argTypes.toList with
      | [x,y],[t,u]=>if t = u then match P.underlying t,gC x,gC y with
          | some (.slice e),some x,some y=>match P.info? e with
            | some i=>match i.zero with
              | some z=>if z.cells.size = i.size ∧ 0 < i.size ∧ 0 < i.bytes then some (.append e i.size i.bytes x y) else none
              | none=>none
            | none=>none
          | _,_,_=>none
        else none
      | _,_=>none
    | .builtin .clear=>match c.args.toList,c.argTypes.toList with
      | [x],[t]=>match P.underlying t,gC x with
        | some (.slice e),some x=>match P.info? e with
          | some i=>match i.zero with
            | some z=>match aK v7 z.cells.toList with
              | some zs=>match aK dOf zs with
                | some row=>if z.cells.size = i.size ∧ 0 < i.size then some (.clear row x) else none
                | none=>none
              | none=>none
            | none=>none
          | none=>none
        | _,_=>none
      | _,_=>none
    | .builtin .delete=>match c.args.toList,c.argTypes.toList with
      | [m,k],[t,u]=>match PX P t,gC m,gC k with
        | some z,some m,some k=>if z.1 = u then some (.mdel z.2.2 m k) else none
        | _,_,_=>none
      | _,_=>none
    | .builtin .max=>(aK gC c.args.toList).map .max
    | .builtin .min=>(aK gC c.args.toList).map .min
    | _=>none
  | _=>none
def v6 (P:Program) (o:Oper):eZ:=(B0 P o).getD .fail
def aPh (nt:Nat):Option Nat->Bool
  | some d=>decide (d < nt)
  | none=>true
def mF (P:Program) (nt:Nat) (ops:Array Oper) (o:Oper):Option aM :=
  if aPh nt o.dst = true then match o.guard with
    | none=>some ⟨o.dst,v6 P o,none,o.dst.getD 0⟩
    | some (j,b)=>match (ops[j]?).bind (·.dst) with
      | some t=>some ⟨o.dst,v6 P o,some (t,b),o.dst.getD 0⟩
      | none=>none
    else none
def YJ (ops:List Oper):List Nat:=ops.foldl (fun acc o =>
  acc ++ [(o.after.toList.filter (Region.binds .any)).foldl (fun s e=>s ||| 2 ^ e.on ||| acc.getD e.on 0) 0]) []
def OS (ops:List Oper):List (Nat × Nat) :=
  let an:=YJ ops
  (List.range ops.length).flatMap fun j=>((List.range j).filter fun i=>!((an.getD j 0).testBit i)).map fun i=>(i,j)
def KE (ops:List Oper):Bool:=ops.zipIdx.all fun (o,i)=>o.after.all fun e=>!(Region.binds .any e) || e.on < i
def mL (P:Program) (nt:Nat):Code->Option aH
  | .skip=>some .skip
  | .region _ ops draw=>match aK (mF P nt ops) ops.toList with
    | none=>none
    | some l=>if draw then (if KE ops.toList then some (.region l (some (OS ops.toList))) else none) else some (.region l none)
  | .seq a b=>match mL P nt a,mL P nt b with
    | some a,some b=>some (.seq a b)
    | _,_=>none
  | .cond c a b=>match gC c,mL P nt a,mL P nt b with
    | some c,some a,some b=>some (.cond c a b)
    | _,_,_=>none
  | .block id a=>(mL P nt a).map (.block id)
  | .loop a=>(mL P nt a).map .loop
  | .exit id=>some (.exit id)
  | .ret=>some .ret
  | _=>none
def eZ.bare:eZ->eZ
  | .lend f args _=>.call f args
  | .calln f args=>.call f args
  | .cut size x lo hi=>.slice size x lo hi
  | .mkfnv f caps=>.mkfn f caps
  | so=>so
def aM.bare (o:aM):aM:=⟨o.dst,o.op.bare,o.guard,o.dst.getD 0⟩
def aH.bare:aH->aH
  | .region l d=>.region (l.map aM.bare) d
  | .seq a b=>.seq a.bare b.bare
  | .cond c a b=>.cond c a.bare b.bare
  | .block id a=>.block id a.bare
  | .loop a=>.loop a.bare
  | .pre _ a=>a.bare
  | .post a _=>a.bare
  | c=>c
def QP (P:Program):ResultVar->Option jI
  | .tmp t=>some (.tmp t)
  | .cell t ty=>match kH P ty,P.info? ty with
    | some b,some i=>some (.cell t i.size b)
    | _,_=>none
def j9 (P:Program) (fn:Func) (sf:cY):Prop :=
  fn.params.size + fn.nfree = sf.np ∧ fn.name ≠ "runtime.NumGoroutine" ∧ fn.ntmps = sf.nt ∧ sf.np <= sf.nt ∧ aK (QP P) fn.results.toList = some sf.results ∧ ∃ c,fn.body = some c ∧ mL P sf.nt c = some sf.body.bare
section
variable {h:Hp} {hd:Nat->Value} {bl:Nat->Option aI}
theorem PT {v:Value} {x:V} (e:v7 v = some x):R1 h hd bl v x ∧ v.oneCell' = true:=by
  unfold v7 at e
  split at e
  · cases e; exact ⟨⟨rfl,.int _ _⟩,rfl⟩
  · cases e; exact ⟨⟨rfl,.bool _⟩,rfl⟩
  · split at e
    · rename_i hs; cases e; exact ⟨⟨rfl,.str _ hs⟩,rfl⟩
    · cases e
  · cases e; exact ⟨rfl,rfl⟩
  · cases e; exact ⟨⟨rfl,.np⟩,rfl⟩
  · cases e; exact ⟨⟨rfl,.mp0⟩,rfl⟩
  · split at e
    · rename_i ho; cases e; exact ⟨trivial,ho⟩
    · cases e
theorem BG {arr:Array Value} {cs:List V} (e:aK v7 arr.toList = some cs):arr.size = cs.length ∧ ∀ j x,cs[j]? = some x->R1 h hd bl (arr.getD j undef) x ∧ (arr.getD j undef).oneCell' = true:=by
  obtain ⟨h1,h2⟩:=bB e
  refine ⟨by simpa using h1,fun j x hx=>?_⟩
  obtain ⟨v,q1,q2⟩:=bP e hx
  have:arr.getD j undef = v:=by
    have:arr[j]? = some v:=by simpa using q1
    simp [this]
  rw [this]
  exact PT q2
theorem aMY {v:Value} {x:V} (e:aLR v = some x):R2 h hd bl v x:=by
  unfold aLR at e
  split at e
  · rename_i arr
    cases hm:aK v7 arr.toList with
    | none=>simp [hm] at e
    | some cs =>
      simp only [hm,Option.map_some,Option.some.injEq] at e
      subst e
      obtain ⟨h1,h2⟩:=BG (h:=h) (hd:=hd) (bl:=bl) hm
      exact ⟨arr,rfl,h1,h2⟩
  · cases e
  · exact R2.of1 (PT e).1
theorem aT {fr:Nat->V} {a:Act} (hf:∀ t,R3 h hd bl (a.tmps.getD t undef) (fr t)) {x:Operand} {y:bD} (e:gC x = some y):R3 h hd bl (a.eval x) (bC fr y):=by
  cases x with
  | tmp t=>simp only [gC,Option.some.injEq] at e; subst e; exact hf t
  | const v =>
    simp only [gC] at e
    cases hv:aLR v with
    | none=>simp [hv] at e
    | some u=>simp only [hv,Option.map_some,Option.some.injEq] at e; subst e; exact R3.of2 (aMY hv)
  | func f=>simp only [gC,Option.some.injEq] at e; subst e; exact ⟨rfl,.fn f #[] [] rfl (fun j x e=>by simp at e)⟩
  | global g=>simp [gC] at e
end
end Vm
end Go.Proofs.Ytgjcnbgfaimepaa
