/- A small machine over values that are no memory: what it answers, the model's functions answer (VmSound). Plain definitions. Maps keyed by numbers, as the small machine reads them. Keys that are two numbers: their sixteen bytes, and the number that codes them. What it is that memory holds what the small machine says. The small machine's steps: what may become of memory. From the model's code to the small machine's. -/
import Derived.RowKit
import Derived.Orders
import Derived.Below
import Derived.Laws.MakeOwn
import Derived.Maps.OwnSet
set_option linter.unusedVariables false
set_option linter.unusedSimpArgs false
namespace Go.Proofs.Ytgjcnbgfaimepaa
theorem aN {p q:Prop} (a:p) (b:q):p ∧ q:=And.intro a b
namespace Vm
inductive ML where
  | b (x:Bool)
  | i (n:Int)
  deriving Inhabited
def BQ {α:Type} (k:Int) (v:α):List (Int × α)->List (Int × α)
  | []=>[(k,v)]
  | y :: r=>if k < y.1 then (k,v) :: y :: r else y :: BQ k v r
def CT {α:Type} (k:Int) (m:List (Int × α)):List (Int × α):=m.filter fun p=>!decide (p.1 = k)
def GQ {α:Type} (k:Int) (v:α) (m:List (Int × α)):List (Int × α):=BQ k v (CT k m)
def zY {α:Type} (k:Int) (z:α) (m:List (Int × α)):α:=match m.find? fun p=>decide (p.1 = k) with
  | some p=>p.2
  | none=>z
def GA (a b:Int):Int:=a % 18446744073709551616 * 18446744073709551616 + b % 18446744073709551616
def mS (n:Int):Prop:=-9223372036854775808 <= n ∧ n <= 9223372036854775807
instance (n:Int):Decidable (mS n):=inferInstanceAs (Decidable (_ ∧ _))
def ML.kind:ML->Nat
  | .b _=>1
  | .i _=>0
inductive D where
  | int (k:IntKind) (n:Int)
  | bool (b:Bool)
  | str (s:ByteArray)
  | sl (rows:List (List D))
  | agg (cs:List D)
  | tup (vs:List D)
  | ptr (row:List D) (off:Nat)
  | fn (f:Nat) (caps:List D)
  | np
  | ref (n:Nat)
  | own (x:D) (es:List (Nat × Nat)) (rs:List (List (List D)))
  | mp (ek:Nat) (m:List (Int × ML))
  | mref (n:Nat)
  deriving Inhabited
def ML.d:ML->D
  | .b x=>.bool x
  | .i n=>.int .i64 n
inductive V where
  | any
  | d (x:D)
  | nil
  | agg (cs:List V)
  | tup (vs:List V)
  | ptr (id off:Nat)
  | own (id ver:Nat)
  | orow (id ver i off:Nat)
  | fn (f:Nat) (caps:List V)
  | mp (id:Nat)
  deriving Inhabited
inductive aI where
  | box (cs:List V)
  | rows (ver e size:Nat) (rows:List (List D))
  | froz (ver:Nat) (rows:List (List D))
  | fbox (cs:List D)
  /-- the slots of a caller,while what it calls is run in its place -/
  | outer (cs:List V)
  | mp (ek:Nat) (m:List (Int × ML))
  | fmp (ek:Nat) (m:List (Int × ML))
  deriving Inhabited
inductive bM where
  | t (n:Nat)
  | c (v:V)
  deriving Inhabited
inductive fU where
  | fail
  | move (x:bM)
  | pick (c a b:bM)
  | alloc (zero:List V)
  | box (x:bM)
  | build (zero:List V) (parts:List (Nat × Nat × bM))
  | buildSlice (e size:Nat) (zero:List D) (len:Nat) (parts:List (Nat × bM))
  | load (size:Nat) (isAgg:Bool) (x:bM)
  | store (size:Nat) (x v:bM)
  | nilCheck (x:bM)
  | bin (c:Nat) (op:BinOp) (x y:bM)
  | eqS (ks:List Nat) (neg:Bool) (x y:bM)
  | un (op:UnOp) (x:bM)
  | conv (k:IntKind) (x:bM)
  | slice (size:Nat) (x:bM) (lo hi:Option bM)
  | strSlice (x:bM) (lo hi:Option bM)
  | fieldAddr (off:Nat) (x:bM)
  | field (off size:Nat) (isAgg:Bool) (x:bM)
  | indexAddr (size:Nat) (x i:bM)
  | index (x i:bM)
  | len (x:bM)
  | lenS (x:bM)
  | append (e size bytes:Nat) (x y:bM)
  | makeSlice (e size bytes:Nat) (zero:List D) (len cap:bM)
  | max (l:List bM)
  | min (l:List bM)
  | extract (x:bM) (i:Nat)
  | call (f:Nat) (args:List bM)
  | mkfn (f:Nat) (caps:List bM)
  | callv (x:bM) (args:List bM)
  | bytes (x:bM)
  | lend (f:Nat) (args:List bM) (t:Nat)
  | cut (size:Nat) (x:bM) (lo hi:Option bM)
  | clear (z:List D) (x:bM)
  | isnil (neg:Bool) (x:bM)
  /-- a call that hands over new memory only -/
  | calln (f:Nat) (args:List bM)
  /-- a function value that holds boxes that can still be written -/
  | mkfnv (f:Nat) (caps:List bM)
  | mkmap (ek:Nat)
  | mput (ek:Nat) (m k v:bM)
  | mget (z:ML) (m k:bM)
  | mdel (ek:Nat) (m k:bM)
  /-- keys of two numbers -/
  | mputP (m k v:bM)
  | mgetP (m k:bM)
  /-- a pointer held against nil -/
  | isnp (neg:Bool) (x:bM)
  /-- the place of an array's element -/
  | indexArr (n size:Nat) (x i:bM)
  /-- an element of an array of values of one cell -/
  | idxA (n:Nat) (x i:bM)
  deriving Inhabited
structure aO where
  dst:Option Nat
  op:fU
  guard:Option (Nat × Bool)
  /-- the name of the memory that it makes -/
  site:Nat
  deriving Inhabited
structure tU where
  live:List Nat
  keep:List Nat
  ownT:List (Nat × Nat × Nat × Nat)
  ownC:List (Nat × Nat × Nat × Nat × Nat)
  fzT:List Nat
  fzC:List (Nat × Nat)
  deriving Inhabited
structure St where
  fr:List (Nat × V)
  bl:List (Nat × Option aI)
inductive j5 where
  | tmp (t:Nat)
  | cell (t size:Nat) (isAgg:Bool)
inductive aG where
  | skip
  | region (ops:List aO) (draw:Option (List (Nat × Nat)))
  | seq (a b:aG)
  | cond (c:bM) (a b:aG)
  | block (id:Nat) (a:aG)
  | loop (a:aG)
  | exit (id:Nat)
  | ret
  | pre (m:tU) (a:aG)
  | post (a:aG) (m:tU)
  | hand (g:St->Option St)
  /-- a function that is run in its caller's place -/
  | inl (ops:List aO) (args:List bM) (dst:Option Nat) (f:Nat) (body:aG) (res:List j5) (id:Nat) (slots:List Nat)
  /-- a function value that is run in its caller's place; nc: how many boxes it holds -/
  | inlv (ops:List aO) (x:bM) (nc:Nat) (args:List bM) (dst:Option Nat) (f:Nat) (body:aG) (res:List j5) (id:Nat) (slots:List Nat)
  deriving Inhabited
structure dE where
  np:Nat
  nt:Nat
  results:List j5
  body:aG
  fresh:Bool
  lend:Bool
def lk {α:Type} (l:List (Nat × α)) (d:α) (t:Nat):α:=match l with
  | []=>d
  | (k,v) :: r=>if t = k then v else lk r d t
def St.get (s:St) (t:Nat):V:=lk s.fr .any t
def St.blk (s:St) (i:Nat):Option aI:=lk s.bl none i
def bL (fr:Nat->V):bM->V
  | .t n=>fr n
  | .c v=>v
def V.cells:V->List V
  | .agg cs=>cs
  | v=>[v]
def V.cell:V->Bool
  | .any | .agg _ | .tup _=>false
  | _=>true
def V.one:V->Bool
  | .agg _ | .tup _=>false
  | _=>true
def V.known:V->Bool
  | .any | .tup _=>false
  | _=>true
def aK {α β:Type} (f:α->Option β):List α->Option (List β)
  | []=>some []
  | x :: r=>match f x with
    | none=>none
    | some y=>match aK f r with
      | none=>none
      | some ys=>some (y :: ys)
def NM (bl:Nat->Option aI):V->Bool
  | .ptr id _=>match bl id with
    | some (.box _)=>true
    | some (.fbox _)=>true
    | _=>false
  | _=>false
def rF (bl:Nat->Option aI):V->Option D
  | .d x=>some x
  | .nil=>some (.sl [])
  | .own id ver=>match bl id with
    | some (.rows v _ _ rows)=>if ver = v then some (.sl rows) else none
    | some (.froz v rows)=>if ver = v then some (.sl rows) else none
    | _=>none
  | .ptr id off=>match bl id with
    | some (.fbox cs)=>some (.ptr cs off)
    | _=>none
  | .fn f caps=>if caps.isEmpty then some (.fn f []) else none
  | .mp id=>match bl id with
    | some (.mp ek m)=>some (.mp ek m)
    | some (.fmp ek m)=>some (.mp ek m)
    | _=>none
  | _=>none
def iX (bl:Nat->Option aI):V->Option D
  | .ptr id off=>match bl id with
    | some (.box cs)=>(aK (rF bl) cs).map fun ds=>.ptr ds off
    | some (.fbox cs)=>some (.ptr cs off)
    | _=>none
  | v=>rF bl v
def iY (bl:Nat->Option aI):V->Option D
  | .agg cs=>(aK (iX bl) cs).map .agg
  | v=>iX bl v
def toD (bl:Nat->Option aI):V->Option D
  | .tup vs=>(aK (iY bl) vs).map .tup
  | v=>iY bl v
def I2 (bl:Nat->Option aI):V->List (Nat × Option aI)
  | .own id ver=>match bl id with
    | some (.rows v _ _ rows)=>[(id,some (.froz v rows))]
    | _=>[]
  | .mp id=>match bl id with
    | some (.mp ek m)=>[(id,some (.fmp ek m))]
    | _=>[]
  | _=>[]
def AL (bl:Nat->Option aI):V->List (Nat × Option aI)
  | .ptr id off=>match bl id with
    | some (.box cs)=>match aK (rF bl) cs with
      | some ds=>(id,some (.fbox ds)) :: cs.flatMap (I2 bl)
      | none=>[]
    | _=>[]
  | v=>I2 bl v
def vX (bl:Nat->Option aI):V->List (Nat × Option aI)
  | .agg cs=>cs.flatMap (AL bl)
  | v=>AL bl v
def GG:D->Bool
  | .int _ _ | .bool _ | .str _=>true
  | _=>false
def YN:D->Bool
  | .agg cs=>cs.all GG
  | x=>GG x
def IA:D->Bool
  | .tup vs=>vs.all YN
  | x=>YN x
def aOb:D->V
  | .agg cs=>.agg (cs.map .d)
  | x=>.d x
def toV:D->V
  | .tup vs=>.tup (vs.map aOb)
  | x=>aOb x
def CM (site n:Nat):Nat:=site + 100000 * (n + 1)
def Y0 (site:Nat):D->V
  | .ref n=>.own (CM site n) 0
  | .mref n=>.mp (CM site n)
  | x=>.d x
def U1 (site:Nat):D->V
  | .agg cs=>.agg (cs.map (Y0 site))
  | x=>Y0 site x
def thaw (site:Nat):D->V
  | .tup vs=>.tup (vs.map (U1 site))
  | x=>U1 site x
def aRP (m:List (Int × ML)):List (List D):=m.map fun p=>[.int .i64 p.1,p.2.d]
def aRk (rows:List (List D)):List (Int × ML):=rows.map fun row=>match row with
  | [.int _ n,.bool b]=>(n,.b b)
  | [.int _ n,.int _ k]=>(n,.i k)
  | _=>(0,.b false)
def zS (e size:Nat) (rows:List (List D)):aI:=if size = 0 then .mp e (aRk rows) else .rows 0 e size rows
def fV (site:Nat):Nat->List (Nat × Nat)->List (List (List D))->List (Nat × Option aI)
  | n,(e,size) :: es,rows :: rs=>(CM site n,some (zS e size rows)) :: fV site (n + 1) es rs
  | _,_,_=>[]
def MM (bl:Nat->Option aI):List (Nat × Option aI)->Bool
  | []=>true
  | (i,_) :: l=>match bl i with
    | none=>MM bl l
    | some _=>false
def oB (site:Nat) (bl:Nat->Option aI) (fz:List (Nat × Option aI)):D->Option (V × List (Nat × Option aI))
  | .own x es rs=>if MM bl (fV site 0 es rs) = true then some (thaw site x,fV site 0 es rs ++ fz) else none
  | r=>some (toV r,if IA r then [] else fz)
def qI (op:BinOp) (k:IntKind) (x y:Int):Option D:=match op with
  | .add=>some (.int k (k.wrap (x + y)))
  | .sub=>some (.int k (k.wrap (x - y)))
  | .mul=>some (.int k (k.wrap (x * y)))
  | .quo=>if y = 0 then none else some (.int k (k.wrap (x.tdiv y)))
  | .rem=>if y = 0 then none else some (.int k (x.tmod y))
  | .and=>some (.int k (k.wrap (BitVec.ofInt k.bits x &&& BitVec.ofInt k.bits y).toNat))
  | .or=>some (.int k (k.wrap (BitVec.ofInt k.bits x ||| BitVec.ofInt k.bits y).toNat))
  | .xor=>some (.int k (k.wrap (BitVec.ofInt k.bits x ^^^ BitVec.ofInt k.bits y).toNat))
  | .andNot=>some (.int k (k.wrap (BitVec.ofInt k.bits x &&& ~~~(BitVec.ofInt k.bits y)).toNat))
  | .eql=>some (.bool (x == y))
  | .neq=>some (.bool (x != y))
  | .lss=>some (.bool (x < y))
  | .leq=>some (.bool (x <= y))
  | .gtr=>some (.bool (x > y))
  | .geq=>some (.bool (x ≥ y))
  | _=>none
def QK (op:BinOp) (x y:ByteArray):Option D:=match op with
  | .eql=>some (.bool (x.toList == y.toList))
  | .neq=>some (.bool !(x.toList == y.toList))
  | .lss=>some (.bool (Op.bytesLess x.toList y.toList))
  | .leq=>some (.bool (Op.bytesLess x.toList y.toList || x.toList == y.toList))
  | .gtr=>some (.bool !(Op.bytesLess x.toList y.toList || x.toList == y.toList))
  | .geq=>some (.bool !(Op.bytesLess x.toList y.toList))
  | _=>none
def w7:Nat->V->V->Option Bool
  | 0,.d (.int k x),.d (.int k' y)=>if k = k' then some (x == y) else none
  | 1,.d (.bool x),.d (.bool y)=>some (x == y)
  | 2,.d (.str x),.d (.str y)=>some (x == y)
  | _,_,_=>none
def d7:List Nat->List V->List V->Option Bool
  | [],[],[]=>some true
  | k :: ks,x :: xs,y :: ys=>match w7 k x y with
    | some a=>match d7 ks xs ys with
      | some b=>some (a && b)
      | none=>none
    | none=>none
  | _,_,_=>none
def eqV (ks:List Nat) (neg:Bool):V->V->Option D
  | .agg xs,.agg ys=>match d7 ks xs ys with
    | some b=>some (.bool (if neg then !b else b))
    | none=>none
  | _,_=>none
def BI:Nat->BinOp->V->V->Option D
  | 0,op,.d (.int k x),.d (.int k' y)=>if k = k' then qI op k x y else none
  | 0,op,.d (.str x),.d (.str y)=>QK op x y
  | 1,.eql,.d (.bool x),.d (.bool y)=>some (.bool (x == y))
  | 1,.neq,.d (.bool x),.d (.bool y)=>some (.bool !(x == y))
  | _,_,_,_=>none
def unV (op:UnOp):V->Option D
  | .d (.bool b)=>match op with
    | .not=>some (.bool !b)
    | _=>none
  | .d (.int k n)=>match op with
    | .neg=>some (.int k (k.wrap (0 - n)))
    | _=>none
  | _=>none
def iU {α:Type}:List α->Nat->List α->List α
  | l,_,[]=>l
  | [],_,_=>[]
  | _ :: l,0,x :: r=>x :: iU l 0 r
  | y :: l,n + 1,xs=>y :: iU l n xs
def G5:List V->List (Nat × Nat × V)->Option (List V)
  | z,[]=>some z
  | z,(off,size,v) :: r=>if v.cells.length = size ∧ off + size <= z.length ∧ v.known = true then G5 (iU z off v.cells) r else none
def kZ (bl:Nat->Option aI) (size:Nat):List (List D)->List (Nat × V)->Option (List (List D))
  | rs,[]=>some rs
  | rs,(i,v) :: r=>match aK (iX bl) v.cells with
    | some row=>if row.length = size ∧ i < rs.length then kZ bl size (rs.set i row) r else none
    | none=>none
def aDh (k:IntKind):Int->List V->Option D
  | x,[]=>some (.int k x)
  | x,.d (.int k' y) :: r=>if k = k' then aDh k (if y > x then y else x) r else none
  | _,_=>none
def aPx:List V->Option D
  | .d (.int k x) :: r=>aDh k x r
  | _=>none
def aDy (k:IntKind):Int->List V->Option D
  | x,[]=>some (.int k x)
  | x,.d (.int k' y) :: r=>if k = k' then aDy k (if y < x then y else x) r else none
  | _,_=>none
def aPd:List V->Option D
  | .d (.int k x) :: r=>aDy k x r
  | _=>none
def gG (bl:Nat->Option aI):V->Option (List (List D))
  | .d (.sl rows)=>some rows
  | .nil=>some []
  | .own id ver=>match bl id with
    | some (.rows v _ _ rows)=>if ver = v then some rows else none
    | some (.froz v rows)=>if ver = v then some rows else none
    | _=>none
  | _=>none
abbrev J1:=Option (V × List (Nat × Option aI))
def J1.v (x:Option D):J1:=x.map fun d=>(.d d,[])
def sized (size:Nat) (rows:List (List D)):Bool:=rows.all fun row=>row.length == size
def xB (bl:Nat->Option aI) (size:Nat) (x:V) (lo hi:Option V):J1 :=
  match x,lo,hi with
  | .own id ver,none,some (.d (.int _ h))=>match bl id with
    | some (.rows v e size rows)=>if ver = v ∧ 0 <= h ∧ h.toNat <= rows.length then some (.own id (ver + 1),[(id,some (.rows (ver + 1) e size (rows.take h.toNat)))]) else none
    | _=>none
  | x,lo,hi=>match gG bl x with
    | none=>none
    | some rows =>
      match (match hi with | none=>some (rows.length:Int) | some (.d (.int _ h))=>some h | _=>none),(match lo with | none=>some (0:Int) | some (.d (.int _ l))=>some l | _=>none) with
      | some h,some l=>if 0 <= l ∧ l <= h ∧ h.toNat <= rows.length ∧ sized size rows = true then some (.d (.sl ((rows.take h.toNat).drop l.toNat)),AL bl x) else none
      | _,_=>none
def N1 (x:V) (lo hi:Option V):J1 :=
  match x with
  | .d (.str s) =>
    match (match hi with | none=>some (s.size:Int) | some (.d (.int _ h))=>some h | _=>none),(match lo with | none=>some (0:Int) | some (.d (.int _ l))=>some l | _=>none) with
    | some h,some l=>if 0 <= l ∧ l <= h ∧ h.toNat <= s.size then some (.d (.str (s.extract l.toNat h.toNat)),[]) else none
    | _,_=>none
  | _=>none
def K3 (bl:Nat->Option aI) (size:Nat) (x:V) (lo hi:Option V):J1:=match x with
  | .own id ver=>match bl id with
    | some (.rows v e sz rows)=>match (match hi with | none=>some (rows.length:Int) | some (.d (.int _ h))=>some h | _=>none),(match lo with | none=>some (0:Int) | some (.d (.int _ l))=>some l | _=>none) with
      | some h,some l=>if ver = v ∧ sz = size ∧ 0 <= l ∧ l <= h ∧ h.toNat <= rows.length then some (.own id (ver + 1),[(id,some (.rows (ver + 1) e sz ((rows.take h.toNat).drop l.toNat)))]) else none
      | _,_=>none
    | _=>none
  | _=>none
def M6 (bl:Nat->Option aI):V->Option D
  | .own id ver=>match bl id with
    | some (.rows v e size rows)=>if ver = v then some (.own (.ref 0) [(e,size)] [rows]) else none
    | _=>none
  | _=>none
def D0 (bl:Nat->Option aI) (t:Nat):Nat->List V->Option (List D)
  | _,[]=>some []
  | i,v :: r=>match (if i = t then M6 bl v else iY bl v) with
    | none=>none
    | some d=>match D0 bl t (i + 1) r with
      | none=>none
      | some ds=>some (d :: ds)
def tH (bl:Nat->Option aI) (t:Nat):Nat->List V->List (Nat × Option aI)
  | _,[]=>[]
  | i,v :: r=>(if i = t then [] else vX bl v) ++ tH bl t (i + 1) r
def pE (rows:List (List D)):Bool:=rows.all fun row=>row.all GG
def VA:D->Bool
  | .ref _ | .mref _=>true
  | x=>GG x
def YT:D->Bool
  | .agg cs=>cs.all VA
  | x=>VA x
def aEn:D->Bool
  | .tup vs=>vs.all YT
  | x=>YT x
def JE (x:D) (rs:List (List (List D))):Bool:=aEn x && rs.all pE
def AY (id:Nat):List (Nat × Option aI)->Bool
  | []=>true
  | (i,_) :: l=>if i = id then false else AY id l
def K4 (bl:Nat->Option aI) (neg:Bool):V->Option D
  | .nil=>some (.bool (!neg))
  | x=>match gG bl x with
    | some (_ :: _)=>some (.bool neg)
    | _=>none
def S3 (bl:Nat->Option aI):V->Option (Nat × List (Int × ML))
  | .d (.mp ek m)=>some (ek,m)
  | .mp id=>match bl id with
    | some (.mp ek m)=>some (ek,m)
    | some (.fmp ek m)=>some (ek,m)
    | _=>none
  | _=>none
def aHf:V->Option ML
  | .d (.bool b)=>some (.b b)
  | .d (.int .i64 n)=>if mS n then some (.i n) else none
  | _=>none
def J2:V->Option Int
  | .d (.int .i64 n)=>if mS n then some n else none
  | _=>none
def UO:V->Option Int
  | .agg [.d (.int .i64 a),.d (.int .i64 b)]=>if mS a ∧ mS b then some (GA a b) else none
  | _=>none
def aIK (neg:Bool):V->Option D
  | .ptr _ _=>some (.bool neg)
  | .d (.ptr _ _)=>some (.bool neg)
  | .d .np=>some (.bool (!neg))
  | _=>none
def aDF:V->Option Bool
  | .d (.bool b)=>some b
  | _=>none
def cJ (C:Nat->List D->Option D) (site:Nat) (ev:bM->V) (bl:Nat->Option aI):fU->J1
  | .fail=>none
  | .move x=>some (ev x,[])
  | .pick c a b=>match ev c with
    | .d (.bool true)=>some (ev a,[])
    | .d (.bool false)=>some (ev b,[])
    | _=>none
  | .alloc z=>match bl site with
    | none=>some (.ptr site 0,[(site,some (.box z))])
    | some _=>none
  | .box x=>match bl site with
    | none=>if (ev x).known = true then some (.ptr site 0,[(site,some (.box (ev x).cells))]) else none
    | some _=>none
  | .build z parts=>(G5 z (parts.map fun (o,s,x)=>(o,s,ev x))).map fun cs=>(.agg cs,[])
  | .buildSlice e size z n parts=>match bl site with
    | none=>match kZ bl size (List.replicate n z) (parts.map fun (i,x)=>(i,ev x)) with
      | some rows=>some (.own site 0,(site,some (.rows 0 e size rows)) :: parts.flatMap fun (_,x)=>vX bl (ev x))
      | none=>none
    | some _=>none
  | .load size isAgg x=>match ev x with
    | .ptr id off=>match bl id with
      | some (.box cs) =>
        if isAgg then (if off + size <= cs.length then some (.agg ((cs.drop off).take size),[]) else none)
        else cs[off]?.map fun v=>(v,[])
      | some (.fbox row) =>
        if isAgg then (if off + size <= row.length then some (.agg (((row.drop off).take size).map .d),[]) else none)
        else row[off]?.map fun v=>(.d v,[])
      | _=>none
    | .d (.ptr row off) =>
      if isAgg then (if off + size <= row.length then some (.agg (((row.drop off).take size).map .d),[]) else none)
      else row[off]?.map fun v=>(.d v,[])
    | .orow id ver i off=>match bl id with
      | some (.rows v e sz rows)=>if ver = v then match rows[i]? with
        | some row =>
          if isAgg then (if off + size <= row.length then some (.agg (((row.drop off).take size).map .d),[]) else none)
          else row[off]?.map fun v=>(.d v,[])
        | none=>none
        else none
      | _=>none
    | _=>none
  | .store size x v=>match ev x with
    | .ptr id off=>match bl id with
      | some (.box cs)=>if (ev v).cells.length = size ∧ off + size <= cs.length ∧ (ev v).known = true then some (.any,[(id,some (.box (iU cs off (ev v).cells)))]) else none
      | _=>none
    | .orow id ver i off=>match bl id with
      | some (.rows w e sz rows)=>if ver = w then match rows[i]?,aK (iX bl) (ev v).cells with
        | some row,some ds=>if ds.length = size ∧ off + size <= row.length ∧ AY id (vX bl (ev v)) = true then some (.any,(id,some (.rows w e sz (rows.set i (iU row off ds)))) :: vX bl (ev v)) else none
        | _,_=>none
        else none
      | _=>none
    | _=>none
  | .nilCheck x=>match ev x with
    | .ptr id off=>some (.ptr id off,[])
    | .d (.ptr row off)=>some (.d (.ptr row off),[])
    | .orow id ver i off=>match bl id with
      | some (.rows v _ _ _)=>if ver = v then some (.orow id ver i off,[]) else none
      | _=>none
    | _=>none
  | .bin c op x y=>J1.v (BI c op (ev x) (ev y))
  | .eqS ks neg x y=>J1.v (eqV ks neg (ev x) (ev y))
  | .un op x=>J1.v (unV op (ev x))
  | .conv k x=>match ev x with
    | .d (.int _ n)=>some (.d (.int k (k.wrap n)),[])
    | _=>none
  | .slice size x lo hi=>xB bl size (ev x) (lo.map ev) (hi.map ev)
  | .strSlice x lo hi=>N1 (ev x) (lo.map ev) (hi.map ev)
  | .fieldAddr off x=>match ev x with
    | .ptr id o=>some (.ptr id (o + off),[])
    | .d (.ptr row o)=>some (.d (.ptr row (o + off)),[])
    | .orow id ver i o=>match bl id with
      | some (.rows v _ _ _)=>if ver = v then some (.orow id ver i (o + off),[]) else none
      | _=>none
    | _=>none
  | .indexArr n size x i=>match ev i with
    | .d (.int _ q)=>if 0 <= q ∧ q < n then (match ev x with
      | .ptr id o=>some (.ptr id (o + q.toNat * size),[])
      | .d (.ptr row o)=>some (.d (.ptr row (o + q.toNat * size)),[])
      | .orow id ver i o=>match bl id with
        | some (.rows v _ _ _)=>if ver = v then some (.orow id ver i (o + q.toNat * size),[]) else none
        | _=>none
      | _=>none) else none
    | _=>none
  | .idxA n x i=>match ev i with
    | .d (.int _ q)=>if 0 <= q ∧ q < n then (match ev x with
      | .agg cs=>if cs.length = n then cs[q.toNat]?.map fun v=>(v,[]) else none
      | _=>none) else none
    | _=>none
  | .isnp neg x=>J1.v (aIK neg (ev x))
  | .field off size isAgg x=>match ev x with
    | .agg cs =>
      if isAgg then (if off + size <= cs.length then some (.agg ((cs.drop off).take size),[]) else none)
      else cs[off]?.map fun v=>(v,[])
    | _=>none
  | .indexAddr size x i=>match ev i with
    | .d (.int _ n)=>match ev x with
      | .own id ver=>match bl id with
        | some (.rows v e sz rows)=>if ver = v ∧ sz = size ∧ 0 <= n ∧ n.toNat < rows.length then some (.orow id ver n.toNat 0,[]) else none
        | some (.froz v rows)=>if ver = v ∧ 0 <= n then match rows[n.toNat]? with
          | some row=>if row.length = size then some (.d (.ptr row 0),[]) else none
          | none=>none
          else none
        | _=>none
      | .d (.sl rows)=>if 0 <= n then match rows[n.toNat]? with
        | some row=>if row.length = size then some (.d (.ptr row 0),[]) else none
        | none=>none
        else none
      | _=>none
    | _=>none
  | .index x i=>match ev x,ev i with
    | .d (.str s),.d (.int _ n)=>if 0 <= n then match s[n.toNat]? with
      | some b=>some (.d (.int .u8 b.toNat),[])
      | none=>none
      else none
    | _,_=>none
  | .len x=>(gG bl (ev x)).map fun rows=>(.d (.int .i64 rows.length),[])
  | .lenS x=>match ev x with
    | .d (.str s)=>some (.d (.int .i64 s.size),[])
    | _=>none
  | .append e size bytes x y=>match gG bl (ev y) with
    | none=>none
    | some new =>
      if sized size new = true then
      match ev x with
      | .nil=>match bl site with
        | none=>if new.length * bytes <= 140737488355328 then some (.own site 0,[(site,some (.rows 0 e size new))]) else none
        | some _=>none
      | .own id ver=>match bl id with
        | some (.rows v e' size' rows)=>if ver = v ∧ e' = e ∧ size' = size ∧ (rows.length + new.length) * bytes <= 140737488355328 then some (.own id (ver + 1),[(id,some (.rows (ver + 1) e size (rows ++ new)))]) else none
        | _=>none
      | _=>none
      else none
  | .makeSlice e size bytes z l c=>match bl site with
    | none=>match ev l,ev c with
      | .d (.int _ n),.d (.int _ m)=>if 0 <= n ∧ n <= m ∧ (bytes:Int) * m <= 281474976710656 ∧ m <= 9223372036854775807 then some (.own site 0,[(site,some (.rows 0 e size (List.replicate n.toNat z)))]) else none
      | _,_=>none
    | some _=>none
  | .max l=>J1.v (aPx (l.map ev))
  | .min l=>J1.v (aPd (l.map ev))
  | .extract x i=>match ev x with
    | .tup vs=>vs[i]?.map fun v=>(v,[])
    | _=>none
  | .call f args=>match aK (fun x=>iY bl (ev x)) args with
    | none=>none
    | some ds=>match C f ds with
      | none=>none
      | some r=>oB site bl (args.flatMap fun x=>vX bl (ev x)) r
  | .bytes x=>match ev x with
    | .d (.str s)=>some (.d (.sl (s.data.toList.map fun b=>[.int .u8 b.toNat])),[])
    | _=>none
  | .lend f args t=>match (args.map ev)[t]? with
    | some (.own id ver)=>match D0 bl t 0 (args.map ev) with
      | none=>none
      | some ds=>if AY id (tH bl t 0 (args.map ev)) = true then match C f ds with
          | some (.own y [(e,size)] [rows'])=>match bl id with
            | some (.rows v e' size' _)=>if ver = v ∧ e = e' ∧ size = size' ∧ IA y = true ∧ pE rows' = true then some (toV y,[(id,some (.rows v e size rows'))]) else none
            | _=>none
          | _=>none
        else none
    | _=>none
  | .calln f args=>match aK (fun x=>iY bl (ev x)) args with
    | none=>none
    | some ds=>match C f ds with
      | some (.own x es rs)=>if JE x rs = true then oB site bl [] (.own x es rs) else none
      | _=>none
  | .mkmap ek=>match bl site with
    | none=>some (.mp site,[(site,some (.mp ek []))])
    | some _=>none
  | .mput ek m k v=>match ev m,J2 (ev k),aHf (ev v) with
    | .mp id,some n,some x=>match bl id with
      | some (.mp ek' l)=>if x.kind = ek ∧ ek' = ek ∧ l.length < 1000000000000 then some (.any,[(id,some (.mp ek (GQ n x l)))]) else none
      | _=>none
    | _,_,_=>none
  | .mget z m k=>match S3 bl (ev m),J2 (ev k) with
    | some (ek,l),some n=>if l.isEmpty = true ∨ z.kind = ek then some (.d (zY n z l).d,[]) else none
    | _,_=>none
  | .mputP m k v=>match ev m,UO (ev k),aDF (ev v) with
    | .mp id,some n,some x=>match bl id with
      | some (.mp 3 l)=>if l.length < 1000000000000 then some (.any,[(id,some (.mp 3 (GQ n (.b x) l)))]) else none
      | _=>none
    | _,_,_=>none
  | .mgetP m k=>match ev m,UO (ev k) with
    | .mp id,some n=>match bl id with
      | some (.mp 3 l)=>some (.d (zY n (.b false) l).d,[])
      | _=>none
    | _,_=>none
  | .mdel ek m k=>match ev m,J2 (ev k) with
    | .d (.mp 2 []),some _=>some (.any,[])
    | .mp id,some n=>match bl id with
      | some (.mp ek' l)=>if ek' = ek then some (.any,[(id,some (.mp ek (CT n l)))]) else none
      | _=>none
    | _,_=>none
  | .cut size x lo hi=>K3 bl size (ev x) (lo.map ev) (hi.map ev)
  | .isnil neg x=>J1.v (K4 bl neg (ev x))
  | .clear z x=>match ev x with
    | .nil=>some (.any,[])
    | .own id ver=>match bl id with
      | some (.rows v e size rows)=>if ver = v ∧ z.length = size then some (.any,[(id,some (.rows v e size (List.replicate rows.length z)))]) else none
      | _=>none
    | _=>none
  | .mkfn f caps=>match aK (fun x=>iX bl (ev x)) caps with
    | none=>none
    | some ds=>some (.d (.fn f ds),caps.flatMap fun x=>AL bl (ev x))
  | .mkfnv f caps=>if (caps.map ev).all (NM bl) = true then some (.fn f (caps.map ev),[]) else none
  | .callv g args=>match ev g with
    | .d (.fn f caps)=>match aK (fun x=>iY bl (ev x)) args with
      | none=>none
      | some ds=>match C f (ds ++ caps) with
        | none=>none
        | some r=>oB site bl (args.flatMap fun x=>vX bl (ev x)) r
    | _=>none
def St.put (s:St) (dst:Option Nat) (v:V) (wr:List (Nat × Option aI)):St :=
  ⟨match dst with | some d=>(d,v) :: s.fr | none=>s.fr,wr ++ s.bl⟩
inductive G where
  | run | skip | bad
def yL:V->Bool->G
  | .d (.bool true),true=>.run
  | .d (.bool false),false=>.run
  | .d (.bool _),_=>.skip
  | .tup [],_=>.skip
  | _,_=>.bad
def aO.wants (fr:Nat->V) (o:aO):G:=match o.guard with
  | none=>.run
  | some (t,b)=>yL (fr t) b
def yP (C:Nat->List D->Option D) (o:aO) (s:St):Option St :=
  match o.wants s.get with
  | .run=>match cJ C o.site (bL s.get) s.blk o.op with
    | some (v,wr)=>some (s.put o.dst v wr)
    | none=>none
  | .skip=>some (s.put o.dst (.tup []) [])
  | .bad=>none
def iP (C:Nat->List D->Option D):List aO->St->Option St
  | [],s=>some s
  | o :: r,s=>match yP C o s with
    | some s'=>iP C r s'
    | none=>none
end Vm
end Go.Proofs.Ytgjcnbgfaimepaa
namespace Go.Proofs.Ytgjcnbgfaimepaa
namespace Vm
open Go.RowKit Go.WideElems Go.MapKept Go.ChangeMaps Go.Maps
def ML.val:ML->Value
  | .b x=>.bool x
  | .i n=>.int .i64 n
def ML.lit:ML->Lit
  | .b x=>.bool x
  | .i n=>.int .i64 n
def ML.ok:ML->Prop
  | .b _=>True
  | .i n=>mS n
def aS6 (x:MapEntry):Int × ML:=((match x.key with | .int _ n=>n | _=>0),match x.val with | .bool b=>.b b | .int _ n=>.i n | _=>.b false)
def aIm (ek:Nat) (x:MapEntry):Prop:=(∃ n,x.key = .int .i64 n ∧ mS n) ∧ ∃ v:ML,x.val = v.val ∧ v.kind = ek ∧ v.ok
def JL (o:Option Obj) (ek:Nat) (m:List (Int × ML)):Prop:=(ek = 0 ∨ ek = 1) ∧ ∃ es clock,o = some (.map es clock) ∧ es.size <= maxLen ∧ Stamped es clock ∧ (∀ x ∈ es.toList,aIm ek x) ∧ m = (es.toList.map aS6).foldr (fun y l=>BQ y.1 y.2 l) []
def eM (p:Int × ML):Lit × DataW Unit:=(.int .i64 p.1,.lit p.2.lit)
def SS (m:List (Int × ML)):DataW Unit:=.map (m.map eM)
def vH (ek:Nat):TypeDesc:=if ek = 0 then .int .i64 else .bool
theorem CC {n:Int} (h:mS n):(Lit.int .i64 n).wf = true:=by
  unfold mS at h
  simp [Lit.wf,IntKind.min,IntKind.max,IntKind.signed,IntKind.bits]
  omega
theorem XC {n:Int} (h:(Lit.int .i64 n).wf = true):mS n:=by
  unfold mS
  simp [Lit.wf,IntKind.min,IntKind.max,IntKind.signed,IntKind.bits] at h
  exact ⟨by omega,by omega⟩
theorem WH (y:Int × ML):∀ l:List (Int × ML),(BQ y.1 y.2 l).map eM = DataW.insert (eM y) (l.map eM)
  | []=>rfl
  | z :: r=>by
    have e:(eM y).1.before (eM z).1 = decide (y.1 < z.1):=rfl
    simp only [BQ,List.map_cons,DataW.insert,e]
    by_cases c:y.1 < z.1
    · rw [if_pos c,if_pos (decide_eq_true c)]; rfl
    · rw [if_neg c,if_neg (by simpa using c),List.map_cons,WH y r]
theorem NL:∀ l:List (Int × ML),(l.foldr (fun y l=>BQ y.1 y.2 l) []).map eM = (l.map eM).foldr DataW.insert []
  | []=>rfl
  | y :: r=>by rw [List.foldr_cons,WH,NL r]; rfl
theorem YZ {α:Type} (k:Int) (v:α):∀ l:List (Int × α),(BQ k v l).length = l.length + 1
  | []=>rfl
  | y :: r=>by
    unfold BQ
    split
    · rfl
    · rw [List.length_cons,YZ k v r,List.length_cons]
theorem D3:∀ l:List (Int × ML),(l.foldr (fun y l=>BQ y.1 y.2 l) []).length = l.length
  | []=>rfl
  | y :: r=>by rw [List.foldr_cons,YZ,D3 r,List.length_cons]
theorem aI9:∀ {a b:List (Int × ML)},a.map eM = b.map eM->a = b
  | [],[],_=>rfl
  | [],_ :: _,h=>by simp at h
  | _ :: _,[],h=>by simp at h
  | (k,v) :: a,(k',v') :: b,h=>by
    simp only [List.map_cons,List.cons.injEq] at h
    obtain ⟨h1,h2⟩:=h
    rw [aI9 h2]
    simp only [eM,Prod.mk.injEq,Lit.int.injEq,true_and,DataW.lit.injEq] at h1
    obtain ⟨rfl,h3⟩:=h1
    cases v <;> cases v' <;> simp [ML.lit] at h3 <;> subst h3 <;> rfl
section
variable {P:Program} {K E:TypeId} {ek:Nat}
theorem DW (hE:P.underlying E = some (vH ek)) {v:ML} (hv:v.kind = ek) (ho:v.ok):plainElem (H:=Unit) P E v.val = some (.lit v.lit,[]):=by
  cases v with
  | b x =>
    subst hv
    exact plainElem_bool hE x
  | i n =>
    subst hv
    exact plainElem_int hE (CC ho)
theorem AE (hE:P.underlying E = some (vH ek)) (hk:ek = 0 ∨ ek = 1) {u:Value} {z:DataW Unit × List MemPlace} (h:plainElem P E u = some z):∃ v:ML,u = v.val ∧ v.kind = ek ∧ v.ok ∧ z = (.lit v.lit,[]):=by
  rcases hk with rfl | rfl
  · obtain ⟨a,rfl,rfl,hw⟩:=plainElem_int_inv hE h
    exact ⟨.i a,rfl,rfl,XC hw,rfl⟩
  · unfold plainElem at h
    rw [show P.underlying E = some .bool from hE] at h
    cases u with
    | bool x =>
      simp only [Option.some.injEq] at h
      subst h
      exact ⟨.b x,rfl,rfl,trivial,rfl⟩
    | _=>simp at h
theorem aO1 (hK:P.underlying K = some (.int .i64)) {u:Value} {kl:Lit} (h:keyOf P K u = some kl):∃ n,u = .int .i64 n ∧ mS n ∧ kl = .int .i64 n:=by
  cases u <;> simp [keyOf,hK,mapKey] at h
  obtain ⟨⟨rfl,h2⟩,h3⟩:=h
  exact ⟨_,rfl,XC h2,h3.symm⟩
theorem aBG (hK:P.underlying K = some (.int .i64)) (hE:P.underlying E = some (vH ek)) {x:MapEntry} (h:aIm ek x):rd P K (plainElem P E) x = some (eM (aS6 x)):=by
  obtain ⟨key,val,born⟩:=x
  obtain ⟨⟨n,h1,h2⟩,v,h3,h4,h5⟩:=h
  dsimp only at h1 h3
  subst h1; subst h3
  rw [rd_mk (keyOf_int_mk hK (CC h2)) (DW hE h4 h5)]
  cases v <;> rfl
theorem JL.owns (hK:P.underlying K = some (.int .i64)) (hE:P.underlying E = some (vH ek)) {w:World} {g:Nat} {m:List (Int × ML)} (h:JL w.heap[g]? ek m):w.ownsMap P K (plainElem P E) g m.length (SS m):=by
  obtain ⟨_,es,clock,h1,h2,h3,h4,rfl⟩:=h
  refine ⟨es,clock,h1,⟨h2,h3,fun x hx=>⟨_,aBG hK hE (h4 x hx)⟩⟩,?_,?_⟩
  · rw [D3,List.length_map]; simp
  · unfold SS
    rw [NL,List.map_map]
    congr 2
    refine List.map_congr_left fun x hx=>?_
    rw [rg_of (aBG hK hE (h4 x hx))]; rfl
theorem JL.of_owns (hK:P.underlying K = some (.int .i64)) (hE:P.underlying E = some (vH ek)) (hk:ek = 0 ∨ ek = 1) {w:World} {g n:Nat} {m:List (Int × ML)} (h:w.ownsMap P K (plainElem P E) g n (SS m)):JL w.heap[g]? ek m:=by
  obtain ⟨es,clock,h1,F,_,h5⟩:=h
  have hent:∀ x ∈ es.toList,aIm ek x:=by
    intro x hx
    obtain ⟨y,hy⟩:=F.reads x hx
    obtain ⟨z,hz,_⟩:=rd_val hy
    obtain ⟨v,q1,q2,q3,_⟩:=AE hE hk hz
    obtain ⟨a,q4,q5,_⟩:=aO1 hK (rd_key hy)
    exact ⟨⟨a,q4,q5⟩,v,q1,q2,q3⟩
  refine ⟨hk,es,clock,h1,F.size,F.stamped,hent,aI9 ?_⟩
  unfold SS at h5
  rw [DataW.map.injEq] at h5
  rw [h5,NL,List.map_map]
  congr 1
  refine List.map_congr_left fun x hx=>?_
  rw [rg_of (aBG hK hE (hent x hx))]; rfl
end
theorem aEv (k:Int) (m:List (Int × ML)):DataW.del (SS m) (.int .i64 k) = SS (CT k m):=by
  show DataW.map ((m.map eM).filter fun p=>!p.1.sameKey (.int .i64 k)) = DataW.map ((CT k m).map eM)
  unfold CT
  rw [List.filter_map]
  congr 2
  refine List.filter_congr fun p _=>?_
  show (!decide (IntKind.i64 = .i64 ∧ p.1 = k)) = !decide (p.1 = k)
  simp
theorem aP0 (k:Int) (v:ML) (m:List (Int × ML)):DataW.put (SS m) (.int .i64 k) (.lit v.lit) = SS (GQ k v m):=by
  have h:DataW.map ((m.map eM).filter fun p=>!p.1.sameKey (.int .i64 k)) = DataW.map ((CT k m).map eM):=aEv k m
  rw [DataW.map.injEq] at h
  show DataW.map (DataW.insert (.int .i64 k,.lit v.lit) ((m.map eM).filter fun p=>!p.1.sameKey (.int .i64 k))) = DataW.map ((GQ k v m).map eM)
  unfold GQ
  rw [h]
  exact congrArg DataW.map (WH (k,v) (CT k m)).symm
theorem aNt (k:Int) (z:ML) (m:List (Int × ML)):DataW.atKey (SS m) (.int .i64 k) (.lit z.lit) = .lit (zY k z m).lit:=by
  unfold DataW.atKey SS zY
  dsimp only
  rw [List.find?_map]
  have e:(fun p:Lit × DataW Unit=>p.1.sameKey (.int .i64 k)) ∘ eM = fun p:Int × ML=>decide (p.1 = k):=by
    funext p
    show decide (IntKind.i64 = .i64 ∧ p.1 = k) = decide (p.1 = k)
    simp
  rw [e]
  cases m.find? fun p=>decide (p.1 = k) <;> rfl
theorem WL {a b:ML} (h:a.lit = b.lit):a = b:=by
  cases a <;> cases b <;> simp [ML.lit] at h <;> subst h <;> rfl
theorem aHD {ek:Nat} (hk:ek = 0 ∨ ek = 1):JL (some (.map #[] 0)) ek []:=⟨hk,#[],0,rfl,by simp,stamped_empty 0,fun x hx=>by simp at hx,rfl⟩
section
variable {P:Program} {t K E:TypeId} {w:World} {g ek:Nat} {m:List (Int × ML)} {z:ML}
theorem T8 (h:JL w.heap[g]? ek m) (ht:P.underlying t = some (.map K E)) (hK:P.underlying K = some (.int .i64)) (hE:P.underlying E = some (vH z.kind)) (hz:(zeroValue E).run P w = .ok z.val w) (ho:z.ok) (hk:m = [] ∨ z.kind = ek) {n:Int} (hn:mS n) :
    (Instr.lookup t (.map (some g)) (.int .i64 n) false).run P w = .ok (zY n z m).val w:=by
  have h' : JL w.heap[g]? z.kind m:=by
    rcases hk with rfl | rfl
    · obtain ⟨_,es,clock,h1,h2,h3,h4,h5⟩:=h
      have:es.toList = []:=by
        have:=congrArg List.length h5
        rw [D3,List.length_map] at this
        exact List.eq_nil_of_length_eq_zero this.symm
      exact ⟨by cases z <;> simp [ML.kind],es,clock,h1,h2,h3,fun x hx=>(by rw [this] at hx; cases hx),h5⟩
    · exact h
  have hown:=h'.owns hK hE
  obtain ⟨v,ps,hrun,hv⟩:=hown.lookup (int_keyed hK) ht hz (DW hE rfl ho) (keyOf_int_mk hK (CC hn))
  rw [aNt] at hv
  obtain ⟨v',rfl,_,_,h4⟩:=AE hE (by cases z <;> simp [ML.kind]) hv
  rw [Prod.mk.injEq,DataW.lit.injEq] at h4
  rw [hrun,WL h4.1]
theorem aE9 (ht:P.underlying t = some (.map K E)) (hK:P.underlying K = some (.int .i64)) (hz:(zeroValue E).run P w = .ok z.val w) {n:Int} (hn:mS n) :
    (Instr.lookup t (.map none) (.int .i64 n) false).run P w = .ok z.val w:=by
  have:=Maps.look_nil false (int_keyed hK) ht hz (keyOf_int_mk hK (CC hn))
  simpa using this
theorem aKs (h:JL w.heap[g]? ek m) (ht:P.underlying t = some (.map K E)) (hK:P.underlying K = some (.int .i64)) (hE:P.underlying E = some (vH ek)) {v:ML} (hv:v.kind = ek) (ho:v.ok) (hlen:m.length < maxLen) {n:Int} (hn:mS n) :
    ∃ w',(Instr.mapUpdate t (.map (some g)) (.int .i64 n) v.val).run P w = .ok () w' ∧ JL w'.heap[g]? ek (GQ n v m) ∧ w.grownBy w' (some g):=by
  have hown:=h.owns hK hE
  obtain ⟨w',hrun,h1,h2⟩:=hown.update (int_keyed hK) ht hlen (keyOf_int_mk hK (CC hn)) (DW hE hv ho)
  rw [aP0] at h1
  exact ⟨w',hrun,JL.of_owns hK hE (by cases v <;> simp [ML.kind] at hv <;> omega) h1,h2⟩
theorem aJI (h:JL w.heap[g]? ek m) (ht:P.underlying t = some (.map K E)) (hK:P.underlying K = some (.int .i64)) (hE:P.underlying E = some (vH ek)) (hk:ek = 0 ∨ ek = 1) (ty:TypeId) {n:Int} (hn:mS n) :
    ∃ w',(Builtin.delete_ #[t,K] ty #[.map (some g),.int .i64 n]).run P w = .ok (.tuple #[]) w' ∧ JL w'.heap[g]? ek (CT n m) ∧ w.grownBy w' (some g):=by
  have hown:=h.owns hK hE
  obtain ⟨w',hrun,h1,h2⟩:=hown.drop (int_keyed hK) ht (keyOf_int_mk hK (CC hn)) ty
  rw [aEv] at h1
  exact ⟨w',hrun,JL.of_owns hK hE hk h1,h2.grown⟩
end
end Vm
end Go.Proofs.Ytgjcnbgfaimepaa
namespace Go.Proofs.Ytgjcnbgfaimepaa
namespace Vm
open Go.RowKit Go.WideElems Go.MapKept Go.ChangeMaps Go.Maps
theorem OZ:∀ (w n:Nat),(bytesLE w n).length = w
  | 0,_=>rfl
  | w + 1,n=>by simp [bytesLE,OZ w]
theorem B5 (w n:Nat):(bytesBE w n).length = w:=by simp [bytesBE,OZ]
theorem sL (w n:Nat):bytesBE (w + 1) n = bytesBE w (n / 256) ++ [UInt8.ofNat (n % 256)]:=by simp [bytesBE,bytesLE]
theorem OT:∀ (a b:List UInt8) (x y:UInt8),a.length = b.length->bytesBefore (a ++ [x]) (b ++ [y]) = (bytesBefore a b || (a == b && decide (x < y)))
  | [],[],x,y,_=>by simp [bytesBefore]
  | [],_ :: _,_,_,h=>by simp at h
  | _ :: _,[],_,_,h=>by simp at h
  | p :: a,q :: b,x,y,h=>by
    have ih:=OT a b x y (by simpa using h)
    simp only [List.cons_append,bytesBefore,ih]
    by_cases h1:p < q
    · simp [h1]
    · by_cases h2:p = q
      · subst h2; simp [h1]
      · have h3:(p == q) = false:=by simpa using h2
        simp [h1,h3]
theorem EP:∀ (w:Nat) {n m:Nat},n < 256 ^ w->m < 256 ^ w->(bytesBE w n = bytesBE w m ↔ n = m)
  | 0,n,m,hn,hm=>by
    have:n = m:=by simp at hn hm; omega
    simp [this]
  | w + 1,n,m,hn,hm=>by
    rw [sL,sL]
    have hn' : n / 256 < 256 ^ w:=by rw [Nat.pow_succ] at hn; omega
    have hm' : m / 256 < 256 ^ w:=by rw [Nat.pow_succ] at hm; omega
    constructor
    · intro q
      have h1:=List.append_inj q (by rw [B5,B5])
      have h2:=(EP w hn' hm').1 h1.1
      have h3:UInt8.ofNat (n % 256) = UInt8.ofNat (m % 256):=by simpa using h1.2
      have h4:=congrArg UInt8.toNat h3
      simp only [UInt8.toNat_ofNat'] at h4
      omega
    · rintro rfl; rfl
theorem RX:∀ (w:Nat) {n m:Nat},n < 256 ^ w->m < 256 ^ w->bytesBefore (bytesBE w n) (bytesBE w m) = decide (n < m)
  | 0,n,m,hn,hm=>by
    have:¬ n < m:=by simp at hn hm; omega
    rw [decide_eq_false this]
    rfl
  | w + 1,n,m,hn,hm=>by
    have hn' : n / 256 < 256 ^ w:=by rw [Nat.pow_succ] at hn; omega
    have hm' : m / 256 < 256 ^ w:=by rw [Nat.pow_succ] at hm; omega
    rw [sL,sL,OT _ _ _ _ (by rw [B5,B5]),RX w hn' hm']
    have h1:(bytesBE w (n / 256) == bytesBE w (m / 256)) = decide (n / 256 = m / 256):=by
      rw [Bool.eq_iff_iff,beq_iff_eq,decide_eq_true_eq]
      exact EP w hn' hm'
    have h2:decide (UInt8.ofNat (n % 256) < UInt8.ofNat (m % 256)) = decide (n % 256 < m % 256):=by
      rw [Bool.eq_iff_iff,decide_eq_true_eq,decide_eq_true_eq,UInt8.lt_iff_toNat_lt]
      simp only [UInt8.toNat_ofNat']
      omega
    rw [h1,h2,Bool.eq_iff_iff]
    simp only [Bool.or_eq_true,Bool.and_eq_true,decide_eq_true_eq]
    omega
theorem PG:∀ (w v x y:Nat),y < 256 ^ w->bytesBE v x ++ bytesBE w y = bytesBE (v + w) (x * 256 ^ w + y)
  | 0,v,x,y,hy=>by
    have:y = 0:=by simpa using hy
    subst this
    simp [bytesBE,bytesLE]
  | w + 1,v,x,y,hy=>by
    have hy' : y / 256 < 256 ^ w:=by rw [Nat.pow_succ] at hy; omega
    rw [sL,← List.append_assoc,PG w v x (y / 256) hy',← Nat.add_assoc,sL]
    have e:x * 256 ^ (w + 1) = x * 256 ^ w * 256:=by rw [Nat.pow_succ,Nat.mul_assoc]
    congr 2
    · rw [e]; omega
    · rw [e]; congr 1; omega
def XG (c:Int):Lit:=.string (bytesBE 16 c.toNat)
def W4 (c:Int):Prop:=0 <= c ∧ c < 340282366920938463463374607431768211456
theorem MH (a b:Int):W4 (GA a b):=by unfold W4 GA; omega
theorem I9 {c:Int} (h:W4 c):c.toNat < 256 ^ 16:=by
  unfold W4 at h
  have e:(256:Nat) ^ 16 = 340282366920938463463374607431768211456:=by decide
  rw [e]
  omega
theorem aCS {c c' : Int} (h:W4 c) (h' : W4 c'):(XG c).before (XG c') = decide (c < c'):=by
  show bytesBefore _ _ = _
  rw [RX 16 (I9 h) (I9 h'),Bool.eq_iff_iff,decide_eq_true_eq,decide_eq_true_eq]
  unfold W4 at h h'
  omega
theorem aAP {c c' : Int} (h:W4 c) (h' : W4 c'):(XG c).sameKey (XG c') = decide (c = c'):=by
  show (bytesBE 16 c.toNat == bytesBE 16 c'.toNat) = _
  rw [Bool.eq_iff_iff,beq_iff_eq,decide_eq_true_eq,EP 16 (I9 h) (I9 h')]
  unfold W4 at h h'
  omega
def C4 (m:List (Int × ML)):Prop:=∀ p ∈ m,W4 p.1
def eP (p:Int × ML):Lit × DataW Unit:=(XG p.1,.lit p.2.lit)
def S7 (m:List (Int × ML)):DataW Unit:=.map (m.map eP)
theorem aEa {α:Type} {k:Int} {v:α} {z:Int × α}:∀ {l:List (Int × α)},z ∈ BQ k v l->z = (k,v) ∨ z ∈ l
  | [],h=>by simp [BQ] at h; exact .inl h
  | y :: r,h=>by
    unfold BQ at h
    split at h
    · rcases List.mem_cons.1 h with h | h
      · exact .inl h
      · exact .inr h
    · rcases List.mem_cons.1 h with h | h
      · exact .inr (by simp [h])
      · rcases aEa h with h | h
        · exact .inl h
        · exact .inr (by simp [h])
theorem C4.ins {k:Int} {v:ML} {l:List (Int × ML)} (hk:W4 k) (h:C4 l):C4 (BQ k v l):=fun p hp=>by
  rcases aEa hp with rfl | q
  · exact hk
  · exact h p q
theorem C4.del {k:Int} {l:List (Int × ML)} (h:C4 l):C4 (CT k l):=fun p hp=>h p (List.mem_filter.1 hp).1
theorem SB (y:Int × ML) (hy:W4 y.1):∀ l:List (Int × ML),C4 l->(BQ y.1 y.2 l).map eP = DataW.insert (eP y) (l.map eP)
  | [],_=>rfl
  | z :: r,h=>by
    have e:(eP y).1.before (eP z).1 = decide (y.1 < z.1):=aCS hy (h z (by simp))
    simp only [BQ,List.map_cons,DataW.insert,e]
    by_cases c:y.1 < z.1
    · rw [if_pos c,if_pos (decide_eq_true c)]; rfl
    · rw [if_neg c,if_neg (by simpa using c),List.map_cons,SB y hy r fun p hp=>h p (by simp [hp])]
theorem E7:∀ l:List (Int × ML),C4 l->C4 (l.foldr (fun y l=>BQ y.1 y.2 l) [])
  | [],_=>fun p hp=>(by cases hp)
  | y :: r,h=>C4.ins (h y (by simp)) (E7 r fun p hp=>h p (by simp [hp]))
theorem LA:∀ l:List (Int × ML),C4 l->(l.foldr (fun y l=>BQ y.1 y.2 l) []).map eP = (l.map eP).foldr DataW.insert []
  | [],_=>rfl
  | y :: r,h=>by
    have hr:C4 r:=fun p hp=>h p (by simp [hp])
    rw [List.foldr_cons,SB _ (h y (by simp)) _ (E7 r hr),LA r hr]; rfl
theorem aIc {k:Int} {m:List (Int × ML)} (hk:W4 k) (h:C4 m):DataW.del (S7 m) (XG k) = S7 (CT k m):=by
  show DataW.map ((m.map eP).filter fun p=>!p.1.sameKey (XG k)) = DataW.map ((CT k m).map eP)
  unfold CT
  rw [List.filter_map]
  congr 2
  refine List.filter_congr fun p hp=>?_
  show (!(XG p.1).sameKey (XG k)) = !decide (p.1 = k)
  rw [aAP (h p hp) hk]
theorem aIY {k:Int} (v:ML) {m:List (Int × ML)} (hk:W4 k) (h:C4 m):DataW.put (S7 m) (XG k) (.lit v.lit) = S7 (GQ k v m):=by
  have h1:DataW.map ((m.map eP).filter fun p=>!p.1.sameKey (XG k)) = DataW.map ((CT k m).map eP):=aIc hk h
  rw [DataW.map.injEq] at h1
  show DataW.map (DataW.insert (XG k,.lit v.lit) ((m.map eP).filter fun p=>!p.1.sameKey (XG k))) = DataW.map ((GQ k v m).map eP)
  unfold GQ
  rw [h1]
  exact congrArg DataW.map (SB (k,v) hk (CT k m) h.del).symm
theorem aKQ {k:Int} (z:ML) {m:List (Int × ML)} (hk:W4 k) (h:C4 m):DataW.atKey (S7 m) (XG k) (.lit z.lit) = .lit (zY k z m).lit:=by
  unfold DataW.atKey S7 zY
  dsimp only
  rw [List.find?_map]
  have e:m.find? ((fun p:Lit × DataW Unit=>p.1.sameKey (XG k)) ∘ eP) = m.find? fun p:Int × ML=>decide (p.1 = k):=by
    induction m with
    | nil=>rfl
    | cons y m ih =>
      have h1:((fun p:Lit × DataW Unit=>p.1.sameKey (XG k)) ∘ eP) y = decide (y.1 = k):=aAP (h y (by simp)) hk
      rw [List.find?_cons,List.find?_cons,h1,ih fun p hp=>h p (by simp [hp])]
  rw [e]
  cases m.find? fun p=>decide (p.1 = k) <;> rfl
structure ER (P:Program) (K:TypeId):Prop where
  keyed:Keyed P K
  key:∀ a b:Int,mS a->mS b->keyOf P K (.agg #[.int .i64 a,.int .i64 b]) = some (XG (GA a b))
  inv:∀ {u:Value} {l:Lit},keyOf P K u = some l->∃ a b:Int,u = .agg #[.int .i64 a,.int .i64 b] ∧ mS a ∧ mS b
def aS1:Value->Int
  | .agg cs=>match cs.toList with
    | [.int _ a,.int _ b]=>GA a b
    | _=>0
  | _=>0
def aM2 (x:MapEntry):Int × ML:=(aS1 x.key,match x.val with | .bool b=>.b b | _=>.b false)
def SD (x:MapEntry):Prop:=(∃ a b:Int,x.key = .agg #[.int .i64 a,.int .i64 b] ∧ mS a ∧ mS b) ∧ ∃ c:Bool,x.val = .bool c
def N2 (o:Option Obj) (m:List (Int × ML)):Prop:=∃ es clock,o = some (.map es clock) ∧ es.size <= maxLen ∧ Stamped es clock ∧ (∀ x ∈ es.toList,SD x) ∧ m = (es.toList.map aM2).foldr (fun y l=>BQ y.1 y.2 l) []
theorem aNz {x:MapEntry} (h:SD x):W4 (aM2 x).1:=by
  obtain ⟨⟨a,b,h1,_⟩,_⟩:=h
  show W4 (aS1 x.key)
  rw [h1]
  exact MH a b
theorem M1 {es:Array MapEntry} (h:∀ x ∈ es.toList,SD x):C4 (es.toList.map aM2):=fun p hp=>by
  obtain ⟨x,hx,rfl⟩:=List.mem_map.1 hp
  exact aNz (h x hx)
theorem N2.all {o:Option Obj} {m:List (Int × ML)} (h:N2 o m):C4 m:=by
  obtain ⟨es,clock,_,_,_,h4,rfl⟩:=h
  exact E7 _ (M1 h4)
section
variable {P:Program} {K E:TypeId}
theorem V1 (hK:ER P K) (hE:P.underlying E = some (vH 1)) {x:MapEntry} (h:SD x):rd P K (plainElem P E) x = some (eP (aM2 x)):=by
  obtain ⟨key,val,born⟩:=x
  obtain ⟨⟨a,b,h1,h2,h3⟩,c,h4⟩:=h
  dsimp only at h1 h4
  subst h1; subst h4
  have hv:plainElem (H:=Unit) P E (.bool c) = some (.lit (.bool c),[]):=DW (v:=.b c) hE rfl trivial
  rw [rd_mk (hK.key a b h2 h3) hv]
  rfl
theorem N2.owns (hK:ER P K) (hE:P.underlying E = some (vH 1)) {w:World} {g:Nat} {m:List (Int × ML)} (h:N2 w.heap[g]? m):w.ownsMap P K (plainElem P E) g m.length (S7 m):=by
  obtain ⟨es,clock,h1,h2,h3,h4,rfl⟩:=h
  refine ⟨es,clock,h1,⟨h2,h3,fun x hx=>⟨_,V1 hK hE (h4 x hx)⟩⟩,?_,?_⟩
  · rw [D3,List.length_map]; simp
  · unfold S7
    rw [LA _ (M1 h4),List.map_map]
    congr 2
    refine List.map_congr_left fun x hx=>?_
    rw [rg_of (V1 hK hE (h4 x hx))]; rfl
theorem aL2:∀ {a b:List (Int × ML)},C4 a->C4 b->a.map eP = b.map eP->a = b
  | [],[],_,_,_=>rfl
  | [],_ :: _,_,_,h=>by simp at h
  | _ :: _,[],_,_,h=>by simp at h
  | (k,v) :: a,(k',v') :: b,h1,h2,h=>by
    simp only [List.map_cons,List.cons.injEq] at h
    obtain ⟨h3,h4⟩:=h
    rw [aL2 (fun p hp=>h1 p (by simp [hp])) (fun p hp=>h2 p (by simp [hp])) h4]
    simp only [eP,Prod.mk.injEq,DataW.lit.injEq] at h3
    obtain ⟨h5,h6⟩:=h3
    have h7:bytesBE 16 k.toNat = bytesBE 16 k'.toNat:=by
      unfold XG at h5
      injection h5
    have g1:=h1 (k,v) (by simp)
    have g2:=h2 (k',v') (by simp)
    have h8:=(EP 16 (I9 g1) (I9 g2)).1 h7
    have h9:k = k':=by
      unfold W4 at g1 g2
      simp only at g1 g2
      omega
    rw [h9,WL h6]
theorem N2.of_owns (hK:ER P K) (hE:P.underlying E = some (vH 1)) {w:World} {g n:Nat} {m:List (Int × ML)} (hm:C4 m) (h:w.ownsMap P K (plainElem P E) g n (S7 m)):N2 w.heap[g]? m:=by
  obtain ⟨es,clock,h1,F,_,h5⟩:=h
  have hent:∀ x ∈ es.toList,SD x:=by
    intro x hx
    obtain ⟨y,hy⟩:=F.reads x hx
    obtain ⟨z,hz,_⟩:=rd_val hy
    obtain ⟨v,q1,q2,q3,_⟩:=AE hE (.inr rfl) hz
    obtain ⟨a,b,q4,q5,q6⟩:=hK.inv (rd_key hy)
    refine ⟨⟨a,b,q4,q5,q6⟩,?_⟩
    cases v with
    | b c=>exact ⟨c,q1⟩
    | i n=>simp [ML.kind] at q2
  refine ⟨es,clock,h1,F.size,F.stamped,hent,aL2 hm (E7 _ (M1 hent)) ?_⟩
  unfold S7 at h5
  rw [DataW.map.injEq] at h5
  rw [h5,LA _ (M1 hent),List.map_map]
  congr 1
  refine List.map_congr_left fun x hx=>?_
  rw [rg_of (V1 hK hE (hent x hx))]; rfl
theorem aHO {t:TypeId} {w:World} {g:Nat} {m:List (Int × ML)} {z:Bool} (h:N2 w.heap[g]? m) (ht:P.underlying t = some (.map K E)) (hK:ER P K) (hE:P.underlying E = some (vH 1)) (hz:(zeroValue E).run P w = .ok (.bool z) w) {a b:Int} (ha:mS a) (hb:mS b) :
    (Instr.lookup t (.map (some g)) (.agg #[.int .i64 a,.int .i64 b]) false).run P w = .ok (zY (GA a b) (.b z) m).val w:=by
  have hown:=h.owns hK hE
  obtain ⟨v,ps,hrun,hv⟩:=hown.lookup hK.keyed ht hz (DW (v:=.b z) hE rfl trivial) (hK.key a b ha hb)
  rw [aKQ (.b z) (MH a b) h.all] at hv
  obtain ⟨v',rfl,_,_,h4⟩:=AE hE (.inr rfl) hv
  rw [Prod.mk.injEq,DataW.lit.injEq] at h4
  rw [hrun,WL h4.1]
theorem aKX {t:TypeId} {w:World} {g:Nat} {m:List (Int × ML)} (h:N2 w.heap[g]? m) (ht:P.underlying t = some (.map K E)) (hK:ER P K) (hE:P.underlying E = some (vH 1)) (c:Bool) (hlen:m.length < maxLen) {a b:Int} (ha:mS a) (hb:mS b) :
    ∃ w',(Instr.mapUpdate t (.map (some g)) (.agg #[.int .i64 a,.int .i64 b]) (.bool c)).run P w = .ok () w' ∧ N2 w'.heap[g]? (GQ (GA a b) (.b c) m) ∧ w.grownBy w' (some g):=by
  have hown:=h.owns hK hE
  obtain ⟨w',hrun,h1,h2⟩:=hown.update hK.keyed ht hlen (hK.key a b ha hb) (DW (v:=.b c) hE rfl trivial)
  rw [aIY (.b c) (MH a b) h.all] at h1
  exact ⟨w',hrun,N2.of_owns hK hE (C4.ins (MH a b) h.all.del) h1,h2⟩
theorem aGM:N2 (some (.map #[] 0)) []:=⟨#[],0,rfl,by simp,stamped_empty 0,fun x hx=>by simp at hx,rfl⟩
end
def oY (o:Option Obj) (ek:Nat) (m:List (Int × ML)):Prop:=JL o ek m ∨ (ek = 3 ∧ N2 o m)
theorem oY.old {o:Option Obj} {ek:Nat} {m:List (Int × ML)} (h:oY o ek m) (hk:ek ≠ 3):JL o ek m:=h.elim id fun q=>absurd q.1 hk
theorem oY.pair {o:Option Obj} {m:List (Int × ML)} (h:oY o 3 m):N2 o m:=h.elim (fun q=>absurd q.1 (by decide)) fun q=>q.2
theorem oY.of {o o' : Option Obj} {ek:Nat} {m:List (Int × ML)} (h:oY o ek m) (he:∀ x,o = some x->o' = some x):oY o' ek m:=by
  rcases h with ⟨hk,es,clock,h1,h2⟩ | ⟨hk,es,clock,h1,h2⟩
  · exact .inl ⟨hk,es,clock,he _ h1,h2⟩
  · exact .inr ⟨hk,es,clock,he _ h1,h2⟩
theorem oY.obj {o:Option Obj} {ek:Nat} {m:List (Int × ML)} (h:oY o ek m):∃ es clock,o = some (.map es clock):=by
  rcases h with ⟨hk,es,clock,h1,h2⟩ | ⟨hk,es,clock,h1,h2⟩ <;> exact ⟨es,clock,h1⟩
theorem aA7 {ek:Nat} (hk:ek = 0 ∨ ek = 1):oY (some (.map #[] 0)) ek []:=.inl (aHD hk)
section
variable {P:Program} {t K E:TypeId} {w:World} {g ek:Nat} {m:List (Int × ML)} {z:ML}
theorem oY.owns (hK:P.underlying K = some (.int .i64)) (hE:P.underlying E = some (vH ek)) (h:oY w.heap[g]? ek m) (hk:ek ≠ 3):w.ownsMap P K (plainElem P E) g m.length (SS m):=(h.old hk).owns hK hE
theorem aK9 (h:oY w.heap[g]? ek m) (ht:P.underlying t = some (.map K E)) (hK:P.underlying K = some (.int .i64)) (hE:P.underlying E = some (vH z.kind)) (hz:(zeroValue E).run P w = .ok z.val w) (ho:z.ok) (hk:m = [] ∨ z.kind = ek) {n:Int} (hn:mS n) :
    (Instr.lookup t (.map (some g)) (.int .i64 n) false).run P w = .ok (zY n z m).val w:=by
  rcases h with h | ⟨h3,es,clock,h1,h2,h4,h5,h6⟩
  · exact T8 h ht hK hE hz ho hk hn
  · rcases hk with rfl | hk
    · have he:es.toList = []:=by
        have:=congrArg List.length h6
        rw [D3,List.length_map] at this
        exact List.eq_nil_of_length_eq_zero this.symm
      have hm:JL w.heap[g]? z.kind []:=⟨by cases z <;> simp [ML.kind],es,clock,h1,h2,h4,fun x hx=>(by rw [he] at hx; cases hx),by rw [he]; rfl⟩
      exact T8 hm ht hK hE hz ho (.inr rfl) hn
    · rw [h3] at hk
      cases z <;> simp [ML.kind] at hk
theorem aOw (h:oY w.heap[g]? ek m) (ht:P.underlying t = some (.map K E)) (hK:P.underlying K = some (.int .i64)) (hE:P.underlying E = some (vH ek)) {v:ML} (hv:v.kind = ek) (ho:v.ok) (hlen:m.length < maxLen) {n:Int} (hn:mS n) :
    ∃ w',(Instr.mapUpdate t (.map (some g)) (.int .i64 n) v.val).run P w = .ok () w' ∧ oY w'.heap[g]? ek (GQ n v m) ∧ w.grownBy w' (some g):=by
  have hk:ek ≠ 3:=by rintro rfl; cases v <;> simp [ML.kind] at hv
  obtain ⟨w',h1,h2,h3⟩:=aKs (h.old hk) ht hK hE hv ho hlen hn
  exact ⟨w',h1,.inl h2,h3⟩
theorem aM7 (h:oY w.heap[g]? ek m) (ht:P.underlying t = some (.map K E)) (hK:P.underlying K = some (.int .i64)) (hE:P.underlying E = some (vH ek)) (hk:ek = 0 ∨ ek = 1) (ty:TypeId) {n:Int} (hn:mS n) :
    ∃ w',(Builtin.delete_ #[t,K] ty #[.map (some g),.int .i64 n]).run P w = .ok (.tuple #[]) w' ∧ oY w'.heap[g]? ek (CT n m) ∧ w.grownBy w' (some g):=by
  obtain ⟨w',h1,h2,h3⟩:=aJI (h.old (by rcases hk with rfl | rfl <;> decide)) ht hK hE hk ty hn
  exact ⟨w',h1,.inl h2,h3⟩
end
end Vm
end Go.Proofs.Ytgjcnbgfaimepaa
namespace Go.Proofs.Ytgjcnbgfaimepaa
namespace Vm
open Go.RowKit
abbrev Hp:=Nat->Option Obj
def Hp.le (h k:Hp):Prop:=∀ b o,h b = some o->k b = some o
def hw (w:World):Hp:=fun b=>w.heap[b]?
def Hp.cell (h:Hp) (b o:Nat):Option Value:=match h b with
  | some (.cells c _ _)=>c[o]?
  | _=>none
theorem Hp.le.refl (h:Hp):h.le h:=fun _ _ e=>e
theorem Hp.le.trans {a b c:Hp} (h:a.le b) (k:b.le c):a.le c:=fun x o e=>k x o (h x o e)
theorem Hp.cell_le {h k:Hp} (l:h.le k) {b o:Nat} {v:Value} (e:h.cell b o = some v):k.cell b o = some v:=by
  unfold Hp.cell at *
  cases hb:h b with
  | none=>simp [hb] at e
  | some x=>rw [l b x hb]; rw [hb] at e; exact e
theorem I6 (w:World) (b o:Nat):w.cell? ⟨b,o,none⟩ = (hw w).cell b o:=by
  simp only [World.cell?,Hp.cell,hw]
  cases w.heap[b]? with
  | none=>rfl
  | some x=>cases x <;> rfl
structure b7 extends World where
  L:Nat->Prop
  /-- slots that stay as they are -/
  F:Nat->Option Value
  /-- what the slots of callers hold -/
  O:Nat->Nat->Value
  /-- the calls that are deferred (the marks of ranges over functions) -/
  M:List Deferred
def b7.of (w:World):b7:={ w with L:=fun _=>False,F:=fun _=>none,O:=fun _ _=>undef,M:=[] }
def EB (nt:Nat) (b:b7) (dst:Option Nat):Prop:=∀ d,dst = some d->d < nt ∧ b.F d = none
def b7.own (b:b7) (g:Nat):Prop:=b.heap.size <= g ∨ b.L g
theorem b7.own_of {w:World} {g:Nat} (h:(b7.of w).own g):w.heap.size <= g:=by
  rcases h with h | h
  · exact h
  · exact h.elim
structure AC (b:b7) (w w' : World):Prop where
  os:w'.os = w.os
  tape:w'.tape = w.tape
  output:w'.output = w.output
  size:w.heap.size <= w'.heap.size
  block:∀ k,¬ b.own k->w'.heap[k]? = w.heap[k]?
theorem AC.refl (b:b7) (w:World):AC b w w:=⟨rfl,rfl,rfl,Nat.le_refl _,fun _ _=>rfl⟩
theorem AC.trans {b:b7} {u v w:World} (h:AC b u v) (k:AC b v w):AC b u w :=
  ⟨k.os.trans h.os,k.tape.trans h.tape,k.output.trans h.output,Nat.le_trans h.size k.size,fun i hi=>(k.block i hi).trans (h.block i hi)⟩
theorem b7.lt {b:b7} {k:Nat} (h:¬ b.own k):k < b.heap.size:=Nat.lt_of_not_le fun q=>h (.inl q)
theorem AC.of {b:b7} {w w' : World} (hb:b.heap.size <= w.heap.size) (h:Below w.heap.size w w'):AC b w w' :=
  ⟨h.os,h.tape,h.output,h.size,fun k hk=>h.block k (Nat.lt_of_lt_of_le (b7.lt hk) hb)⟩
theorem AC.below {w w' : World} (h:AC (b7.of w) w w'):Below w.heap.size w w' :=
  ⟨h.os,h.tape,h.output,h.size,fun k hk=>h.block k fun q=>by have:=b7.own_of q; omega⟩
theorem AC.alloc {b:b7} {w:World} (hb:b.heap.size <= w.heap.size) (o:Obj):AC b w (w.alloc o):=AC.of hb ((Below.refl _ _).alloc (Nat.le_refl _) o)
theorem AC.grown {b:b7} {w w' : World} {row:Option Nat} (hg:w.grownBy w' row) (hB:b.heap.size <= w.heap.size) (hr:∀ k,row = some k->b.own k):AC b w w' :=
  ⟨hg.os,hg.tape,hg.output,hg.size,fun k hk=>hg.block k (Nat.lt_of_lt_of_le (b7.lt hk) hB) fun e=>hk (hr k e.symm)⟩
theorem AC.drew {b:b7} {a w:World} (h:AC b a w):AC b a w.drew:=⟨h.os,h.tape,h.output,h.size,h.block⟩
def D.noTup:D->Bool
  | .tup _=>false
  | _=>true
inductive aT (h:Hp):Value->D->Prop
  | int (k:IntKind) (n:Int):aT h (.int k n) (.int k n)
  | bool (b:Bool):aT h (.bool b) (.bool b)
  | str (s:ByteArray) (hs:s.size <= maxLen):aT h (.string s) (.str s)
  | np:aT h (.pointer none) .np
  | fn (f:Nat) (arr:Array Value) (cs:List D) (hl:arr.size = cs.length) (hr:∀ (j:Nat) (x:D),cs[j]? = some x->aT h (arr.getD j undef) x):aT h (.func (.func f) #[] arr) (.fn f cs)
  | sl0 (a:Option Addr) (c:Nat) (h0:a = none->c = 0):aT h (.slice a 0 c) (.sl [])
  | sl (b off c k n:Nat) (rows:List (List D)) (cv:Nat->Nat->Value) (hn:n = rows.length) (hc:rows.length <= c)
      (hk:∀ (i:Nat) (row:List D),rows[i]? = some row->row.length = k)
      (hm:∀ (i:Nat) (row:List D) (j:Nat) (x:D),rows[i]? = some row->row[j]? = some x->h.cell b (off + i * k + j) = some (cv i j))
      (hr:∀ (i:Nat) (row:List D) (j:Nat) (x:D),rows[i]? = some row->row[j]? = some x->aT h (cv i j) x)
      (ho:∀ (i:Nat) (row:List D) (j:Nat) (x:D),rows[i]? = some row->row[j]? = some x->(cv i j).oneCell' = true):aT h (.slice (some ⟨b,off,none⟩) n c) (.sl rows)
  | agg (arr:Array Value) (cs:List D) (hl:arr.size = cs.length) (hr:∀ (j:Nat) (x:D),cs[j]? = some x->aT h (arr.getD j undef) x)
      (ho:∀ (j:Nat) (x:D),cs[j]? = some x->(arr.getD j undef).oneCell' = true):aT h (.agg arr) (.agg cs)
  | tup (arr:Array Value) (vs:List D) (hl:arr.size = vs.length) (hr:∀ (j:Nat) (x:D),vs[j]? = some x->aT h (arr.getD j undef) x) (hn:∀ (j:Nat) (x:D),vs[j]? = some x->x.noTup = true):aT h (.tuple arr) (.tup vs)
  | ptr (b o off n:Nat) (row:List D) (cv:Nat->Value) (hn:n = o + off)
      (hm:∀ (j:Nat) (x:D),row[j]? = some x->h.cell b (o + j) = some (cv j))
      (hr:∀ (j:Nat) (x:D),row[j]? = some x->aT h (cv j) x)
      (ho:∀ (j:Nat) (x:D),row[j]? = some x->(cv j).oneCell' = true):aT h (.pointer (some ⟨b,n,none⟩)) (.ptr row off)
  | mp0:aT h (.map none) (.mp 2 [])
  | mp (g ek:Nat) (m:List (Int × ML)) (hm:oY (h g) ek m):aT h (.map (some g)) (.mp ek m)
theorem oY.le {h k:Hp} (l:h.le k) {g ek:Nat} {m:List (Int × ML)} (hm:oY (h g) ek m):oY (k g) ek m:=by
  exact hm.of fun x hx=>l g x hx
theorem aT.mono {h k:Hp} (l:h.le k) {v:Value} {x:D} (r:aT h v x):aT k v x:=by
  induction r with
  | int=>exact .int _ _
  | bool=>exact .bool _
  | str s hs=>exact .str s hs
  | np=>exact .np
  | fn f arr cs hl hr ih=>exact .fn f arr cs hl ih
  | sl0 a c h0=>exact .sl0 a c h0
  | sl b off c kk n rows cv hn hc hk hm hr ho ih=>exact .sl b off c kk n rows cv hn hc hk (fun i row j x h1 h2=>Hp.cell_le l (hm i row j x h1 h2)) ih ho
  | agg arr cs hl hr ho ih=>exact .agg arr cs hl ih ho
  | tup arr vs hl hr hn ih=>exact .tup arr vs hl ih hn
  | ptr b o off n row cv hn hm hr ho ih=>exact .ptr b o off n row cv hn (fun j x h1=>Hp.cell_le l (hm j x h1)) ih ho
  | mp0=>exact .mp0
  | mp g ek m hm=>exact .mp g ek m (hm.le l)
def D.atom:D->Bool
  | .agg _ | .tup _=>false
  | _=>true
theorem aT.one {h:Hp} {v:Value} {x:D} (r:aT h v x) (hx:x.atom = true):v.oneCell' = true:=by
  cases r <;> first | rfl | simp [D.atom] at hx
def fL:Value->Option Nat
  | .pointer (some a)=>some a.block
  | .slice (some a) _ _=>some a.block
  | .map (some g)=>some g
  | _=>none
def aI.ver? : aI->Option Nat
  | .rows v _ _ _=>some v
  | .froz v _=>some v
  | .box _=>none
  | .fbox _=>none
  | .outer _=>none
  | .mp _ _=>none
  | .fmp _ _=>none
def aI.isMp:aI->Bool
  | .mp _ _ | .fmp _ _=>true
  | _=>false
def aI.isBox:aI->Bool
  | .box _ | .fbox _=>true
  | _=>false
def RC (hd:Nat->Value) (bl:Nat->Option aI) (v:Value):V->Prop
  | .ptr id off=>(∃ b,bl id = some b ∧ b.isBox = true) ∧ ∃ g,hd id = .pointer (some ⟨g,0,none⟩) ∧ v = .pointer (some ⟨g,off,none⟩)
  | _=>False
def R1 (h:Hp) (hd:Nat->Value) (bl:Nat->Option aI) (v:Value):V->Prop
  | .any=>True
  | .d x=>x.atom = true ∧ aT h v x
  | .nil=>v = .slice none 0 0
  | .ptr id off=>(∃ b,bl id = some b ∧ b.isBox = true) ∧ ∃ g,hd id = .pointer (some ⟨g,0,none⟩) ∧ v = .pointer (some ⟨g,off,none⟩)
  | .own id ver=>∃ b c,bl id = some b ∧ b.ver? = some c ∧ ver <= c ∧ v.oneCell' = true ∧ (ver = c->v = hd id)
  | .orow id ver i off=>∃ b c,bl id = some b ∧ b.ver? = some c ∧ ver <= c ∧ v.oneCell' = true ∧ ∀ e size rows,b = .rows ver e size rows->∃ g b n c,hd id = .slice (some ⟨g,b,none⟩) n c ∧ v = .pointer (some ⟨g,b + (i * size + off),none⟩)
  | .fn f caps=>∃ arr:Array Value,v = .func (.func f) #[] arr ∧ arr.size = caps.length ∧ ∀ j x,caps[j]? = some x->RC hd bl (arr.getD j undef) x
  | .mp id=>(∃ b,bl id = some b ∧ b.isMp = true) ∧ v = hd id ∧ ∃ g,hd id = .map (some g)
  | .agg _ | .tup _=>False
def R2 (h:Hp) (hd:Nat->Value) (bl:Nat->Option aI) (v:Value):V->Prop
  | .agg cs=>∃ arr,v = .agg arr ∧ arr.size = cs.length ∧ ∀ j x,cs[j]? = some x->R1 h hd bl (arr.getD j undef) x ∧ (arr.getD j undef).oneCell' = true
  | x=>R1 h hd bl v x
def R3 (h:Hp) (hd:Nat->Value) (bl:Nat->Option aI) (v:Value):V->Prop
  | .tup vs=>∃ arr,v = .tuple arr ∧ arr.size = vs.length ∧ ∀ j x,vs[j]? = some x->R2 h hd bl (arr.getD j undef) x
  | x=>R2 h hd bl v x
def i5 (w:World) (e size:Nat) (v:Value) (n:Nat) (xs:List Value):Prop:=xs.length = n * size ∧
  ((v = .slice none 0 0 ∧ n = 0) ∨ ∃ g o cap cur,v = .slice (some ⟨g,o * size,none⟩) n cap ∧ w.heap[g]? = some (.cells cur e (0,0)) ∧ n <= cap ∧ cap <= maxLen ∧ (o + cap) * size <= cur.size ∧ (cur.toList.drop (o * size)).take (n * size) = xs)
theorem xL {w:World} {base e size n:Nat} {v:Value} {xs:List Value} (h:w.ownsRow base e size v n xs):i5 w e size v n xs:=by
  refine ⟨h.1,?_⟩
  rcases h.2 with q | ⟨g,cap,cur,q1,q2,q3,q4,q5,q6,q7⟩
  · exact .inl q
  · exact .inr ⟨g,0,cap,cur,by simpa using q1,q3,q4,q5,by simp [q6],by simpa using q7⟩
theorem i5.lt {w:World} {e size n:Nat} {v:Value} {xs:List Value} (h:i5 w e size v n xs):∀ g,fL v = some g->g < w.heap.size:=by
  intro g hg
  rcases h.2 with ⟨rfl,_⟩ | ⟨g',o,cap,cur,rfl,q,_⟩
  · cases hg
  · cases hg; exact (Array.getElem?_eq_some_iff.1 q).1
theorem i5.one {w:World} {e size n:Nat} {v:Value} {xs:List Value} (h:i5 w e size v n xs):v.oneCell' = true:=by
  rcases h.2 with ⟨rfl,_⟩ | ⟨g',o,cap,cur,rfl,q,_⟩ <;> rfl
theorem i5.num {w:World} {e size n:Nat} {v:Value} {xs:List Value} (h:i5 w e size v n xs):fL v = v.ownBlock:=by
  rcases h.2 with ⟨rfl,_⟩ | ⟨g',o,cap,cur,rfl,q,_⟩ <;> rfl
theorem i5.cells {w:World} {e size n:Nat} {v:Value} {xs:List Value} (h:i5 w e size v n xs) {g b m c:Nat} (hv:v = .slice (some ⟨g,b,none⟩) m c):∀ (j:Nat) (u:Value),xs[j]? = some u->w.cell? ⟨g,b + j,none⟩ = some u:=by
  intro j u hj
  rcases h.2 with ⟨rfl,_⟩ | ⟨g',o,cap,cur,rfl,q,q1,q2,q3,q4⟩
  · cases hv
  · cases hv
    rw [← q4,List.getElem?_take] at hj
    split at hj
    · rw [List.getElem?_drop] at hj
      have:cur[o * size + j]? = some u:=by simpa using hj
      simp [World.cell?,q,this]
    · cases hj
def iI (h:Hp) (size:Nat) (rows:List (List D)) (xs:List Value):Prop :=
  ∀ i row,rows[i]? = some row->row.length = size ∧ ∀ j x,row[j]? = some x->x.atom = true ∧ ∃ u,xs[i * size + j]? = some u ∧ aT h u x
def BR (base:b7) (w:World) (h:Hp) (hd:Nat->Value) (bl:Nat->Option aI) (id:Nat):aI->Prop
  | .box cs=>∃ g arr e,hd id = .pointer (some ⟨g,0,none⟩) ∧ base.own g ∧ w.heap[g]? = some (.cells arr e (0,0)) ∧ arr.size = cs.length ∧
      (∀ j x,cs[j]? = some x->R1 h hd bl (arr.getD j undef) x ∧ (arr.getD j undef).oneCell' = true) ∧ h g = none
  | .rows ver e size rows=>0 < size ∧ rows.length <= maxLen ∧ (∃ xs,i5 w e size (hd id) rows.length xs ∧ iI h size rows xs) ∧ ∀ g,fL (hd id) = some g->h g = none ∧ base.own g
  | .froz ver rows=>aT h (hd id) (.sl rows)
  | .fbox cs=>aT h (hd id) (.ptr cs 0)
  | .outer cs=>∀ j x,cs[j]? = some x->R3 h hd bl (base.O id j) x
  | .mp ek m=>∃ g,hd id = .map (some g) ∧ base.own g ∧ oY w.heap[g]? ek m ∧ h g = none
  | .fmp ek m=>aT h (hd id) (.mp ek m)
def aI.live:aI->Bool
  | .fmp _ _=>false
  | .froz _ _=>false
  | .fbox _=>false
  | .outer _=>false
  | _=>true
structure Rl (nt:Nat) (w0:b7) (h0:Hp) (fr:Nat->V) (bl:Nat->Option aI) (a:Act) (w:World) (h:Hp) (hd:Nat->Value):Prop where
  tmps:a.tmps.size = nt
  defers:a.defers = w0.M
  fixed:∀ t v,w0.F t = some v->a.tmps.getD t undef = v
  below:AC w0 w0.toWorld w
  hle:h.le (hw w)
  h0le:h0.le h
  hbase:∀ b,¬ w0.own b->h b = h0 b
  frame:∀ t,R3 h hd bl (a.tmps.getD t undef) (fr t)
  blk:∀ id b,bl id = some b->BR w0 w h hd bl id b
  sep:∀ i j bi bj g,bl i = some bi->bl j = some bj->bi.live = true->bj.live = true->fL (hd i) = some g->fL (hd j) = some g->i = j
def wT (hd hd' : Nat->Value) (id:Nat):aI->aI->Prop
  | .box _,.box _=>hd' id = hd id
  | .box _,.fbox _=>hd' id = hd id
  | .fbox _,.fbox _=>hd' id = hd id
  | .rows v e s _,.rows v' e' s' _=>(v' = v ∧ e' = e ∧ s' = s ∧ hd' id = hd id) ∨ v < v'
  | .rows v _ _ _,.froz v' _=>v' = v ∧ hd' id = hd id
  | .froz v _,.froz v' _=>v' = v ∧ hd' id = hd id
  | .outer _,.outer _=>True
  | .mp e _,.mp e' _=>e' = e ∧ hd' id = hd id
  | .mp e _,.fmp e' _=>e' = e ∧ hd' id = hd id
  | .fmp e _,.fmp e' _=>e' = e ∧ hd' id = hd id
  | _,_=>False
def Kp (hd hd' : Nat->Value) (bl bl' : Nat->Option aI):Prop:=∀ id b,bl id = some b->∃ b',bl' id = some b' ∧ wT hd hd' id b b'
theorem wT.refl (hd:Nat->Value) (id:Nat) (b:aI):wT hd hd id b b:=by cases b <;> simp [wT]
theorem Kp.refl (hd:Nat->Value) (bl:Nat->Option aI):Kp hd hd bl bl:=fun id b h=>⟨b,h,wT.refl hd id b⟩
section
variable {h h' : Hp} {hd hd' : Nat->Value} {bl bl' : Nat->Option aI} {v:Value}
theorem RC.keep (k:Kp hd hd' bl bl') {v:Value}:∀ {x:V},RC hd bl v x->RC hd' bl' v x:=by
  intro x r
  cases x with
  | ptr id off =>
    obtain ⟨⟨b,hb,hx⟩,g,hg,e⟩:=r
    obtain ⟨b',hb',kk⟩:=k _ _ hb
    cases b <;> cases b' <;> simp only [wT] at kk <;> first | (simp [aI.isBox] at hx; done) | exact ⟨⟨_,hb',rfl⟩,g,kk.trans hg,e⟩
  | _=>exact r.elim
theorem R1.keep (l:h.le h') (k:Kp hd hd' bl bl'):∀ {x:V},R1 h hd bl v x->R1 h' hd' bl' v x:=by
  intro x r
  cases x with
  | any=>trivial
  | d x=>exact ⟨r.1,r.2.mono l⟩
  | nil=>exact r
  | agg cs=>exact r
  | tup cs=>exact r
  | ptr id off =>
    obtain ⟨⟨b,hb,hx⟩,g,hg,e⟩:=r
    obtain ⟨b',hb',kk⟩:=k _ _ hb
    cases b <;> cases b' <;> simp only [wT] at kk <;> first | (simp [aI.isBox] at hx; done) | exact ⟨⟨_,hb',rfl⟩,g,kk.trans hg,e⟩
  | own id ver =>
    obtain ⟨b,c,hb,hc,hle,h1,he⟩:=r
    obtain ⟨b',hb',kk⟩:=k _ _ hb
    cases b <;> cases b' <;> simp only [wT] at kk <;> simp only [aI.ver?,Option.some.injEq,reduceCtorEq] at hc
    · rcases kk with ⟨rfl,_,_,kk⟩ | kk
      · exact ⟨_,_,hb',rfl,by omega,h1,fun e=>(he (by omega)).trans kk.symm⟩
      · exact ⟨_,_,hb',rfl,by omega,h1,fun e=>by omega⟩
    · obtain ⟨rfl,kk⟩:=kk
      exact ⟨_,_,hb',rfl,by omega,h1,fun e=>(he (by omega)).trans kk.symm⟩
    · obtain ⟨rfl,kk⟩:=kk
      exact ⟨_,_,hb',rfl,by omega,h1,fun e=>(he (by omega)).trans kk.symm⟩
  | orow id ver i off =>
    obtain ⟨b,c,hb,hc,hle,h1,he⟩:=r
    obtain ⟨b',hb',kk⟩:=k _ _ hb
    cases b <;> cases b' <;> simp only [wT] at kk <;> simp only [aI.ver?,Option.some.injEq,reduceCtorEq] at hc
    · rcases kk with ⟨rfl,rfl,rfl,kk⟩ | kk
      · refine ⟨_,_,hb',rfl,by omega,h1,fun e s rows eq=>?_⟩
        cases eq
        rw [kk]
        exact he _ _ _ rfl
      · exact ⟨_,_,hb',rfl,by omega,h1,fun e s rows eq=>by cases eq; omega⟩
    · exact ⟨_,_,hb',rfl,by omega,h1,fun e s rows eq=>by cases eq⟩
    · exact ⟨_,_,hb',rfl,by omega,h1,fun e s rows eq=>by cases eq⟩
  | fn f caps =>
    obtain ⟨arr,e,hs,hr⟩:=r
    exact ⟨arr,e,hs,fun j x hx=>(hr j x hx).keep k⟩
  | mp id =>
    obtain ⟨⟨b,hb,hx⟩,e,g,hg⟩:=r
    obtain ⟨b',hb',kk⟩:=k _ _ hb
    cases b <;> cases b' <;> simp only [wT] at kk <;> first | (simp [aI.isMp] at hx; done) | exact ⟨⟨_,hb',rfl⟩,e.trans kk.2.symm,g,kk.2.trans hg⟩
theorem R1.one {x:V} (r:R1 h hd bl v x) (hx:x ≠ .any):v.oneCell' = true:=by
  cases x with
  | any=>exact absurd rfl hx
  | d x=>exact r.2.one r.1
  | nil=>rw [show v = _ from r]; rfl
  | agg cs=>exact r.elim
  | tup cs=>exact r.elim
  | ptr id off=>obtain ⟨_,g,_,rfl⟩:=r; rfl
  | own id ver=>obtain ⟨b,c,hb,hc,hle,h1,he⟩:=r; exact h1
  | orow id ver i off=>obtain ⟨b,c,hb,hc,hle,h1,he⟩:=r; exact h1
  | fn f caps=>obtain ⟨arr,rfl,_⟩:=r; rfl
  | mp id=>obtain ⟨_,rfl,g,hg⟩:=r; rw [hg]; rfl
theorem R2.of1 {x:V} (r:R1 h hd bl v x):R2 h hd bl v x:=by
  cases x <;> first | exact r | exact r.elim
theorem R3.of2 {x:V} (r:R2 h hd bl v x):R3 h hd bl v x:=by
  cases x <;> first | exact r | exact r.elim
theorem R2.keep (l:h.le h') (k:Kp hd hd' bl bl'):∀ {x:V},R2 h hd bl v x->R2 h' hd' bl' v x:=by
  intro x r
  cases x with
  | agg cs =>
    obtain ⟨arr,e,hs,hr⟩:=r
    exact ⟨arr,e,hs,fun j x hx=>⟨(hr j x hx).1.keep l k,(hr j x hx).2⟩⟩
  | _=>exact R2.of1 (R1.keep l k r)
theorem R3.keep (l:h.le h') (k:Kp hd hd' bl bl'):∀ {x:V},R3 h hd bl v x->R3 h' hd' bl' v x:=by
  intro x r
  cases x with
  | tup cs =>
    obtain ⟨arr,e,hs,hr⟩:=r
    exact ⟨arr,e,hs,fun j x hx=>(hr j x hx).keep l k⟩
  | _=>exact R3.of2 (R2.keep l k r)
theorem iI.mono {size:Nat} {rows:List (List D)} {xs:List Value} (l:h.le h') (r:iI h size rows xs):iI h' size rows xs:=fun i row hi =>
  ⟨(r i row hi).1,fun j x hx=>⟨((r i row hi).2 j x hx).1,by obtain ⟨u,h1,h2⟩:=((r i row hi).2 j x hx).2; exact ⟨u,h1,h2.mono l⟩⟩⟩
end
theorem ES {base:Nat} {w:World} {e size n:Nat} {v:Value} {xs:List Value} (h:w.ownsRow base e size v n xs):fL v = v.ownBlock:=by
  rcases h.2 with ⟨rfl,_⟩ | ⟨g,cap,cur,rfl,_⟩ <;> rfl
theorem BR.keep {base:b7} {w w' : World} {h h' : Hp} {hd hd' : Nat->Value} {bl bl' : Nat->Option aI} {id:Nat} {b:aI} (l:h.le h') (k:Kp hd hd' bl bl')
    (hh:hd' id = hd id) (hw:b.live = true->∀ g,fL (hd id) = some g->w'.heap[g]? = w.heap[g]? ∧ (h g = none->h' g = none)) (r:BR base w h hd bl id b):BR base w' h' hd' bl' id b:=by
  cases b with
  | box cs =>
    obtain ⟨g,arr,e,h1,h2,h3,h4,h5,h6⟩:=r
    obtain ⟨q1,q2⟩:=hw rfl g (by rw [h1]; rfl)
    exact ⟨g,arr,e,hh.trans h1,h2,q1.trans h3,h4,fun j x hx=>⟨(h5 j x hx).1.keep l k,(h5 j x hx).2⟩,q2 h6⟩
  | rows ver e size rows =>
    obtain ⟨h1,h2,⟨xs,h3,h4⟩,h5⟩:=r
    refine ⟨h1,h2,⟨xs,?_,h4.mono l⟩,fun g hg=>⟨(hw rfl g (hh ▸ hg)).2 (h5 g (hh ▸ hg)).1,(h5 g (hh ▸ hg)).2⟩⟩
    rw [hh]
    refine ⟨h3.1,?_⟩
    rcases h3.2 with q | ⟨g,o,cap,cur,q1,q3,q4⟩
    · exact .inl q
    · exact .inr ⟨g,o,cap,cur,q1,((hw rfl g (by rw [q1]; rfl)).1).trans q3,q4⟩
  | froz ver rows =>
    show aT h' (hd' id) (.sl rows)
    rw [hh]
    exact aT.mono l r
  | fbox cs =>
    show aT h' (hd' id) (.ptr cs 0)
    rw [hh]
    exact aT.mono l r
  | outer cs=>exact fun j x hx=>R3.keep l k (r j x hx)
  | mp ek m =>
    obtain ⟨g,h1,h2,h3,h4⟩:=r
    obtain ⟨q1,q2⟩:=hw rfl g (by rw [h1]; rfl)
    exact ⟨g,hh.trans h1,h2,by rw [q1]; exact h3,q2 h4⟩
  | fmp ek m =>
    show aT h' (hd' id) (.mp ek m)
    rw [hh]
    exact aT.mono l r
theorem BR.num {base:b7} {w:World} {h:Hp} {hd:Nat->Value} {bl:Nat->Option aI} {id:Nat} {b:aI} (hb:b.live = true) (r:BR base w h hd bl id b) {g:Nat} (hg:fL (hd id) = some g) :
    base.own g ∧ g < w.heap.size ∧ h g = none:=by
  cases b with
  | box cs =>
    obtain ⟨g',arr,e,h1,h2,h3,h4,h5,h6⟩:=r
    rw [h1] at hg
    obtain rfl:=Option.some.inj hg
    exact ⟨h2,(Array.getElem?_eq_some_iff.1 h3).1,h6⟩
  | rows ver e size rows =>
    obtain ⟨h1,h2,⟨xs,h3,h4⟩,h5⟩:=r
    have:=h3.lt g hg
    exact ⟨(h5 g hg).2,this,(h5 g hg).1⟩
  | froz ver rows=>simp [aI.live] at hb
  | fbox cs=>simp [aI.live] at hb
  | outer cs=>simp [aI.live] at hb
  | mp ek m =>
    obtain ⟨g',h1,h2,h3,h4⟩:=r
    rw [h1] at hg
    obtain rfl:=Option.some.inj hg
    obtain ⟨es,clock,h5⟩:=h3.obj
    exact ⟨h2,(Array.getElem?_eq_some_iff.1 h5).1,h4⟩
  | fmp ek m=>simp [aI.live] at hb
end Vm
end Go.Proofs.Ytgjcnbgfaimepaa
namespace Go.Proofs.Ytgjcnbgfaimepaa
namespace Vm
open Go.RowKit
theorem bJ {α β:Type} {f:α->Option β}:∀ {l:List α} {ys:List β},aK f l = some ys->l.length = ys.length ∧ ∀ (i:Nat) (x:α),l[i]? = some x->∃ y,ys[i]? = some y ∧ f x = some y
  | [],ys,h=>by simp [aK] at h; subst h; simp
  | x :: r,ys,h=>by
    simp only [aK] at h
    split at h
    · cases h
    · rename_i y hy
      split at h
      · cases h
      · rename_i zs hz
        cases h
        obtain ⟨h1,h2⟩:=bJ hz
        refine ⟨by simp [h1],fun i x' hx=>?_⟩
        cases i with
        | zero=>simp at hx; subst hx; exact ⟨y,by simp,hy⟩
        | succ i=>simpa using h2 i x' (by simpa using hx)
theorem bY {α β:Type} {f:α->Option β} {l:List α} {ys:List β} (h:aK f l = some ys) {i:Nat} {y:β} (hy:ys[i]? = some y):∃ x,l[i]? = some x ∧ f x = some y:=by
  obtain ⟨h1,h2⟩:=bJ h
  have:i < l.length:=by rw [h1]; exact (List.getElem?_eq_some_iff.1 hy).1
  obtain ⟨y',q1,q2⟩:=h2 i l[i] (by simp [this])
  rw [hy] at q1
  cases q1
  exact ⟨l[i],by simp [this],q2⟩
def eN (fr:Nat->V) (dst:Option Nat) (v:V):Nat->V:=fun t=>if dst = some t then v else fr t
def bP (bl:Nat->Option aI) (wr:List (Nat × Option aI)):Nat->Option aI:=fun id=>lk wr (bl id) id
theorem T0 (bl:Nat->Option aI) (i:Nat) (b:Option aI) (wr:List (Nat × Option aI)):bP bl ((i,b) :: wr) = bP (bP bl wr) [(i,b)]:=by
  funext id; simp [bP,lk]
theorem m7 (bl:Nat->Option aI) (i:Nat) (b:Option aI):bP bl [(i,b)] i = b:=by simp [bP,lk]
theorem wH (bl:Nat->Option aI) {i j:Nat} (b:Option aI) (h:j ≠ i):bP bl [(i,b)] j = bl j:=by simp [bP,lk,h]
theorem HW (a:Act) (dst:Option Nat) (cv:Value) (t nt:Nat) (hs:a.tmps.size = nt) (hd:∀ d,dst = some d->d < nt) :
    (a.put dst cv).tmps.getD t undef = if dst = some t then cv else a.tmps.getD t undef:=by
  cases dst with
  | none=>simp [Act.put]
  | some d =>
    have:=hd d rfl
    simp only [Act.put,Option.some.injEq]
    by_cases e:d = t
    · subst e; simp [hs,this]
    · simp [e,Array.getElem?_setIfInBounds_ne e]
section
variable {nt:Nat} {w0:b7} {w w' : World} {h0 h h' : Hp} {fr:Nat->V} {bl bl' : Nat->Option aI} {a:Act} {hd hd' : Nat->Value}
theorem Rl.put (r:Rl nt w0 h0 fr bl a w h hd) (dst:Option Nat) (cv:Value) (v:V) (hdst:EB nt w0 dst)
    (hl:h.le h') (hle:h'.le (hw w')) (hb:∀ b,¬ w0.own b->h' b = h b) (hbel:AC w0 w w') (hk:Kp hd hd' bl bl')
    (hB:∀ id b,bl' id = some b->BR w0 w' h' hd' bl' id b)
    (hsep:∀ i j bi bj g,bl' i = some bi->bl' j = some bj->bi.live = true->bj.live = true->fL (hd' i) = some g->fL (hd' j) = some g->i = j)
    (hv:R3 h' hd' bl' cv v):Rl nt w0 h0 (eN fr dst v) bl' (a.put dst cv) w' h' hd' where
  tmps:=by cases dst <;> simp [Act.put,r.tmps]
  defers:=by cases dst <;> simp [Act.put,r.defers]
  fixed:=fun t u hF=>by
    rw [HW a dst cv t nt r.tmps fun d e=>(hdst d e).1]
    by_cases e:dst = some t
    · rw [(hdst t e).2] at hF; cases hF
    · rw [if_neg e]; exact r.fixed t u hF
  below:=r.below.trans hbel
  hle:=hle
  h0le:=r.h0le.trans hl
  hbase:=fun b h=>(hb b h).trans (r.hbase b h)
  frame:=fun t=>by
    rw [HW a dst cv t nt r.tmps fun d e=>(hdst d e).1]
    unfold eN
    by_cases e:dst = some t
    · rw [if_pos e,if_pos e]; exact hv
    · rw [if_neg e,if_neg e]; exact (r.frame t).keep hl hk
  blk:=hB
  sep:=hsep
theorem Rl.put0 (r:Rl nt w0 h0 fr bl a w h hd) (dst:Option Nat) (cv:Value) (v:V) (hdst:EB nt w0 dst) (hv:R3 h hd bl cv v) :
    Rl nt w0 h0 (eN fr dst v) bl (a.put dst cv) w h hd :=
  r.put dst cv v hdst (Hp.le.refl _) r.hle (fun _ _=>rfl) (AC.refl _ _) (Kp.refl _ _) r.blk r.sep hv
theorem Rl.turn (r:Rl nt w0 h0 fr bl a w h hd) (dst:Option Nat) (cv:Value) (v:V) (hdst:EB nt w0 dst)
    (id:Nat) (b:aI) (hv' : Value) (hbel:AC w0 w w') (hle:h.le (hw w'))
    (hk:∀ b0,bl id = some b0->wT hd (fun i=>if i = id then hv' else hd i) id b0 b)
    (hoth:∀ g,g < w.heap.size->(∀ b0,bl id = some b0->b0.live = true->fL (hd id) ≠ some g)->w'.heap[g]? = w.heap[g]?)
    (hB:BR w0 w' h (fun i=>if i = id then hv' else hd i) (bP bl [(id,some b)]) id b)
    (hnew:∀ g,fL hv' = some g->b.live = true->w.heap.size <= g ∨ ∃ b0,bl id = some b0 ∧ b0.live = true ∧ fL (hd id) = some g)
    (hvv:R3 h (fun i=>if i = id then hv' else hd i) (bP bl [(id,some b)]) cv v) :
    Rl nt w0 h0 (eN fr dst v) (bP bl [(id,some b)]) (a.put dst cv) w' h (fun i=>if i = id then hv' else hd i):=by
  have hkp:Kp hd (fun i=>if i = id then hv' else hd i) bl (bP bl [(id,some b)]):=by
    intro j c hj
    by_cases e:j = id
    · subst e; exact ⟨b,m7 _ _ _,hk c hj⟩
    · refine ⟨c,by rw [wH _ _ e]; exact hj,?_⟩
      have:=wT.refl hd j c
      cases c <;> simp only [wT] at this ⊢ <;> simp [e]
  refine r.put dst cv v hdst (Hp.le.refl _) hle (fun _ _=>rfl) hbel hkp ?_ ?_ hvv
  · intro j c hj
    by_cases e:j = id
    · subst e
      rw [m7] at hj
      obtain rfl:=Option.some.inj hj
      exact hB
    · rw [wH _ _ e] at hj
      refine (r.blk j c hj).keep (Hp.le.refl _) hkp (by simp [e]) fun hl g hg=>⟨?_,fun q=>q⟩
      refine hoth g ((r.blk j c hj).num hl hg).2.1 fun b0 hb0 hl0 hg0=>e (r.sep j id c b0 g hj hb0 hl hl0 hg hg0)
  · intro i j bi bj g hi hj li lj gi gj
    by_cases ei:i = id
    · subst ei
      by_cases ej:j = i
      · exact ej.symm
      · rw [wH _ _ ej] at hj
        rw [m7] at hi
        obtain rfl:=Option.some.inj hi
        simp only [if_pos] at gi
        rw [if_neg ej] at gj
        exfalso
        rcases hnew g gi li with q | ⟨b0,q1,q2,q3⟩
        · have:=((r.blk j bj hj).num lj gj).2.1; omega
        · exact ej (r.sep j i bj b0 g hj q1 lj q2 gj q3)
    · rw [wH _ _ ei] at hi
      rw [if_neg ei] at gi
      by_cases ej:j = id
      · subst ej
        rw [m7] at hj
        obtain rfl:=Option.some.inj hj
        simp only [if_pos] at gj
        exfalso
        rcases hnew g gj lj with q | ⟨b0,q1,q2,q3⟩
        · have:=((r.blk i bi hi).num li gi).2.1; omega
        · exact ei (r.sep i j bi b0 g hi q1 li q2 gi q3)
      · rw [wH _ _ ej] at hj
        rw [if_neg ej] at gj
        exact r.sep i j bi bj g hi hj li lj gi gj
theorem TU (hle:h.le (hw w)) (o:Obj):h.le (hw (w.alloc o)):=fun b x e=>by
  have:=hle b x e
  have hlt:b < w.heap.size:=(Array.getElem?_eq_some_iff.1 this).1
  exact (heap_alloc_old w o b hlt).trans this
theorem JB (hle:h.le (hw w)) {g:Nat} (hg:w.heap.size <= g):h g = none:=by
  cases e:h g with
  | none=>rfl
  | some o=>exact absurd (Array.getElem?_eq_some_iff.1 (hle g o e)).1 (by omega)
theorem aDS {base e size n:Nat} {v:Value} {xs:List Value} (h:w.ownsRow base e size v n xs):v.oneCell' = true:=by
  rcases h.2 with ⟨rfl,_⟩ | ⟨g,cap,cur,rfl,_⟩ <;> rfl
theorem Rl.newBox (r:Rl nt w0 h0 fr bl a w h hd) (dst:Option Nat) (hdst:EB nt w0 dst) (site:Nat) (hs:bl site = none) (arr:Array Value) (e:TypeId) (cs:List V)
    (hl:arr.size = cs.length) (hr:∀ j x,cs[j]? = some x->R1 h hd bl (arr.getD j undef) x ∧ (arr.getD j undef).oneCell' = true) :
    ∃ hd',Rl nt w0 h0 (eN fr dst (.ptr site 0)) (bP bl [(site,some (.box cs))]) (a.put dst (.pointer (some ⟨w.heap.size,0,none⟩))) (w.alloc (.cells arr e)) h hd':=by
  have hbase:w0.heap.size <= w.heap.size:=r.below.size
  have hkp:Kp hd (fun i=>if i = site then .pointer (some ⟨w.heap.size,0,none⟩) else hd i) bl (bP bl [(site,some (.box cs))]):=by
    intro j c hj
    have e:j ≠ site:=fun e=>by rw [e,hs] at hj; cases hj
    refine ⟨c,by rw [wH _ _ e]; exact hj,?_⟩
    have:=wT.refl hd j c
    cases c <;> simp only [wT] at this ⊢ <;> simp [e]
  refine ⟨_,r.turn dst _ _ hdst site (.box cs) (.pointer (some ⟨w.heap.size,0,none⟩)) (AC.alloc hbase _) (TU r.hle _)
    (fun b0 hb0=>by rw [hs] at hb0; cases hb0) (fun g hg _=>heap_alloc_old w _ g hg) ?_ (fun g hg _=>.inl (by simp [fL] at hg; omega)) ?_⟩
  · exact ⟨w.heap.size,arr,e,by simp,.inl hbase,heap_alloc_new w _,hl,fun j x hx=>⟨(hr j x hx).1.keep (Hp.le.refl _) hkp,(hr j x hx).2⟩,JB r.hle (Nat.le_refl _)⟩
  · exact ⟨⟨_,m7 _ _ _,rfl⟩,w.heap.size,by simp,rfl⟩
theorem Rl.newRows' (r:Rl nt w0 h0 fr bl a w h hd) (dst:Option Nat) (hdst:EB nt w0 dst) (site:Nat) (hs:bl site = none) (e size:Nat) (rows:List (List D)) (hv:Value) (xs:List Value)
    (hsz:0 < size) (hlen:rows.length <= maxLen) (hg:w.grownBy w' none) (hown:w'.ownsRow w.heap.size e size hv rows.length xs) (hin:iI h size rows xs) :
    ∃ hd' : Nat->Value,hd' site = hv ∧ Rl nt w0 h0 (eN fr dst (.own site 0)) (bP bl [(site,some (.rows 0 e size rows))]) (a.put dst hv) w' h hd':=by
  have hbase:w0.heap.size <= w.heap.size:=r.below.size
  have hown':=xL hown
  have hbel:AC w0 w w':=AC.grown hg hbase (fun k hk=>by cases hk)
  have hle:h.le (hw w'):=fun b o hb=>by
    have:=r.hle b o hb
    exact (hg.block b (Array.getElem?_eq_some_iff.1 this).1 (by simp)).trans this
  refine ⟨_,by simp,r.turn dst _ _ hdst site (.rows 0 e size rows) hv hbel hle
    (fun b0 hb0=>by rw [hs] at hb0; cases hb0) (fun g hg' _=>hg.block g hg' (by simp)) ?_ (fun g hg' _=>.inl (hown.lt g ((ES hown) ▸ hg')).1) ?_⟩
  · exact ⟨hsz,hlen,⟨xs,by simpa using hown',hin⟩,fun g hg'=>⟨JB r.hle (hown.lt g ((ES hown) ▸ (by simpa using hg'))).1,.inl (Nat.le_trans hbase (hown.lt g ((ES hown) ▸ (by simpa using hg'))).1)⟩⟩
  · exact ⟨_,0,m7 _ _ _,rfl,Nat.le_refl _,aDS hown,fun _=>by simp⟩
theorem Rl.newRows (r:Rl nt w0 h0 fr bl a w h hd) (dst:Option Nat) (hdst:EB nt w0 dst) (site:Nat) (hs:bl site = none) (e size:Nat) (rows:List (List D)) (hv:Value) (xs:List Value)
    (hsz:0 < size) (hlen:rows.length <= maxLen) (hg:w.grownBy w' none) (hown:w'.ownsRow w.heap.size e size hv rows.length xs) (hin:iI h size rows xs) :
    ∃ hd',Rl nt w0 h0 (eN fr dst (.own site 0)) (bP bl [(site,some (.rows 0 e size rows))]) (a.put dst hv) w' h hd' :=
  let ⟨hd',_,q⟩:=r.newRows' dst hdst site hs e size rows hv xs hsz hlen hg hown hin
  ⟨hd',q⟩
theorem Rl.grow (r:Rl nt w0 h0 fr bl a w h hd) (dst:Option Nat) (hdst:EB nt w0 dst) (id ver e size:Nat) (rows rows' : List (List D)) (hb:bl id = some (.rows ver e size rows)) (hv:Value) (xs:List Value)
    (hlen:rows'.length <= maxLen) (hg:w.grownBy w' (hd id).ownBlock) (hown:i5 w' e size hv rows'.length xs) (hin:iI h size rows' xs)
    (hnew:∀ g,fL hv = some g->w.heap.size <= g ∨ fL (hd id) = some g) :
    ∃ hd',Rl nt w0 h0 (eN fr dst (.own id (ver + 1))) (bP bl [(id,some (.rows (ver + 1) e size rows'))]) (a.put dst hv) w' h hd':=by
  have hbase:w0.heap.size <= w.heap.size:=r.below.size
  obtain ⟨q1,q2,⟨xs0,q3,q4⟩,q5⟩:=r.blk id _ hb
  have hnum:fL (hd id) = (hd id).ownBlock:=q3.num
  have hbel:AC w0 w w':=AC.grown hg hbase (fun k hk=>(q5 k (hnum.trans hk)).2)
  have hle:h.le (hw w'):=fun b o hb'=>by
    have:=r.hle b o hb'
    refine (hg.block b (Array.getElem?_eq_some_iff.1 this).1 fun e'=>?_).trans this
    rw [(q5 b (hnum.trans e'.symm)).1] at hb'
    cases hb'
  refine ⟨_,r.turn dst _ _ hdst id (.rows (ver + 1) e size rows') hv hbel hle
    (fun b0 hb0=>by rw [hb] at hb0; cases hb0; exact .inr (Nat.lt_succ_self _)) (fun g hg' hne=>hg.block g hg' (fun e'=>hne _ hb rfl (hnum.trans e'.symm))) ?_
    (fun g hg' _=>(hnew g hg').imp (fun q=>q) fun q=>⟨_,hb,rfl,q⟩) ?_⟩
  · refine ⟨q1,hlen,⟨xs,by simpa using hown,hin⟩,fun g hg'=>?_⟩
    simp only [if_pos] at hg'
    rcases hnew g hg' with q | q
    · exact ⟨JB r.hle q,.inl (Nat.le_trans hbase q)⟩
    · exact q5 g q
  · exact ⟨_,ver + 1,m7 _ _ _,rfl,Nat.le_refl _,hown.one,fun _=>by simp⟩
theorem Rl.setBox (r:Rl nt w0 h0 fr bl a w h hd) (dst:Option Nat) (hdst:EB nt w0 dst) (cv:Value) (id:Nat) (cs cs' : List V) (hb:bl id = some (.box cs)) (g:Nat) (arr arr' : Array Value) (e:TypeId)
    (hd0:hd id = .pointer (some ⟨g,0,none⟩)) (hl:arr'.size = cs'.length) (hr:∀ j x,cs'[j]? = some x->R1 h hd bl (arr'.getD j undef) x ∧ (arr'.getD j undef).oneCell' = true)
    (hg' : w'.heap[g]? = some (.cells arr' e (0,0))) (hg:w.grownBy w' (some g)) :
    ∃ hd',Rl nt w0 h0 (eN fr dst .any) (bP bl [(id,some (.box cs'))]) (a.put dst cv) w' h hd':=by
  have hbase:w0.heap.size <= w.heap.size:=r.below.size
  have hnum:fL (hd id) = some g:=by rw [hd0]; rfl
  obtain ⟨n1,n2,n3⟩:=(r.blk id _ hb).num rfl hnum
  have hbel:AC w0 w w':=AC.grown hg hbase (fun k hk=>by cases hk; exact n1)
  have hle:h.le (hw w'):=fun b o hb'=>by
    have:=r.hle b o hb'
    refine (hg.block b (Array.getElem?_eq_some_iff.1 this).1 fun e'=>?_).trans this
    cases e'
    rw [n3] at hb'
    cases hb'
  have hfe:(fun i=>if i = id then hd id else hd i) = hd:=by funext i; by_cases e:i = id <;> simp [e]
  have hkp:Kp hd hd bl (bP bl [(id,some (.box cs'))]):=by
    intro j c hj
    by_cases e:j = id
    · subst e; rw [hb] at hj; cases hj; exact ⟨_,m7 _ _ _,rfl⟩
    · exact ⟨c,by rw [wH _ _ e]; exact hj,wT.refl hd j c⟩
  have:=r.turn (w':=w') dst cv .any hdst id (.box cs') (hd id) hbel hle
    (fun b0 hb0=>by rw [hb] at hb0; cases hb0; simp [wT]) (fun k hk hne=>hg.block k hk (fun e'=>by cases e'; exact hne _ hb rfl hnum)) ?_
    (fun k hk _=>.inr ⟨_,hb,rfl,hk⟩) trivial
  · rw [hfe] at this; exact ⟨_,this⟩
  · rw [hfe]
    exact ⟨g,arr',e,hd0,n1,hg',hl,fun j x hx=>⟨(hr j x hx).1.keep (Hp.le.refl _) hkp,(hr j x hx).2⟩,n3⟩
theorem Rl.setRows (r:Rl nt w0 h0 fr bl a w h hd) (dst:Option Nat) (hdst:EB nt w0 dst) (cv:Value) (id ver e size:Nat) (rows rows' : List (List D)) (hb:bl id = some (.rows ver e size rows)) (xs:List Value)
    (hlen:rows'.length = rows.length) (hg:w.grownBy w' (hd id).ownBlock) (hown:i5 w' e size (hd id) rows'.length xs) (hin:iI h size rows' xs) :
    Rl nt w0 h0 (eN fr dst .any) (bP bl [(id,some (.rows ver e size rows'))]) (a.put dst cv) w' h hd:=by
  have hbase:w0.heap.size <= w.heap.size:=r.below.size
  obtain ⟨q1,q2,⟨xs0,q3,q4⟩,q5⟩:=r.blk id _ hb
  have hnum:fL (hd id) = (hd id).ownBlock:=q3.num
  have hbel:AC w0 w w':=AC.grown hg hbase (fun k hk=>(q5 k (hnum.trans hk)).2)
  have hle:h.le (hw w'):=fun b o hb'=>by
    have:=r.hle b o hb'
    refine (hg.block b (Array.getElem?_eq_some_iff.1 this).1 fun e'=>?_).trans this
    rw [(q5 b (hnum.trans e'.symm)).1] at hb'
    cases hb'
  have hfe:(fun i=>if i = id then hd id else hd i) = hd:=by funext i; by_cases e:i = id <;> simp [e]
  have:=r.turn (w':=w') dst cv .any hdst id (.rows ver e size rows') (hd id) hbel hle
    (fun b0 hb0=>by rw [hb] at hb0; cases hb0; simp [wT]) (fun g hg' hne=>hg.block g hg' (fun e'=>hne _ hb rfl (hnum.trans e'.symm))) ?_
    (fun g hg' _=>.inr ⟨_,hb,rfl,hg'⟩) trivial
  · rw [hfe] at this; exact this
  · rw [hfe]
    exact ⟨q1,by omega,⟨xs,hown,hin⟩,q5⟩
theorem Rl.newMap (r:Rl nt w0 h0 fr bl a w h hd) (dst:Option Nat) (hdst:EB nt w0 dst) (site:Nat) (hs:bl site = none) (ek:Nat) (hk:oY (some (.map #[] 0)) ek []) :
    ∃ hd',Rl nt w0 h0 (eN fr dst (.mp site)) (bP bl [(site,some (.mp ek []))]) (a.put dst (.map (some w.heap.size))) (w.alloc (.map #[] 0)) h hd':=by
  have hbase:w0.heap.size <= w.heap.size:=r.below.size
  refine ⟨_,r.turn dst _ _ hdst site (.mp ek []) (.map (some w.heap.size)) (AC.alloc hbase _) (TU r.hle _)
    (fun b0 hb0=>by rw [hs] at hb0; cases hb0) (fun g hg _=>heap_alloc_old w _ g hg) ?_ (fun g hg _=>.inl (by simp [fL] at hg; omega)) ?_⟩
  · refine ⟨w.heap.size,by simp,.inl hbase,?_,JB r.hle (Nat.le_refl _)⟩
    rw [heap_alloc_new w _]
    exact hk
  · exact ⟨⟨_,m7 _ _ _,rfl⟩,by simp,w.heap.size,by simp⟩
theorem Rl.setMap (r:Rl nt w0 h0 fr bl a w h hd) (dst:Option Nat) (hdst:EB nt w0 dst) (cv:Value) (id ek:Nat) (m m' : List (Int × ML)) (hb:bl id = some (.mp ek m)) (g:Nat)
    (hd0:hd id = .map (some g)) (hm:oY w'.heap[g]? ek m') (hg:w.grownBy w' (some g)) :
    ∃ hd',Rl nt w0 h0 (eN fr dst .any) (bP bl [(id,some (.mp ek m'))]) (a.put dst cv) w' h hd':=by
  have hbase:w0.heap.size <= w.heap.size:=r.below.size
  have hnum:fL (hd id) = some g:=by rw [hd0]; rfl
  obtain ⟨n1,n2,n3⟩:=(r.blk id _ hb).num rfl hnum
  have hbel:AC w0 w w':=AC.grown hg hbase (fun k hk=>by cases hk; exact n1)
  have hle:h.le (hw w'):=fun b o hb'=>by
    have:=r.hle b o hb'
    refine (hg.block b (Array.getElem?_eq_some_iff.1 this).1 fun e'=>?_).trans this
    cases e'
    rw [n3] at hb'
    cases hb'
  have hfe:(fun i=>if i = id then hd id else hd i) = hd:=by funext i; by_cases e:i = id <;> simp [e]
  have:=r.turn (w':=w') dst cv .any hdst id (.mp ek m') (hd id) hbel hle
    (fun b0 hb0=>by rw [hb] at hb0; cases hb0; simp [wT]) (fun k hk hne=>hg.block k hk (fun e'=>by cases e'; exact hne _ hb rfl hnum)) ?_
    (fun k hk _=>.inr ⟨_,hb,rfl,hk⟩) trivial
  · rw [hfe] at this; exact ⟨_,this⟩
  · rw [hfe]
    exact ⟨g,hd0,n1,hm,n3⟩
def uT (bl:Nat->Option aI) (wr:List (Nat × Option aI)):Prop:=∀ p ∈ wr,(∃ v e s rows,bl p.1 = some (.rows v e s rows) ∧ p.2 = some (.froz v rows)) ∨
  (∃ cs ds,bl p.1 = some (.box cs) ∧ p.2 = some (.fbox ds) ∧ aK (rF bl) cs = some ds ∧ ∀ q ∈ cs.flatMap (I2 bl),q ∈ wr) ∨
  ∃ ek m,bl p.1 = some (.mp ek m) ∧ p.2 = some (.fmp ek m)
theorem uT.live {bl:Nat->Option aI} {wr:List (Nat × Option aI)} (hok:uT bl wr) {p:Nat × Option aI} (hp:p ∈ wr):∃ b,bl p.1 = some b ∧ b.live = true:=by
  rcases hok p hp with ⟨v,e,s,rows,h1,_⟩ | ⟨cs,ds,h1,_⟩ | ⟨ek,m,h1,_⟩
  · exact ⟨_,h1,rfl⟩
  · exact ⟨_,h1,rfl⟩
  · exact ⟨_,h1,rfl⟩
theorem M3 {h:Hp} {g off:Nat} {row:List D} (r:aT h (.pointer (some ⟨g,0,none⟩)) (.ptr row 0)):aT h (.pointer (some ⟨g,off,none⟩)) (.ptr row off):=by
  generalize hz:(0:Nat) = z at r
  cases r with
  | ptr b o off' n row cv hn hm hr ho=>exact .ptr g o off off row cv (by omega) hm hr ho
def GO (w:World) (h:Hp) (hd:Nat->Value) (wr:List (Nat × Option aI)):Hp:=fun g=>if wr.any (fun p=>fL (hd p.1) == some g) then w.heap[g]? else h g
theorem yA (r:Rl nt w0 h0 fr bl a w h hd) (wr:List (Nat × Option aI)):h.le (GO w h hd wr):=fun b o e=>by
  unfold GO
  split
  · exact r.hle b o e
  · exact e
theorem LL (r:Rl nt w0 h0 fr bl a w h hd) (wr:List (Nat × Option aI)):(GO w h hd wr).le (hw w):=fun b o e=>by
  unfold GO at e
  split at e
  · exact e
  · exact r.hle b o e
theorem Q4 (r:Rl nt w0 h0 fr bl a w h hd) (wr:List (Nat × Option aI)) (hok:uT bl wr):∀ b,¬ w0.own b->GO w h hd wr b = h b:=fun b hb=>by
  unfold GO
  split
  · rename_i q
    obtain ⟨p,hp,he⟩:=List.any_eq_true.1 q
    obtain ⟨b,h1,h2⟩:=hok.live hp
    exact absurd ((r.blk p.1 _ h1).num h2 (by simpa using he)).1 hb
  · rfl
theorem aFo {e size n:Nat} {v:Value} {xs:List Value} {rows:List (List D)} (hown:i5 w e size v n xs) (hin:iI h size rows xs) (hn:rows.length = n) (hsz:0 < size)
    (l:h.le h') (hb:∀ g,fL v = some g->h' g = w.heap[g]?):aT h' v (.sl rows):=by
  rcases hown.2 with ⟨rfl,h0⟩ | ⟨g,o,cap,cur,rfl,hh,hc,hm,hs,ht⟩
  · obtain rfl:rows = []:=List.eq_nil_of_length_eq_zero (by omega)
    exact .sl0 none 0 (fun _=>rfl)
  · have key:∀ i row j x,rows[i]? = some row->row[j]? = some x->∃ u,cur[o * size + i * size + j]? = some u ∧ aT h u x ∧ x.atom = true:=by
      intro i row j x h1 h2
      obtain ⟨q1,q2⟩:=hin i row h1
      obtain ⟨q3,u,q4,q5⟩:=q2 j x h2
      refine ⟨u,?_,q5,q3⟩
      rw [← ht,List.getElem?_take] at q4
      split at q4
      · rw [List.getElem?_drop,← Nat.add_assoc] at q4
        simpa using q4
      · cases q4
    refine .sl g (o * size) cap size n rows (fun i j=>cur.getD (o * size + i * size + j) undef) hn.symm (by omega) (fun i row h1=>(hin i row h1).1) ?_ ?_ ?_
    · intro i row j x h1 h2
      obtain ⟨u,q1,q2,q3⟩:=key i row j x h1 h2
      have:h' g = w.heap[g]?:=hb g rfl
      simp only [Hp.cell,this,hh,q1]
      simp [q1]
    · intro i row j x h1 h2
      obtain ⟨u,q1,q2,q3⟩:=key i row j x h1 h2
      have:cur.getD (o * size + i * size + j) undef = u:=by simp [q1]
      rw [this]; exact q2.mono l
    · intro i row j x h1 h2
      obtain ⟨u,q1,q2,q3⟩:=key i row j x h1 h2
      have:cur.getD (o * size + i * size + j) undef = u:=by simp [q1]
      rw [this]; exact q2.one q3
theorem ZI (r:Rl nt w0 h0 fr bl a w h hd) (wr:List (Nat × Option aI)) {p:Nat × Option aI} (hp:p ∈ wr) {v e s:Nat} {rows:List (List D)} (hb:bl p.1 = some (.rows v e s rows)):aT (GO w h hd wr) (hd p.1) (.sl rows):=by
  obtain ⟨q1,q2,⟨xs,q3,q4⟩,q5⟩:=r.blk p.1 _ hb
  refine aFo q3 q4 rfl q1 (yA r wr) fun g hg=>?_
  unfold GO
  rw [if_pos (List.any_eq_true.2 ⟨p,hp,by simp [hg]⟩)]
theorem aLH (r:Rl nt w0 h0 fr bl a w h hd) (wr:List (Nat × Option aI)) {p:Nat × Option aI} (hp:p ∈ wr) {ek:Nat} {m:List (Int × ML)} (hb:bl p.1 = some (.mp ek m)):aT (GO w h hd wr) (hd p.1) (.mp ek m):=by
  obtain ⟨g,q1,q2,q3,q4⟩:=r.blk p.1 _ hb
  rw [q1]
  refine .mp g ek m ?_
  unfold GO
  rw [if_pos (List.any_eq_true.2 ⟨p,hp,by simp [q1,fL]⟩)]
  exact q3
theorem zQ {α:Type}:∀ (l:List (Nat × α)) (d:α) (t:Nat),lk l d t = d ∨ ∃ p ∈ l,p.1 = t ∧ p.2 = lk l d t
  | [],d,t=>.inl rfl
  | (k,v) :: r,d,t=>by
    unfold lk
    by_cases e:t = k
    · rw [if_pos e]; exact .inr ⟨(k,v),by simp,e.symm,rfl⟩
    · rw [if_neg e]
      rcases zQ r d t with q | ⟨p,q1,q2⟩
      · exact .inl q
      · exact .inr ⟨p,by simp [q1],q2⟩
theorem aCR {α:Type}:∀ (l:List (Nat × α)) (d:α) (t:Nat),(∃ p ∈ l,p.1 = t)->∃ p ∈ l,p.1 = t ∧ p.2 = lk l d t
  | [],d,t,⟨p,hp,_⟩=>by cases hp
  | (k,v) :: r,d,t,h=>by
    unfold lk
    by_cases e:t = k
    · rw [if_pos e]; exact ⟨(k,v),by simp,e.symm,rfl⟩
    · rw [if_neg e]
      obtain ⟨p,hp,hpe⟩:=h
      obtain ⟨p',q1,q2⟩:=aCR r d t ⟨p,by rcases List.mem_cons.1 hp with rfl | q; exact absurd hpe.symm e; exact q,hpe⟩
      exact ⟨p',by simp [q1],q2⟩
theorem FY (r:Rl nt w0 h0 fr bl a w h hd) (wr:List (Nat × Option aI)) {v:Value} {x:V} {d:D} (hx:R1 h hd bl v x) (e:rF bl x = some d) (hw:∀ p ∈ I2 bl x,p ∈ wr) :
    aT (GO w h hd wr) v d ∧ d.atom = true:=by
  cases x with
  | d y=>simp only [rF,Option.some.injEq] at e; subst e; exact ⟨hx.2.mono (yA r wr),hx.1⟩
  | nil=>simp only [rF,Option.some.injEq] at e; subst e; rw [show v = _ from hx]; exact ⟨.sl0 none 0 (fun _=>rfl),rfl⟩
  | own id ver =>
    obtain ⟨b,c,hb,hc,hle,h1,he⟩:=hx
    simp only [rF,hb] at e
    cases b with
    | rows v' e' s rows =>
      simp only [aI.ver?,Option.some.injEq] at hc
      simp only at e
      split at e
      · rename_i hv
        cases e
        rw [he (by omega)]
        exact ⟨ZI r wr (p:=(id,some (.froz v' rows))) (hw _ (by simp [I2,hb])) hb,rfl⟩
      · cases e
    | froz v' rows =>
      simp only [aI.ver?,Option.some.injEq] at hc
      simp only at e
      split at e
      · rename_i hv
        cases e
        rw [he (by omega)]
        exact ⟨aT.mono (yA r wr) (r.blk id _ hb),rfl⟩
      · cases e
    | _=>cases e
  | ptr id off =>
    obtain ⟨⟨b,hb,hbx⟩,g,hg,rfl⟩:=hx
    simp only [rF,hb] at e
    cases b with
    | fbox cs =>
      simp only [Option.some.injEq] at e
      subst e
      have:=r.blk id _ hb
      simp only [BR,hg] at this
      exact ⟨aT.mono (yA r wr) (M3 this),rfl⟩
    | _=>cases e
  | fn f caps =>
    obtain ⟨arr,rfl,hs,hr⟩:=hx
    simp only [rF] at e
    split at e
    case isFalse=>cases e
    rename_i he
    have hcn:caps = []:=by simpa using he
    subst hcn
    have hae:arr = #[]:=by simpa using hs
    subst hae
    cases e
    exact ⟨.fn f #[] [] rfl (fun j x e=>by simp at e),rfl⟩
  | mp id =>
    obtain ⟨⟨b,hb,hbx⟩,rfl,g,hg⟩:=hx
    simp only [rF,hb] at e
    cases b with
    | mp ek m =>
      simp only [Option.some.injEq] at e
      subst e
      exact ⟨aLH r wr (p:=(id,some (.fmp ek m))) (hw _ (by simp [I2,hb])) hb,rfl⟩
    | fmp ek m =>
      simp only [Option.some.injEq] at e
      subst e
      exact ⟨aT.mono (yA r wr) (r.blk id _ hb),rfl⟩
    | _=>cases e
  | _=>cases e
theorem aIQ (r:Rl nt w0 h0 fr bl a w h hd) (wr:List (Nat × Option aI)) {p:Nat × Option aI} (hp:p ∈ wr) {cs:List V} {ds:List D} (hb:bl p.1 = some (.box cs)) (hm:aK (rF bl) cs = some ds) (hq:∀ q ∈ cs.flatMap (I2 bl),q ∈ wr):aT (GO w h hd wr) (hd p.1) (.ptr ds 0):=by
  obtain ⟨g,arr,e,h1,h2,h3,h4,h5,h6⟩:=r.blk p.1 _ hb
  obtain ⟨m1,m2⟩:=bJ hm
  have hg:GO w h hd wr g = some (.cells arr e (0,0)):=by
    unfold GO
    rw [if_pos (List.any_eq_true.2 ⟨p,hp,by simp [h1,fL]⟩)]
    exact h3
  have key:∀ (j:Nat) (x:D),ds[j]? = some x->j < arr.size ∧ aT (GO w h hd wr) (arr.getD j undef) x ∧ (arr.getD j undef).oneCell' = true:=by
    intro j x hx
    obtain ⟨y,hy,hyx⟩:=bY hm hx
    have hj:j < arr.size:=by rw [h4]; exact (List.getElem?_eq_some_iff.1 hy).1
    exact ⟨hj,(FY r wr (h5 j y hy).1 hyx fun q hq'=>hq q (List.mem_flatMap.2 ⟨y,List.mem_of_getElem? hy,hq'⟩)).1,(h5 j y hy).2⟩
  rw [h1]
  refine .ptr g 0 0 0 ds (fun j=>arr.getD j undef) rfl ?_ (fun j x hx=>(key j x hx).2.1) (fun j x hx=>(key j x hx).2.2)
  intro j x hx
  have hj:=(key j x hx).1
  simp [Hp.cell,hg,hj]
theorem Rl.freeze (r:Rl nt w0 h0 fr bl a w h hd) (wr:List (Nat × Option aI)) (hok:uT bl wr):Rl nt w0 h0 fr (bP bl wr) a w (GO w h hd wr) hd:=by
  have hcase:∀ id b',bP bl wr id = some b'->(bl id = some b' ∧ (∀ p ∈ wr,p.1 ≠ id)) ∨ (b'.live = false ∧ ∃ p ∈ wr,p.1 = id ∧ p.2 = some b'):=by
    intro id b' hb
    unfold bP at hb
    by_cases hm:∃ p ∈ wr,p.1 = id
    · obtain ⟨p,q1,q2,q3⟩:=aCR wr (bl id) id hm
      rw [hb] at q3
      refine .inr ⟨?_,p,q1,q2,q3⟩
      rcases hok p q1 with ⟨v,e,s,rows,q4,q5⟩ | ⟨cs,ds,q4,q5,_⟩ | ⟨ek,m,q4,q5⟩
      · rw [q3] at q5; cases q5; rfl
      · rw [q3] at q5; cases q5; rfl
      · rw [q3] at q5; cases q5; rfl
    · rcases zQ wr (bl id) id with q | ⟨p,q1,q2,q3⟩
      · exact .inl ⟨q ▸ hb,fun p hp e=>hm ⟨p,hp,e⟩⟩
      · exact absurd ⟨p,q1,q2⟩ hm
  have hkp:Kp hd hd bl (bP bl wr):=by
    intro id b hb
    by_cases hm:∃ p ∈ wr,p.1 = id
    · obtain ⟨p,q1,q2,q3⟩:=aCR wr (bl id) id hm
      rcases hok p q1 with ⟨v,e,s,rows,q4,q5⟩ | ⟨cs,ds,q4,q5,_⟩ | ⟨ek,m,q4,q5⟩
      · rw [q2,hb] at q4
        cases q4
        exact ⟨.froz v rows,by unfold bP; rw [← q3,q5],by simp [wT]⟩
      · rw [q2,hb] at q4
        cases q4
        exact ⟨.fbox ds,by unfold bP; rw [← q3,q5],by simp [wT]⟩
      · rw [q2,hb] at q4
        cases q4
        exact ⟨.fmp ek m,by unfold bP; rw [← q3,q5],by simp [wT]⟩
    · refine ⟨b,?_,wT.refl hd id b⟩
      unfold bP
      rcases zQ wr (bl id) id with q | ⟨p,q1,q2,q3⟩
      · rw [q]; exact hb
      · exact absurd ⟨p,q1,q2⟩ hm
  refine { tmps:=r.tmps,defers:=r.defers,fixed:=r.fixed,below:=r.below,hle:=LL r wr,h0le:=r.h0le.trans (yA r wr),hbase:=fun b hb=>(Q4 r wr hok b hb).trans (r.hbase b hb),
           frame:=fun t=>(r.frame t).keep (yA r wr) hkp,blk:=?_,sep:=?_ }
  · intro id b' hb'
    rcases hcase id b' hb' with ⟨hb,hn⟩ | ⟨hl,p,hp,rfl,hpe⟩
    · refine (r.blk id b' hb).keep (yA r wr) hkp rfl fun hl g hg=>⟨rfl,fun hn'=>?_⟩
      unfold GO
      rw [if_neg]
      · exact hn'
      · intro q
        obtain ⟨p,hp,he⟩:=List.any_eq_true.1 q
        obtain ⟨b,h1,h2⟩:=hok.live hp
        exact hn p hp (r.sep p.1 id _ b' g h1 hb h2 hl (by simpa using he) hg)
    · rcases hok p hp with ⟨v,e,s,rows,q4,q5⟩ | ⟨cs,ds,q4,q5,q6,q7⟩ | ⟨ek,m,q4,q5⟩
      · rw [hpe] at q5
        cases q5
        exact ZI r wr hp q4
      · rw [hpe] at q5
        cases q5
        exact aIQ r wr hp q4 q6 q7
      · rw [hpe] at q5
        cases q5
        exact aLH r wr hp q4
  · intro i j bi bj g hi hj li lj gi gj
    rcases hcase i bi hi with ⟨hi',_⟩ | ⟨q,_⟩
    · rcases hcase j bj hj with ⟨hj',_⟩ | ⟨q,_⟩
      · exact r.sep i j bi bj g hi' hj' li lj gi gj
      · rw [q] at lj; cases lj
    · rw [q] at li; cases li
end
end Vm
end Go.Proofs.Ytgjcnbgfaimepaa
namespace Go.Proofs.Ytgjcnbgfaimepaa
namespace Vm
open Go.RowKit
def xG:Value->Option V
  | .int k n=>some (.d (.int k n))
  | .bool b=>some (.d (.bool b))
  | .string s=>if s.size <= maxLen then some (.d (.str s)) else none
  | .slice none 0 0=>some .nil
  | .pointer none=>some (.d .np)
  | .map none=>some (.d (.mp 2 []))
  | v=>if v.oneCell' then some .any else none
def aNA:Value->Option V
  | .agg arr=>(aK xG arr.toList).map .agg
  | .tuple _=>none
  | v=>xG v
def gX:Operand->Option bM
  | .tmp t=>some (.t t)
  | .const v=>(aNA v).map .c
  | .func f=>some (.c (.d (.fn f [])))
  | .global _=>none
def aDj:Option Operand->Option (Option bM)
  | none=>some none
  | some x=>(gX x).map some
def dOf:V->Option D
  | .d x=>if x.atom then some x else none
  | .nil=>some (.sl [])
  | _=>none
def lN (P:Program) (t:TypeId):Option Bool:=match P.underlying t with
  | some (.struct _) | some (.array _ _)=>some true
  | some _=>some false
  | none=>none
def F5 (P:Program):Nat->TypeId->Option (List Nat)
  | 0,_=>none
  | d + 1,t=>match P.underlying t with
    | some (.int _)=>some [0]
    | some .bool=>some [1]
    | some .string=>some [2]
    | some (.struct fs)=>if P.stoodInHeld t then none else fs.toList.foldl (fun (acc:Option (List Nat)) f=>match acc with
        | none=>none
        | some ks=>if f.offset = ks.length ∧ f.name ≠ "_" then match F5 P d f.type,P.info? f.type with
            | some l,some i=>if i.size = l.length then some (ks ++ l) else none
            | _,_=>none
          else none) (some [])
    | _=>none
def N4 (P:Program) (op:BinOp) (t:TypeId) (x y:Operand):Option fU:=match gX x,gX y with
    | some x',some y'=>match op with
      | .shl=>none
      | .shr=>none
      | op=>match P.underlying t with
        | some (.int _) | some .string=>some (.bin 0 op x' y')
        | some .bool=>some (.bin 1 op x' y')
        | some (.struct _)=>match op,F5 P 20 t with
          | .eql,some ks=>if P.eqGuardType P.depth t = false then some (.eqS ks false x' y') else none
          | .neq,some ks=>if P.eqGuardType P.depth t = false then some (.eqS ks true x' y') else none
          | _,_=>none
        | some (.slice _)=>match op,y' with
          | .eql,.c .nil=>some (.isnil false x')
          | .neq,.c .nil=>some (.isnil true x')
          | _,_=>none
        | some (.pointer _)=>match op,y' with
          | .eql,.c (.d .np)=>some (.isnp false x')
          | .neq,.c (.d .np)=>some (.isnp true x')
          | _,_=>none
        | _=>none
    | _,_=>none
def SR (P:Program) (t:TypeId):Option (TypeId × TypeId × Nat):=match P.underlying t with
  | some (.map k e)=>match P.underlying k with
    | some (.int .i64)=>match P.underlying e,(P.info? e).bind (·.zero) with
      | some (.int .i64),some (.int .i64 n)=>if n = 0 then some (k,e,0) else none
      | some .bool,some (.bool false)=>some (k,e,1)
      | _,_=>none
    | _=>none
  | _=>none
def WM:Option TypeDesc->Bool
  | some (.int .i64)=>true
  | _=>false
theorem T4 {o:Option TypeDesc} (h:WM o = true):o = some (.int .i64):=by
  unfold WM at h
  split at h
  · rfl
  · cases h
def aKn (P:Program) (k:TypeId):Bool:=P.keyTypeAt 2 k && P.keyType k && P.tiled 2 k && decide (P.cellsOf k = 2) && decide (0 < P.types.size) && match P.underlying k with
  | some (.struct fs)=>match fs.toList with
    | [f,g]=>WM (P.underlying f.type) && WM (P.underlying g.type) && decide (f.offset = 0) && decide (g.offset = 1) && decide (P.cellsOf f.type = 1) && decide (P.cellsOf g.type = 1) && f.name != "_" && g.name != "_"
    | _=>false
  | _=>false
def O6 (P:Program) (t:TypeId):Option (TypeId × TypeId):=match P.underlying t with
  | some (.map k e)=>if aKn P k = true then match P.underlying e,(P.info? e).bind (·.zero) with
      | some .bool,some (.bool false)=>some (k,e)
      | _,_=>none
    else none
  | _=>none
def zML (ek:Nat):ML:=if ek = 0 then .i 0 else .b false
def CY (P:Program) (o:Oper):Option fU :=
  match o.op with
  | .move x=>(gX x).map .move
  | .assign x=>(gX x).map .move
  | .pick c a b=>match gX c,gX a,gX b with
    | some c,some a,some b=>some (.pick c a b)
    | _,_,_=>none
  | .alloc e=>match P.info? e with
    | some i=>match i.zero with
      | some z=>(aK xG z.cells.toList).map .alloc
      | none=>none
    | none=>none
  | .box e x=>(gX x).map .box
  | .build t parts=>match P.info? t,P.underlying t with
    | some i,some (.struct fs)=>match i.zero with
      | some z=>match aK xG z.cells.toList,aK (fun (p:Nat × Operand)=>match fs[p.1]?,gX p.2 with
          | some f,some x=>(P.info? f.type).map fun j=>(f.offset,j.size,x)
          | _,_=>none) parts.toList with
        | some zs,some ps=>if fs.toList.all (fun f=>(P.info? f.type).isSome) then some (.build zs ps) else none
        | _,_=>none
      | none=>none
    | some i,some (.array _ e)=>match i.zero,P.info? e with
      | some z,some ei=>match aK xG z.cells.toList,aK (fun (p:Nat × Operand)=>(gX p.2).map fun x=>(p.1 * ei.size,ei.size,x)) parts.toList with
        | some zs,some ps=>some (.build zs ps)
        | _,_=>none
      | _,_=>none
    | _,_=>none
  | .buildSlice t len parts=>match P.underlying t with
    | some (.slice e)=>match P.info? e with
      | some i=>match i.zero with
        | some z=>match aK xG z.cells.toList with
          | some zs=>match aK dOf zs,aK (fun (p:Nat × Operand)=>(gX p.2).map fun x=>(p.1,x)) parts.toList with
            | some row,some ps=>if len * i.size <= 16777216 ∧ z.cells.size = i.size ∧ 0 < i.size then some (.buildSlice e i.size row len ps) else none
            | _,_=>none
          | none=>none
        | none=>none
      | none=>none
    | _=>none
  | .load t x=>match lN P t,P.info? t,gX x with
    | some b,some i,some x=>some (.load i.size b x)
    | _,_,_=>none
  | .store t x v=>match P.info? t,gX x,gX v with
    | some i,some x,some v=>some (.store i.size x v)
    | _,_,_=>none
  | .nilCheck x=>(gX x).map .nilCheck
  | .binOp op t x y _=>N4 P op t x y
  | .unOp op _ x=>(gX x).map (.un op)
  | .convert s d x=>match P.underlying s,P.underlying d,gX x with
    | some (.int _),some (.int k),some x=>some (.conv k x)
    | some .string,some (.slice e),some x=>match P.underlying e with
      | some (.int .u8)=>some (.bytes x)
      | _=>none
    | _,_,_=>none
  | .slice t x lo hi mx=>match mx with
    | some _=>none
    | none=>match P.underlying t,gX x,aDj lo,aDj hi with
      | some (.slice e),some x,some lo,some hi=>(P.info? e).map fun i=>.slice i.size x lo hi
      | some .string,some x,some lo,some hi=>some (.strSlice x lo hi)
      | _,_,_,_=>none
  | .fieldAddr s x f=>match P.underlying s,gX x with
    | some (.struct fs),some x=>match fs[f]? with
      | some f=>match P.info? f.type with
        | some i=>if i.size = 0 then none else some (.fieldAddr f.offset x)
        | none=>none
      | none=>none
    | _,_=>none
  | .field s x f=>match P.underlying s,gX x with
    | some (.struct fs),some x=>match fs[f]? with
      | some f=>match P.info? f.type,lN P f.type with
        | some i,some b=>some (.field f.offset i.size b x)
        | _,_=>none
      | none=>none
    | _,_=>none
  | .indexAddr t x i=>match P.underlying t,gX x,gX i with
    | some (.slice e),some x,some i=>(P.info? e).map fun j=>.indexAddr j.size x i
    | some (.array n e),some x,some (.c (.d (.int _ q)))=>match P.info? e with
      | some j=>if 0 <= q ∧ q < n ∧ j.size ≠ 0 then some (.fieldAddr (q.toNat * j.size) x) else none
      | none=>none
    | some (.array n e),some x,some i=>match P.info? e with
      | some j=>if j.size ≠ 0 then some (.indexArr n j.size x i) else none
      | none=>none
    | _,_,_=>none
  | .index t x i=>match P.underlying t,gX x,gX i with
    | some .string,some x,some i=>some (.index x i)
    | some (.array n e),some x,some i=>match P.underlying e,P.info? e with
      | some (.pointer _),some j=>if j.size = 1 then some (.idxA n x i) else none
      | _,_=>none
    | _,_,_=>none
  | .extract x i=>(gX x).map fun x=>.extract x i
  | .makeSlice t l c=>match P.underlying t,gX l,gX c with
    | some (.slice e),some l,some c=>match P.info? e with
      | some i=>match i.zero with
        | some z=>match aK xG z.cells.toList with
          | some zs=>match aK dOf zs with
            | some row=>if z.cells.size = i.size ∧ 0 < i.size then some (.makeSlice e i.size i.bytes row l c) else none
            | none=>none
          | none=>none
        | none=>none
      | none=>none
    | _,_,_=>none
  | .makeMap t r=>match r with
    | none=>match SR P t with
      | some z=>some (.mkmap z.2.2)
      | none=>match O6 P t with
        | some _=>some (.mkmap 3)
        | none=>none
    | some _=>none
  | .mapUpdate t m k v=>match gX m,gX k,gX v with
    | some m,some k,some v=>match SR P t with
      | some z=>some (.mput z.2.2 m k v)
      | none=>match O6 P t with
        | some _=>some (.mputP m k v)
        | none=>none
    | _,_,_=>none
  | .insert t m k v=>match gX m,gX k,gX v with
    | some m,some k,some v=>match SR P t with
      | some z=>some (.mput z.2.2 m k v)
      | none=>match O6 P t with
        | some _=>some (.mputP m k v)
        | none=>none
    | _,_,_=>none
  | .lookup t m k ok=>match ok,gX m,gX k with
    | false,some m,some k=>match SR P t with
      | some z=>some (.mget (zML z.2.2) m k)
      | none=>match O6 P t with
        | some _=>some (.mgetP m k)
        | none=>none
    | _,_,_=>none
  | .makeFunc fn first captured=>match fn with
    | .func f=>if first.isEmpty = true then (aK gX captured.toList).map fun caps=>.mkfn f caps else none
    | _=>none
  | .call c=>match c.callee with
    | .value (.func f)=>match P.funcs[f]?,aK gX c.args.toList with
      | some fn,some args=>if fn.name ≠ "runtime.NumGoroutine" ∧ fn.body.isSome then some (.call f args) else none
      | _,_=>none
    | .value x=>match gX x,aK gX c.args.toList with
      | some x,some args=>some (.callv x args)
      | _,_=>none
    | .builtin .len=>match c.args.toList,c.argTypes.toList with
      | [x],[t]=>match P.underlying t,gX x with
        | some .string,some x=>some (.lenS x)
        | some (.slice _),some x=>some (.len x)
        | _,_=>none
      | _,_=>none
    | .builtin .append=>match c.args.toList,c.argTypes.toList with
      | [x,y],[t,u]=>if t = u then match P.underlying t,gX x,gX y with
          | some (.slice e),some x,some y=>match P.info? e with
            | some i=>match i.zero with
              | some z=>if z.cells.size = i.size ∧ 0 < i.size ∧ 0 < i.bytes then some (.append e i.size i.bytes x y) else none
              | none=>none
            | none=>none
          | _,_,_=>none
        else none
      | _,_=>none
    | .builtin .clear=>match c.args.toList,c.argTypes.toList with
      | [x],[t]=>match P.underlying t,gX x with
        | some (.slice e),some x=>match P.info? e with
          | some i=>match i.zero with
            | some z=>match aK xG z.cells.toList with
              | some zs=>match aK dOf zs with
                | some row=>if z.cells.size = i.size ∧ 0 < i.size then some (.clear row x) else none
                | none=>none
              | none=>none
            | none=>none
          | none=>none
        | _,_=>none
      | _,_=>none
    | .builtin .delete=>match c.args.toList,c.argTypes.toList with
      | [m,k],[t,u]=>match SR P t,gX m,gX k with
        | some z,some m,some k=>if z.1 = u then some (.mdel z.2.2 m k) else none
        | _,_,_=>none
      | _,_=>none
    | .builtin .max=>(aK gX c.args.toList).map .max
    | .builtin .min=>(aK gX c.args.toList).map .min
    | _=>none
  | _=>none
def xJ (P:Program) (o:Oper):fU:=(CY P o).getD .fail
def aQF (nt:Nat):Option Nat->Bool
  | some d=>decide (d < nt)
  | none=>true
def nC (P:Program) (nt:Nat) (ops:Array Oper) (o:Oper):Option aO :=
  if aQF nt o.dst = true then match o.guard with
    | none=>some ⟨o.dst,xJ P o,none,o.dst.getD 0⟩
    | some (j,b)=>match (ops[j]?).bind (·.dst) with
      | some t=>some ⟨o.dst,xJ P o,some (t,b),o.dst.getD 0⟩
      | none=>none
    else none
def aAp (ops:List Oper):List Nat:=ops.foldl (fun acc o =>
  acc ++ [(o.after.toList.filter (Region.binds .any)).foldl (fun s e=>s ||| 2 ^ e.on ||| acc.getD e.on 0) 0]) []
def RA (ops:List Oper):List (Nat × Nat) :=
  let an:=aAp ops
  (List.range ops.length).flatMap fun j=>((List.range j).filter fun i=>!((an.getD j 0).testBit i)).map fun i=>(i,j)
def L1 (ops:List Oper):Bool:=ops.zipIdx.all fun (o,i)=>o.after.all fun e=>!(Region.binds .any e) || e.on < i
def nF (P:Program) (nt:Nat):Code->Option aG
  | .skip=>some .skip
  | .region _ ops draw=>match aK (nC P nt ops) ops.toList with
    | none=>none
    | some l=>if draw then (if L1 ops.toList then some (.region l (some (RA ops.toList))) else none) else some (.region l none)
  | .seq a b=>match nF P nt a,nF P nt b with
    | some a,some b=>some (.seq a b)
    | _,_=>none
  | .cond c a b=>match gX c,nF P nt a,nF P nt b with
    | some c,some a,some b=>some (.cond c a b)
    | _,_,_=>none
  | .block id a=>(nF P nt a).map (.block id)
  | .loop a=>(nF P nt a).map .loop
  | .exit id=>some (.exit id)
  | .ret=>some .ret
  | _=>none
def fU.bare:fU->fU
  | .lend f args _=>.call f args
  | .calln f args=>.call f args
  | .cut size x lo hi=>.slice size x lo hi
  | .mkfnv f caps=>.mkfn f caps
  | so=>so
def aO.bare (o:aO):aO:=⟨o.dst,o.op.bare,o.guard,o.dst.getD 0⟩
def aG.bare:aG->aG
  | .region l d=>.region (l.map aO.bare) d
  | .seq a b=>.seq a.bare b.bare
  | .cond c a b=>.cond c a.bare b.bare
  | .block id a=>.block id a.bare
  | .loop a=>.loop a.bare
  | .pre _ a=>a.bare
  | .post a _=>a.bare
  | c=>c
def RO (P:Program):ResultVar->Option j5
  | .tmp t=>some (.tmp t)
  | .cell t ty=>match lN P ty,P.info? ty with
    | some b,some i=>some (.cell t i.size b)
    | _,_=>none
def kI (P:Program) (fn:Func) (sf:dE):Prop :=
  fn.params.size + fn.nfree = sf.np ∧ fn.name ≠ "runtime.NumGoroutine" ∧ fn.ntmps = sf.nt ∧ sf.np <= sf.nt ∧ aK (RO P) fn.results.toList = some sf.results ∧ ∃ c,fn.body = some c ∧ nF P sf.nt c = some sf.body.bare
section
variable {h:Hp} {hd:Nat->Value} {bl:Nat->Option aI}
theorem Q1 {v:Value} {x:V} (e:xG v = some x):R1 h hd bl v x ∧ v.oneCell' = true:=by
  unfold xG at e
  split at e
  · cases e; exact ⟨⟨rfl,.int _ _⟩,rfl⟩
  · cases e; exact ⟨⟨rfl,.bool _⟩,rfl⟩
  · split at e
    · rename_i hs; cases e; exact ⟨⟨rfl,.str _ hs⟩,rfl⟩
    · cases e
  · cases e; exact ⟨rfl,rfl⟩
  · cases e; exact ⟨⟨rfl,.np⟩,rfl⟩
  · cases e; exact ⟨⟨rfl,.mp0⟩,rfl⟩
  · split at e
    · rename_i ho; cases e; exact ⟨trivial,ho⟩
    · cases e
theorem B6 {arr:Array Value} {cs:List V} (e:aK xG arr.toList = some cs):arr.size = cs.length ∧ ∀ j x,cs[j]? = some x->R1 h hd bl (arr.getD j undef) x ∧ (arr.getD j undef).oneCell' = true:=by
  obtain ⟨h1,h2⟩:=bJ e
  refine ⟨by simpa using h1,fun j x hx=>?_⟩
  obtain ⟨v,q1,q2⟩:=bY e hx
  have:arr.getD j undef = v:=by
    have:arr[j]? = some v:=by simpa using q1
    simp [this]
  rw [this]
  exact Q1 q2
theorem aNo {v:Value} {x:V} (e:aNA v = some x):R2 h hd bl v x:=by
  unfold aNA at e
  split at e
  · rename_i arr
    cases hm:aK xG arr.toList with
    | none=>simp [hm] at e
    | some cs =>
      simp only [hm,Option.map_some,Option.some.injEq] at e
      subst e
      obtain ⟨h1,h2⟩:=B6 (h:=h) (hd:=hd) (bl:=bl) hm
      exact ⟨arr,rfl,h1,h2⟩
  · cases e
  · exact R2.of1 (Q1 e).1
theorem aV {fr:Nat->V} {a:Act} (hf:∀ t,R3 h hd bl (a.tmps.getD t undef) (fr t)) {x:Operand} {y:bM} (e:gX x = some y):R3 h hd bl (a.eval x) (bL fr y):=by
  cases x with
  | tmp t=>simp only [gX,Option.some.injEq] at e; subst e; exact hf t
  | const v =>
    simp only [gX] at e
    cases hv:aNA v with
    | none=>simp [hv] at e
    | some u=>simp only [hv,Option.map_some,Option.some.injEq] at e; subst e; exact R3.of2 (aNo hv)
  | func f=>simp only [gX,Option.some.injEq] at e; subst e; exact ⟨rfl,.fn f #[] [] rfl (fun j x e=>by simp at e)⟩
  | global g=>simp [gX] at e
end
end Vm
end Go.Proofs.Ytgjcnbgfaimepaa
