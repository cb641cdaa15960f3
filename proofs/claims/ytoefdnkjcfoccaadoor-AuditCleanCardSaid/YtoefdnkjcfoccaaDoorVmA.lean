/- The small machine. -/
import Derived.RowKit
import Derived.Orders
import Derived.Below
import Derived.Laws.MakeOwn
import Derived.Maps.OwnSet
namespace Go.Proofs.YtoefdnkjcfoccaaDoor
section
abbrev À:=@Option.bind_some
abbrev Á:=@Option.map_eq_some_iff
abbrev Â:=@if_pos
abbrev Ã:=@if_neg
abbrev Ä:=@Option.some.injEq
abbrev Å:=@List.getElem?_eq_some_iff
abbrev Æ:=@Bool.false_eq_true
abbrev Ç:=@List.getElem?_map
abbrev È:=@if_false
abbrev É:=@Array.getD_eq_getD_getElem?
abbrev Ê:=@List.mem_of_getElem?
abbrev Ë:=@if_true
abbrev Ì:=@List.all_eq_true
abbrev Í:=@List.eq_nil_of_length_eq_zero
abbrev Î:=@List.mem_flatMap
abbrev Ï:=@Array.getElem?_eq_some_iff
abbrev Ð:=@Nat.mul_le_mul_right
abbrev Ñ:=@decide_eq_true_eq
abbrev Ò:=@List.getElem?_take
abbrev Ó:=@List.mem_append
abbrev Ô:=@run_underlying
abbrev Õ:=@Nat.le_refl
abbrev Ö:=@List.getElem?_drop
abbrev Ø:=@List.length_cons
abbrev Ù:=@Option.map_some
abbrev Ú:=@Array.toArray_toList
abbrev Û:=@List.mem_cons
abbrev Ü:=@List.getElem?_eq_getElem
abbrev Ý:=@List.mem_cons_of_mem
abbrev Þ:=@List.mem_map
abbrev ß:=@List.length_append
abbrev à:=@List.getElem?_append_left
abbrev á:=@List.map_cons
abbrev â:=@List.length_map
abbrev ã:=@Option.some.inj
abbrev ä:=@List.getD_eq_getElem?_getD
abbrev å:=@List.getElem?_append_right
abbrev æ:=@List.mem_iff_getElem?
abbrev ç:=@List.append_assoc
abbrev è:=@Option.getD_some
abbrev é:=@List.getElem?_cons_succ
abbrev ê:=@Nat.add_mul
abbrev ë:=@Bool.and_eq_true
abbrev ì:=@List.flatMap_cons
abbrev í:=@List.mem_singleton
abbrev î:=@Sem.run_bind
abbrev ï:=@List.getElem?_cons_zero
abbrev ð:=@List.map_congr_left
abbrev ñ:=@Result.andThen_ok
abbrev ò:=@List.mem_cons_self
abbrev ó:=@Nat.le_trans
abbrev ô:=@Option.bind_eq_some_iff
abbrev õ:=@Nat.le_mul_of_pos_right
abbrev ö:=@decide_eq_true
abbrev ø:=@List.pairwise_append
abbrev ù:=@Array.getElem?_append_left
abbrev ú:=@Prod.mk.injEq
abbrev û:=@Sum.elim_inl
abbrev ü:=@Option.isSome_iff_exists
abbrev ý:=@List.append_nil
abbrev þ:=@List.foldl_cons
abbrev ÿ:=@List.take_length
abbrev Ā:=@List.length_take
abbrev ā:=@List.getElem?_range
abbrev Ă:=@List.map_append
abbrev ă:=@congrArg
abbrev Ą:=@List.pairwise_cons
abbrev ą:=@Nat.le_max_right
abbrev Ć:=@Nat.add_assoc
abbrev ć:=@Int.toNat_natCast
abbrev Ĉ:=@World.ownsRow_nil
abbrev ĉ:=@List.mapM_toArray
abbrev Ċ:=@Nat.zero_add
abbrev ċ:=@Addr.add_lit
abbrev Č:=@List.cons_append
abbrev č:=@List.mem_range
abbrev Ď:=@List.getElem?_eq_none
abbrev ď:=@List.drop_eq_getElem_cons
abbrev Đ:=@Nat.add_zero
abbrev đ:=@List.take_succ_eq_append_getElem
abbrev Ē:=@Array.all_eq_true_iff_forall_mem
abbrev ē:=@List.ext_getElem?
abbrev Ĕ:=@Array.getElem?_setIfInBounds_ne
abbrev ĕ:=@Sem.run_pure
abbrev Ė:=@Bool.eq_iff_iff
abbrev ė:=@Nat.le_max_left
abbrev Ę:=@List.getElem?_set
abbrev ę:=@Array.size_append
abbrev Ě:=@Array.getElem?_append_right
abbrev ě:=@List.mem_iff_getElem
abbrev Ĝ:=@List.any_eq_true
abbrev ĝ:=@Bool.true_and
abbrev Ğ:=@List.map_take
abbrev ğ:=@Nat.lt_of_lt_of_le
abbrev Ġ:=@World.block_lt_of_cell?
abbrev ġ:=@Sem.run_map
abbrev Ģ:=@Nat.le_succ
abbrev ģ:=@Bool.not_eq_true'
abbrev Ĥ:=@run_storeCells_at
abbrev ĥ:=@List.length_replicate
abbrev Ħ:=@List.getElem_mem
abbrev ħ:=@List.all_cons
abbrev Ĩ:=@Nat.zero_le
abbrev ĩ:=@List.mem_append_left
abbrev Ī:=@List.nil_append
abbrev ī:=@List.mem_filter
abbrev Ĭ:=@Nat.mul_comm
abbrev ĭ:=@heap_alloc_new
abbrev Į:=@Array.getElem?_replicate
abbrev į:=@Array.size_setIfInBounds
abbrev İ:=@Nat.mod_eq_of_lt
abbrev ı:=@Nat.add_sub_cancel_left
abbrev Ĳ:=@Option.bind_none
abbrev ĳ:=@List.pairwise_lt_range
abbrev Ĵ:=@Nat.min_eq_left
abbrev ĵ:=@List.length_set
abbrev Ķ:=@decide_eq_false
abbrev ķ:=@Array.mem_of_getElem?
abbrev ĸ:=@Array.getElem?_toList
abbrev Ĺ:=@setRow_heap
abbrev ĺ:=@wp_cond_false
abbrev Ļ:=@Ne.symm
abbrev ļ:=@Nat.add_comm
abbrev Ľ:=@getElem!_pos
theorem aN {p q:Prop} (a:p) (b:q):p ∧ q:=And.intro a b
namespace Vm
inductive ML where
  | b (x:Bool)
  | i (n:Int)
  deriving Inhabited
def D1 {α:Type} (k:Int) (v:α):List (Int × α)->List (Int × α)
  | []=>[(k,v)]
  | y :: r=>if k < y.1 then (k,v) :: y :: r else y :: D1 k v r
def EX {α:Type} (k:Int) (m:List (Int × α)):List (Int × α):=m.filter fun p=>!decide (p.1 = k)
def IR {α:Type} (k:Int) (v:α) (m:List (Int × α)):List (Int × α):=D1 k v (EX k m)
def B9 {α:Type} (k:Int) (z:α) (m:List (Int × α)):α:=match m.find? fun p=>decide (p.1 = k) with
  | some p=>p.2
  | none=>z
def HR (a b:Int):Int:=a % 18446744073709551616 * 18446744073709551616 + b % 18446744073709551616
def nD (n:Int):Prop:=-9223372036854775808 <= n ∧ n <= 9223372036854775807
instance (n:Int):Decidable (nD n):=inferInstanceAs (Decidable (_ ∧ _))
def ML.kind:ML->Nat
  | .b _=>1
  | .i _=>0
inductive D where
  | int (k:IntKind) (n:Int)
  | bool (b:Bool)
  | str (s:ByteArray)
  | sl (rows:List (List D))
  | agg (cs:List D)
  | tup (vs:List D)
  | ptr (row:List D) (off:Nat)
  | fn (f:Nat) (caps:List D)
  | np
  | ref (n:Nat)
  | own (x:D) (es:List (Nat × Nat)) (rs:List (List (List D)))
  | mp (ek:Nat) (m:List (Int × ML))
  | mref (n:Nat)
  deriving Inhabited
def ML.d:ML->D
  | .b x=>.bool x
  | .i n=>.int .i64 n
inductive V where
  | any
  | d (x:D)
  | nil
  | agg (cs:List V)
  | tup (vs:List V)
  | ptr (id off:Nat)
  | own (id ver:Nat)
  | orow (id ver i off:Nat)
  | fn (f:Nat) (caps:List V)
  | mp (id:Nat)
  deriving Inhabited
inductive aO where
  | box (cs:List V)
  | rows (ver e size:Nat) (rows:List (List D))
  | froz (ver:Nat) (rows:List (List D))
  | fbox (cs:List D)
  /-- the slots of a caller,while what it calls is run in its place -/
  | outer (cs:List V)
  | mp (ek:Nat) (m:List (Int × ML))
  | fmp (ek:Nat) (m:List (Int × ML))
  deriving Inhabited
inductive bO where
  | t (n:Nat)
  | c (v:V)
  deriving Inhabited
inductive fT where
  | fail
  | move (x:bO)
  | pick (c a b:bO)
  | alloc (zero:List V)
  | box (x:bO)
  | build (zero:List V) (parts:List (Nat × Nat × bO))
  | buildSlice (e size:Nat) (zero:List D) (len:Nat) (parts:List (Nat × bO))
  | load (size:Nat) (isAgg:Bool) (x:bO)
  | store (size:Nat) (x v:bO)
  | nilCheck (x:bO)
  | bin (c:Nat) (op:BinOp) (x y:bO)
  | eqS (ks:List Nat) (neg:Bool) (x y:bO)
  | un (op:UnOp) (x:bO)
  | conv (k:IntKind) (x:bO)
  | slice (size:Nat) (x:bO) (lo hi:Option bO)
  | strSlice (x:bO) (lo hi:Option bO)
  | fieldAddr (off:Nat) (x:bO)
  | field (off size:Nat) (isAgg:Bool) (x:bO)
  | indexAddr (size:Nat) (x i:bO)
  | index (x i:bO)
  | len (x:bO)
  | lenS (x:bO)
  | append (e size bytes:Nat) (x y:bO)
  | makeSlice (e size bytes:Nat) (zero:List D) (len cap:bO)
  | max (l:List bO)
  | min (l:List bO)
  | extract (x:bO) (i:Nat)
  | call (f:Nat) (args:List bO)
  | mkfn (f:Nat) (caps:List bO)
  | callv (x:bO) (args:List bO)
  | bytes (x:bO)
  | lend (f:Nat) (args:List bO) (t:Nat)
  | cut (size:Nat) (x:bO) (lo hi:Option bO)
  | clear (z:List D) (x:bO)
  | isnil (neg:Bool) (x:bO)
  /-- a call that hands over new memory only -/
  | calln (f:Nat) (args:List bO)
  /-- a function value that holds boxes that can still be written -/
  | mkfnv (f:Nat) (caps:List bO)
  | mkmap (ek:Nat)
  | mput (ek:Nat) (m k v:bO)
  | mget (z:ML) (m k:bO)
  | mdel (ek:Nat) (m k:bO)
  /-- keys of two numbers -/
  | mputP (m k v:bO)
  | mgetP (m k:bO)
  /-- a pointer held against nil -/
  | isnp (neg:Bool) (x:bO)
  /-- the place of an array's element -/
  | indexArr (n size:Nat) (x i:bO)
  /-- an element of an array of values of one cell -/
  | idxA (n:Nat) (x i:bO)
  /-- an array of values of one cell as a slice,whole -/
  | sliceA (n:Nat) (x:bO)
  deriving Inhabited
structure aY where
  dst:Option Nat
  op:fT
  guard:Option (Nat × Bool)
  /-- the name of the memory that it makes -/
  site:Nat
  deriving Inhabited
structure xF where
  live:List Nat
  keep:List Nat
  ownT:List (Nat × Nat × Nat × Nat)
  ownC:List (Nat × Nat × Nat × Nat × Nat)
  fzT:List Nat
  fzC:List (Nat × Nat)
  deriving Inhabited
structure St where
  fr:List (Nat × V)
  bl:List (Nat × Option aO)
inductive kT where
  | tmp (t:Nat)
  | cell (t size:Nat) (isAgg:Bool)
inductive aP where
  | skip
  | region (ops:List aY) (draw:Option (List (Nat × Nat)))
  | seq (a b:aP)
  | cond (c:bO) (a b:aP)
  | block (id:Nat) (a:aP)
  | loop (a:aP)
  | exit (id:Nat)
  | ret
  | pre (m:xF) (a:aP)
  | post (a:aP) (m:xF)
  | hand (g:St->Option St)
  /-- a function that is run in its caller's place -/
  | inl (ops:List aY) (args:List bO) (dst:Option Nat) (f:Nat) (body:aP) (res:List kT) (id:Nat) (slots:List Nat)
  /-- a function value that is run in its caller's place; nc: how many boxes it holds -/
  | inlv (ops:List aY) (x:bO) (nc:Nat) (args:List bO) (dst:Option Nat) (f:Nat) (body:aP) (res:List kT) (id:Nat) (slots:List Nat)
  deriving Inhabited
structure bY where
  np:Nat
  nt:Nat
  results:List kT
  body:aP
  fresh:Bool
  lend:Bool
def lk {α:Type} (l:List (Nat × α)) (d:α) (t:Nat):α:=match l with
  | []=>d
  | (k,v) :: r=>if t = k then v else lk r d t
def St.get (s:St) (t:Nat):V:=lk s.fr .any t
def St.blk (s:St) (i:Nat):Option aO:=lk s.bl none i
def bN (fr:Nat->V):bO->V
  | .t n=>fr n
  | .c v=>v
def V.cells:V->List V
  | .agg cs=>cs
  | v=>[v]
def V.cell:V->Bool
  | .any | .agg _ | .tup _=>false
  | _=>true
def V.one:V->Bool
  | .agg _ | .tup _=>false
  | _=>true
def V.known:V->Bool
  | .any | .tup _=>false
  | _=>true
def aT {α β:Type} (f:α->Option β):List α->Option (List β)
  | []=>some []
  | x :: r=>match f x with
    | none=>none
    | some y=>match aT f r with
      | none=>none
      | some ys=>some (y :: ys)
def P1 (bl:Nat->Option aO):V->Bool
  | .ptr id _=>match bl id with
    | some (.box _)=>true
    | some (.fbox _)=>true
    | _=>false
  | _=>false
def nF (bl:Nat->Option aO):V->Option D
  | .d x=>some x
  | .nil=>some (.sl [])
  | .own id ver=>match bl id with
    | some (.rows v _ _ rows)=>if ver = v then some (.sl rows) else none
    | some (.froz v rows)=>if ver = v then some (.sl rows) else none
    | _=>none
  | .ptr id off=>match bl id with
    | some (.fbox cs)=>some (.ptr cs off)
    | _=>none
  | .fn f caps=>if caps.isEmpty then some (.fn f []) else none
  | .mp id=>match bl id with
    | some (.mp ek m)=>some (.mp ek m)
    | some (.fmp ek m)=>some (.mp ek m)
    | _=>none
  | _=>none
def iQ (bl:Nat->Option aO):V->Option D
  | .ptr id off=>match bl id with
    | some (.box cs)=>(aT (nF bl) cs).map fun ds=>.ptr ds off
    | some (.fbox cs)=>some (.ptr cs off)
    | _=>none
  | v=>nF bl v
def iX (bl:Nat->Option aO):V->Option D
  | .agg cs=>(aT (iQ bl) cs).map .agg
  | v=>iQ bl v
def toD (bl:Nat->Option aO):V->Option D
  | .tup vs=>(aT (iX bl) vs).map .tup
  | v=>iX bl v
def GC (bl:Nat->Option aO):V->List (Nat × Option aO)
  | .own id ver=>match bl id with
    | some (.rows v _ _ rows)=>[(id,some (.froz v rows))]
    | _=>[]
  | .mp id=>match bl id with
    | some (.mp ek m)=>[(id,some (.fmp ek m))]
    | _=>[]
  | _=>[]
def CP (bl:Nat->Option aO):V->List (Nat × Option aO)
  | .ptr id off=>match bl id with
    | some (.box cs)=>match aT (nF bl) cs with
      | some ds=>(id,some (.fbox ds)) :: cs.flatMap (GC bl)
      | none=>[]
    | _=>[]
  | v=>GC bl v
def yG (bl:Nat->Option aO):V->List (Nat × Option aO)
  | .agg cs=>cs.flatMap (CP bl)
  | v=>CP bl v
def HV:D->Bool
  | .int _ _ | .bool _ | .str _=>true
  | _=>false
def aBm:D->Bool
  | .agg cs=>cs.all HV
  | x=>HV x
def JR:D->Bool
  | .tup vs=>vs.all aBm
  | x=>aBm x
def aOk:D->V
  | .agg cs=>.agg (cs.map .d)
  | x=>.d x
def toV:D->V
  | .tup vs=>.tup (vs.map aOk)
  | x=>aOk x
def E3 (site n:Nat):Nat:=site + 100000 * (n + 1)
def aAY (site:Nat):D->V
  | .ref n=>.own (E3 site n) 0
  | .mref n=>.mp (E3 site n)
  | x=>.d x
def WW (site:Nat):D->V
  | .agg cs=>.agg (cs.map (aAY site))
  | x=>aAY site x
def thaw (site:Nat):D->V
  | .tup vs=>.tup (vs.map (WW site))
  | x=>WW site x
def aSd (m:List (Int × ML)):List (List D):=m.map fun p=>[.int .i64 p.1,p.2.d]
def aRQ (rows:List (List D)):List (Int × ML):=rows.map fun row=>match row with
  | [.int _ n,.bool b]=>(n,.b b)
  | [.int _ n,.int _ k]=>(n,.i k)
  | _=>(0,.b false)
def B7 (e size:Nat) (rows:List (List D)):aO:=if size = 0 then .mp e (aRQ rows) else .rows 0 e size rows
def gY (site:Nat):Nat->List (Nat × Nat)->List (List (List D))->List (Nat × Option aO)
  | n,(e,size) :: es,rows :: rs=>(E3 site n,some (B7 e size rows)) :: gY site (n + 1) es rs
  | _,_,_=>[]
def OC (bl:Nat->Option aO):List (Nat × Option aO)->Bool
  | []=>true
  | (i,_) :: l=>match bl i with
    | none=>OC bl l
    | some _=>false
def qJ (site:Nat) (bl:Nat->Option aO) (fz:List (Nat × Option aO)):D->Option (V × List (Nat × Option aO))
  | .own x es rs=>if OC bl (gY site 0 es rs) = true then some (thaw site x,gY site 0 es rs ++ fz) else none
  | r=>some (toV r,if JR r then [] else fz)
def oF (op:BinOp) (k:IntKind) (x y:Int):Option D:=match op with
  | .add=>some (.int k (k.wrap (x + y)))
  | .sub=>some (.int k (k.wrap (x - y)))
  | .mul=>some (.int k (k.wrap (x * y)))
  | .quo=>if y = 0 then none else some (.int k (k.wrap (x.tdiv y)))
  | .rem=>if y = 0 then none else some (.int k (x.tmod y))
  | .and=>some (.int k (k.wrap (BitVec.ofInt k.bits x &&& BitVec.ofInt k.bits y).toNat))
  | .or=>some (.int k (k.wrap (BitVec.ofInt k.bits x ||| BitVec.ofInt k.bits y).toNat))
  | .xor=>some (.int k (k.wrap (BitVec.ofInt k.bits x ^^^ BitVec.ofInt k.bits y).toNat))
  | .andNot=>some (.int k (k.wrap (BitVec.ofInt k.bits x &&& ~~~(BitVec.ofInt k.bits y)).toNat))
  | .eql=>some (.bool (x == y))
  | .neq=>some (.bool (x != y))
  | .lss=>some (.bool (x < y))
  | .leq=>some (.bool (x <= y))
  | .gtr=>some (.bool (x > y))
  | .geq=>some (.bool (x ≥ y))
  | .shl=>if 0 <= y ∧ y.toNat <= k.bits then some (.int k (k.wrap (x * 2 ^ y.toNat))) else none
  | .shr=>if 0 <= y ∧ y.toNat <= k.bits then some (.int k (x.fdiv (2 ^ y.toNat))) else none
def TN (op:BinOp) (x y:ByteArray):Option D:=match op with
  | .eql=>some (.bool (x.toList == y.toList))
  | .neq=>some (.bool !(x.toList == y.toList))
  | .lss=>some (.bool (Op.bytesLess x.toList y.toList))
  | .leq=>some (.bool (Op.bytesLess x.toList y.toList || x.toList == y.toList))
  | .gtr=>some (.bool !(Op.bytesLess x.toList y.toList || x.toList == y.toList))
  | .geq=>some (.bool !(Op.bytesLess x.toList y.toList))
  | _=>none
def zZ:Nat->V->V->Option Bool
  | 0,.d (.int k x),.d (.int k' y)=>if k = k' then some (x == y) else none
  | 1,.d (.bool x),.d (.bool y)=>some (x == y)
  | 2,.d (.str x),.d (.str y)=>some (x == y)
  | _,_,_=>none
def dT:List Nat->List V->List V->Option Bool
  | [],[],[]=>some true
  | k :: ks,x :: xs,y :: ys=>match zZ k x y with
    | some a=>match dT ks xs ys with
      | some b=>some (a && b)
      | none=>none
    | none=>none
  | _,_,_=>none
def eqV (ks:List Nat) (neg:Bool):V->V->Option D
  | .agg xs,.agg ys=>match dT ks xs ys with
    | some b=>some (.bool (if neg then !b else b))
    | none=>none
  | _,_=>none
def B3:Nat->BinOp->V->V->Option D
  | 0,op,.d (.int k x),.d (.int k' y)=>if k = k' then oF op k x y else none
  | 0,op,.d (.str x),.d (.str y)=>TN op x y
  | 1,.eql,.d (.bool x),.d (.bool y)=>some (.bool (x == y))
  | 1,.neq,.d (.bool x),.d (.bool y)=>some (.bool !(x == y))
  | _,_,_,_=>none
def unV (op:UnOp):V->Option D
  | .d (.bool b)=>match op with
    | .not=>some (.bool !b)
    | _=>none
  | .d (.int k n)=>match op with
    | .neg=>some (.int k (k.wrap (0 - n)))
    | _=>none
  | _=>none
def iT {α:Type}:List α->Nat->List α->List α
  | l,_,[]=>l
  | [],_,_=>[]
  | _ :: l,0,x :: r=>x :: iT l 0 r
  | y :: l,n + 1,xs=>y :: iT l n xs
def IE:List V->List (Nat × Nat × V)->Option (List V)
  | z,[]=>some z
  | z,(off,size,v) :: r=>if v.cells.length = size ∧ off + size <= z.length ∧ v.known = true then IE (iT z off v.cells) r else none
def lU (bl:Nat->Option aO) (size:Nat):List (List D)->List (Nat × V)->Option (List (List D))
  | rs,[]=>some rs
  | rs,(i,v) :: r=>match aT (iQ bl) v.cells with
    | some row=>if row.length = size ∧ i < rs.length then lU bl size (rs.set i row) r else none
    | none=>none
def aBY (k:IntKind):Int->List V->Option D
  | x,[]=>some (.int k x)
  | x,.d (.int k' y) :: r=>if k = k' then aBY k (if y > x then y else x) r else none
  | _,_=>none
def aNW:List V->Option D
  | .d (.int k x) :: r=>aBY k x r
  | _=>none
def aDI (k:IntKind):Int->List V->Option D
  | x,[]=>some (.int k x)
  | x,.d (.int k' y) :: r=>if k = k' then aDI k (if y < x then y else x) r else none
  | _,_=>none
def aPE:List V->Option D
  | .d (.int k x) :: r=>aDI k x r
  | _=>none
def gF (bl:Nat->Option aO):V->Option (List (List D))
  | .d (.sl rows)=>some rows
  | .nil=>some []
  | .own id ver=>match bl id with
    | some (.rows v _ _ rows)=>if ver = v then some rows else none
    | some (.froz v rows)=>if ver = v then some rows else none
    | _=>none
  | _=>none
abbrev LA:=Option (V × List (Nat × Option aO))
def LA.v (x:Option D):LA:=x.map fun d=>(.d d,[])
def sized (size:Nat) (rows:List (List D)):Bool:=rows.all fun row=>row.length == size
def zR (bl:Nat->Option aO) (size:Nat) (x:V) (lo hi:Option V):LA :=
  match x,lo,hi with
  | .own id ver,none,some (.d (.int _ h))=>match bl id with
    | some (.rows v e size rows)=>if ver = v ∧ 0 <= h ∧ h.toNat <= rows.length then some (.own id (ver + 1),[(id,some (.rows (ver + 1) e size (rows.take h.toNat)))]) else none
    | _=>none
  | x,lo,hi=>match gF bl x with
    | none=>none
    | some rows =>
      match (match hi with | none=>some (rows.length:Int) | some (.d (.int _ h))=>some h | _=>none),(match lo with | none=>some (0:Int) | some (.d (.int _ l))=>some l | _=>none) with
      | some h,some l=>if 0 <= l ∧ l <= h ∧ h.toNat <= rows.length ∧ sized size rows = true then some (.d (.sl ((rows.take h.toNat).drop l.toNat)),CP bl x) else none
      | _,_=>none
def PN (x:V) (lo hi:Option V):LA :=
  match x with
  | .d (.str s) =>
    match (match hi with | none=>some (s.size:Int) | some (.d (.int _ h))=>some h | _=>none),(match lo with | none=>some (0:Int) | some (.d (.int _ l))=>some l | _=>none) with
    | some h,some l=>if 0 <= l ∧ l <= h ∧ h.toNat <= s.size then some (.d (.str (s.extract l.toNat h.toNat)),[]) else none
    | _,_=>none
  | _=>none
def LS (bl:Nat->Option aO) (size:Nat) (x:V) (lo hi:Option V):LA:=match x with
  | .own id ver=>match bl id with
    | some (.rows v e sz rows)=>match (match hi with | none=>some (rows.length:Int) | some (.d (.int _ h))=>some h | _=>none),(match lo with | none=>some (0:Int) | some (.d (.int _ l))=>some l | _=>none) with
      | some h,some l=>if ver = v ∧ sz = size ∧ 0 <= l ∧ l <= h ∧ h.toNat <= rows.length then some (.own id (ver + 1),[(id,some (.rows (ver + 1) e sz ((rows.take h.toNat).drop l.toNat)))]) else none
      | _,_=>none
    | _=>none
  | _=>none
def OB (bl:Nat->Option aO):V->Option D
  | .own id ver=>match bl id with
    | some (.rows v e size rows)=>if ver = v then some (.own (.ref 0) [(e,size)] [rows]) else none
    | _=>none
  | _=>none
def FH (bl:Nat->Option aO) (t:Nat):Nat->List V->Option (List D)
  | _,[]=>some []
  | i,v :: r=>match (if i = t then OB bl v else iX bl v) with
    | none=>none
    | some d=>match FH bl t (i + 1) r with
      | none=>none
      | some ds=>some (d :: ds)
def uO (bl:Nat->Option aO) (t:Nat):Nat->List V->List (Nat × Option aO)
  | _,[]=>[]
  | i,v :: r=>(if i = t then [] else yG bl v) ++ uO bl t (i + 1) r
def rN (rows:List (List D)):Bool:=rows.all fun row=>row.all HV
def W8:D->Bool
  | .ref _ | .mref _=>true
  | x=>HV x
def aAA:D->Bool
  | .agg cs=>cs.all W8
  | x=>W8 x
def aEZ:D->Bool
  | .tup vs=>vs.all aAA
  | x=>aAA x
def JM (x:D) (rs:List (List (List D))):Bool:=aEZ x && rs.all rN
def DO (id:Nat):List (Nat × Option aO)->Bool
  | []=>true
  | (i,_) :: l=>if i = id then false else DO id l
def M8 (bl:Nat->Option aO) (neg:Bool):V->Option D
  | .nil=>some (.bool (!neg))
  | x=>match gF bl x with
    | some (_ :: _)=>some (.bool neg)
    | _=>none
def VG (bl:Nat->Option aO):V->Option (Nat × List (Int × ML))
  | .d (.mp ek m)=>some (ek,m)
  | .mp id=>match bl id with
    | some (.mp ek m)=>some (ek,m)
    | some (.fmp ek m)=>some (ek,m)
    | _=>none
  | _=>none
def aHf:V->Option ML
  | .d (.bool b)=>some (.b b)
  | .d (.int .i64 n)=>if nD n then some (.i n) else none
  | _=>none
def KK:V->Option Int
  | .d (.int .i64 n)=>if nD n then some n else none
  | _=>none
def V3:V->Option Int
  | .agg [.d (.int .i64 a),.d (.int .i64 b)]=>if nD a ∧ nD b then some (HR a b) else none
  | _=>none
def aAq (neg:Bool):V->Option D
  | .ptr _ _=>some (.bool neg)
  | .d (.ptr _ _)=>some (.bool neg)
  | .d .np=>some (.bool (!neg))
  | _=>none
def aEU:V->Option Bool
  | .d (.bool b)=>some b
  | _=>none
def cE (C:Nat->List D->Option D) (site:Nat) (ev:bO->V) (bl:Nat->Option aO):fT->LA
  | .fail=>none
  | .move x=>some (ev x,[])
  | .pick c a b=>match ev c with
    | .d (.bool true)=>some (ev a,[])
    | .d (.bool false)=>some (ev b,[])
    | _=>none
  | .alloc z=>match bl site with
    | none=>some (.ptr site 0,[(site,some (.box z))])
    | some _=>none
  | .box x=>match bl site with
    | none=>if (ev x).known = true then some (.ptr site 0,[(site,some (.box (ev x).cells))]) else none
    | some _=>none
  | .build z parts=>(IE z (parts.map fun (o,s,x)=>(o,s,ev x))).map fun cs=>(.agg cs,[])
  | .buildSlice e size z n parts=>match bl site with
    | none=>match lU bl size (List.replicate n z) (parts.map fun (i,x)=>(i,ev x)) with
      | some rows=>some (.own site 0,(site,some (.rows 0 e size rows)) :: parts.flatMap fun (_,x)=>yG bl (ev x))
      | none=>none
    | some _=>none
  | .load size isAgg x=>match ev x with
    | .ptr id off=>match bl id with
      | some (.box cs) =>
        if isAgg then (if off + size <= cs.length then some (.agg ((cs.drop off).take size),[]) else none)
        else cs[off]?.map fun v=>(v,[])
      | some (.fbox row) =>
        if isAgg then (if off + size <= row.length then some (.agg (((row.drop off).take size).map .d),[]) else none)
        else row[off]?.map fun v=>(.d v,[])
      | _=>none
    | .d (.ptr row off) =>
      if isAgg then (if off + size <= row.length then some (.agg (((row.drop off).take size).map .d),[]) else none)
      else row[off]?.map fun v=>(.d v,[])
    | .orow id ver i off=>match bl id with
      | some (.rows v e sz rows)=>if ver = v then match rows[i]? with
        | some row =>
          if isAgg then (if off + size <= row.length then some (.agg (((row.drop off).take size).map .d),[]) else none)
          else row[off]?.map fun v=>(.d v,[])
        | none=>none
        else none
      | _=>none
    | _=>none
  | .store size x v=>match ev x with
    | .ptr id off=>match bl id with
      | some (.box cs)=>if (ev v).cells.length = size ∧ off + size <= cs.length ∧ (ev v).known = true then some (.any,[(id,some (.box (iT cs off (ev v).cells)))]) else none
      | _=>none
    | .orow id ver i off=>match bl id with
      | some (.rows w e sz rows)=>if ver = w then match rows[i]?,aT (iQ bl) (ev v).cells with
        | some row,some ds=>if ds.length = size ∧ off + size <= row.length ∧ DO id (yG bl (ev v)) = true then some (.any,(id,some (.rows w e sz (rows.set i (iT row off ds)))) :: yG bl (ev v)) else none
        | _,_=>none
        else none
      | _=>none
    | _=>none
  | .nilCheck x=>match ev x with
    | .ptr id off=>some (.ptr id off,[])
    | .d (.ptr row off)=>some (.d (.ptr row off),[])
    | .orow id ver i off=>match bl id with
      | some (.rows v _ _ _)=>if ver = v then some (.orow id ver i off,[]) else none
      | _=>none
    | _=>none
  | .bin c op x y=>LA.v (B3 c op (ev x) (ev y))
  | .eqS ks neg x y=>LA.v (eqV ks neg (ev x) (ev y))
  | .un op x=>LA.v (unV op (ev x))
  | .conv k x=>match ev x with
    | .d (.int _ n)=>some (.d (.int k (k.wrap n)),[])
    | _=>none
  | .slice size x lo hi=>zR bl size (ev x) (lo.map ev) (hi.map ev)
  | .strSlice x lo hi=>PN (ev x) (lo.map ev) (hi.map ev)
  | .fieldAddr off x=>match ev x with
    | .ptr id o=>some (.ptr id (o + off),[])
    | .d (.ptr row o)=>some (.d (.ptr row (o + off)),[])
    | .orow id ver i o=>match bl id with
      | some (.rows v _ _ _)=>if ver = v then some (.orow id ver i (o + off),[]) else none
      | _=>none
    | _=>none
  | .indexArr n size x i=>match ev i with
    | .d (.int _ q)=>if 0 <= q ∧ q < n then (match ev x with
      | .ptr id o=>some (.ptr id (o + q.toNat * size),[])
      | .d (.ptr row o)=>some (.d (.ptr row (o + q.toNat * size)),[])
      | .orow id ver i o=>match bl id with
        | some (.rows v _ _ _)=>if ver = v then some (.orow id ver i (o + q.toNat * size),[]) else none
        | _=>none
      | _=>none) else none
    | _=>none
  | .idxA n x i=>match ev i with
    | .d (.int _ q)=>if 0 <= q ∧ q < n then (match ev x with
      | .agg cs=>if cs.length = n then cs[q.toNat]?.map fun v=>(v,[]) else none
      | _=>none) else none
    | _=>none
  | .isnp neg x=>LA.v (aAq neg (ev x))
  | .sliceA n x=>match ev x with
    | .d (.ptr row 0)=>if row.length = n ∧ 0 < n then some (.d (.sl (row.map fun c=>[c])),[]) else none
    | _=>none
  | .field off size isAgg x=>match ev x with
    | .agg cs =>
      if isAgg then (if off + size <= cs.length then some (.agg ((cs.drop off).take size),[]) else none)
      else cs[off]?.map fun v=>(v,[])
    | _=>none
  | .indexAddr size x i=>match ev i with
    | .d (.int _ n)=>match ev x with
      | .own id ver=>match bl id with
        | some (.rows v e sz rows)=>if ver = v ∧ sz = size ∧ 0 <= n ∧ n.toNat < rows.length then some (.orow id ver n.toNat 0,[]) else none
        | some (.froz v rows)=>if ver = v ∧ 0 <= n then match rows[n.toNat]? with
          | some row=>if row.length = size then some (.d (.ptr row 0),[]) else none
          | none=>none
          else none
        | _=>none
      | .d (.sl rows)=>if 0 <= n then match rows[n.toNat]? with
        | some row=>if row.length = size then some (.d (.ptr row 0),[]) else none
        | none=>none
        else none
      | _=>none
    | _=>none
  | .index x i=>match ev x,ev i with
    | .d (.str s),.d (.int _ n)=>if 0 <= n then match s[n.toNat]? with
      | some b=>some (.d (.int .u8 b.toNat),[])
      | none=>none
      else none
    | _,_=>none
  | .len x=>(gF bl (ev x)).map fun rows=>(.d (.int .i64 rows.length),[])
  | .lenS x=>match ev x with
    | .d (.str s)=>some (.d (.int .i64 s.size),[])
    | _=>none
  | .append e size bytes x y=>match gF bl (ev y) with
    | none=>none
    | some new =>
      if sized size new = true then
      match ev x with
      | .nil=>match bl site with
        | none=>if new.length * bytes <= 140737488355328 then some (.own site 0,[(site,some (.rows 0 e size new))]) else none
        | some _=>none
      | .own id ver=>match bl id with
        | some (.rows v e' size' rows)=>if ver = v ∧ e' = e ∧ size' = size ∧ (rows.length + new.length) * bytes <= 140737488355328 then some (.own id (ver + 1),[(id,some (.rows (ver + 1) e size (rows ++ new)))]) else none
        | _=>none
      | _=>none
      else none
  | .makeSlice e size bytes z l c=>match bl site with
    | none=>match ev l,ev c with
      | .d (.int _ n),.d (.int _ m)=>if 0 <= n ∧ n <= m ∧ (bytes:Int) * m <= 281474976710656 ∧ m <= 9223372036854775807 then some (.own site 0,[(site,some (.rows 0 e size (List.replicate n.toNat z)))]) else none
      | _,_=>none
    | some _=>none
  | .max l=>LA.v (aNW (l.map ev))
  | .min l=>LA.v (aPE (l.map ev))
  | .extract x i=>match ev x with
    | .tup vs=>vs[i]?.map fun v=>(v,[])
    | _=>none
  | .call f args=>match aT (fun x=>iX bl (ev x)) args with
    | none=>none
    | some ds=>match C f ds with
      | none=>none
      | some r=>qJ site bl (args.flatMap fun x=>yG bl (ev x)) r
  | .bytes x=>match ev x with
    | .d (.str s)=>some (.d (.sl (s.data.toList.map fun b=>[.int .u8 b.toNat])),[])
    | _=>none
  | .lend f args t=>match (args.map ev)[t]? with
    | some (.own id ver)=>match FH bl t 0 (args.map ev) with
      | none=>none
      | some ds=>if DO id (uO bl t 0 (args.map ev)) = true then match C f ds with
          | some (.own y [(e,size)] [rows'])=>match bl id with
            | some (.rows v e' size' _)=>if ver = v ∧ e = e' ∧ size = size' ∧ JR y = true ∧ rN rows' = true then some (toV y,[(id,some (.rows v e size rows'))]) else none
            | _=>none
          | _=>none
        else none
    | _=>none
  | .calln f args=>match aT (fun x=>iX bl (ev x)) args with
    | none=>none
    | some ds=>match C f ds with
      | some (.own x es rs)=>if JM x rs = true then qJ site bl [] (.own x es rs) else none
      | _=>none
  | .mkmap ek=>match bl site with
    | none=>some (.mp site,[(site,some (.mp ek []))])
    | some _=>none
  | .mput ek m k v=>match ev m,KK (ev k),aHf (ev v) with
    | .mp id,some n,some x=>match bl id with
      | some (.mp ek' l)=>if x.kind = ek ∧ ek' = ek ∧ l.length < 1000000000000 then some (.any,[(id,some (.mp ek (IR n x l)))]) else none
      | _=>none
    | _,_,_=>none
  | .mget z m k=>match VG bl (ev m),KK (ev k) with
    | some (ek,l),some n=>if l.isEmpty = true ∨ z.kind = ek then some (.d (B9 n z l).d,[]) else none
    | _,_=>none
  | .mputP m k v=>match ev m,V3 (ev k),aEU (ev v) with
    | .mp id,some n,some x=>match bl id with
      | some (.mp 3 l)=>if l.length < 1000000000000 then some (.any,[(id,some (.mp 3 (IR n (.b x) l)))]) else none
      | _=>none
    | _,_,_=>none
  | .mgetP m k=>match ev m,V3 (ev k) with
    | .mp id,some n=>match bl id with
      | some (.mp 3 l)=>some (.d (B9 n (.b false) l).d,[])
      | _=>none
    | _,_=>none
  | .mdel ek m k=>match ev m,KK (ev k) with
    | .d (.mp 2 []),some _=>some (.any,[])
    | .mp id,some n=>match bl id with
      | some (.mp ek' l)=>if ek' = ek then some (.any,[(id,some (.mp ek (EX n l)))]) else none
      | _=>none
    | _,_=>none
  | .cut size x lo hi=>LS bl size (ev x) (lo.map ev) (hi.map ev)
  | .isnil neg x=>LA.v (M8 bl neg (ev x))
  | .clear z x=>match ev x with
    | .nil=>some (.any,[])
    | .own id ver=>match bl id with
      | some (.rows v e size rows)=>if ver = v ∧ z.length = size then some (.any,[(id,some (.rows v e size (List.replicate rows.length z)))]) else none
      | _=>none
    | _=>none
  | .mkfn f caps=>match aT (fun x=>iQ bl (ev x)) caps with
    | none=>none
    | some ds=>some (.d (.fn f ds),caps.flatMap fun x=>CP bl (ev x))
  | .mkfnv f caps=>if (caps.map ev).all (P1 bl) = true then some (.fn f (caps.map ev),[]) else none
  | .callv g args=>match ev g with
    | .d (.fn f caps)=>match aT (fun x=>iX bl (ev x)) args with
      | none=>none
      | some ds=>match C f (ds ++ caps) with
        | none=>none
        | some r=>qJ site bl (args.flatMap fun x=>yG bl (ev x)) r
    | _=>none
def St.put (s:St) (dst:Option Nat) (v:V) (wr:List (Nat × Option aO)):St :=
  ⟨match dst with | some d=>(d,v) :: s.fr | none=>s.fr,wr ++ s.bl⟩
inductive G where
  | run | skip | bad
def BK:V->Bool->G
  | .d (.bool true),true=>.run
  | .d (.bool false),false=>.run
  | .d (.bool _),_=>.skip
  | .tup [],_=>.skip
  | _,_=>.bad
def aY.wants (fr:Nat->V) (o:aY):G:=match o.guard with
  | none=>.run
  | some (t,b)=>BK (fr t) b
def BG (C:Nat->List D->Option D) (o:aY) (s:St):Option St :=
  match o.wants s.get with
  | .run=>match cE C o.site (bN s.get) s.blk o.op with
    | some (v,wr)=>some (s.put o.dst v wr)
    | none=>none
  | .skip=>some (s.put o.dst (.tup []) [])
  | .bad=>none
def j5 (C:Nat->List D->Option D):List aY->St->Option St
  | [],s=>some s
  | o :: r,s=>match BG C o s with
    | some s'=>j5 C r s'
    | none=>none
end Vm
end
section
namespace Vm
open Go.RowKit Go.WideElems Go.MapKept Go.ChangeMaps Go.Maps
def ML.val:ML->Value
  | .b x=>.bool x
  | .i n=>.int .i64 n
def ML.lit:ML->Lit
  | .b x=>.bool x
  | .i n=>.int .i64 n
def ML.ok:ML->Prop
  | .b _=>True
  | .i n=>nD n
def aUv (x:MapEntry):Int × ML:=((match x.key with | .int _ n=>n | _=>0),match x.val with | .bool b=>.b b | .int _ n=>.i n | _=>.b false)
def aLg (ek:Nat) (x:MapEntry):Prop:=(∃ n,x.key = .int .i64 n ∧ nD n) ∧ ∃ v:ML,x.val = v.val ∧ v.kind = ek ∧ v.ok
def JT (o:Option Obj) (ek:Nat) (m:List (Int × ML)):Prop:=(ek = 0 ∨ ek = 1) ∧ ∃ es clock,o = some (.map es clock) ∧ es.size <= maxLen ∧ Stamped es clock ∧ (∀ x ∈ es.toList,aLg ek x) ∧ m = (es.toList.map aUv).foldr (fun y l=>D1 y.1 y.2 l) []
def eM (p:Int × ML):Lit × DataW Unit:=(.int .i64 p.1,.lit p.2.lit)
def SH (m:List (Int × ML)):DataW Unit:=.map (m.map eM)
def yD (ek:Nat):TypeDesc:=if ek = 0 then .int .i64 else .bool
theorem EJ {n:Int} (h:nD n):(Lit.int .i64 n).wf = true:=by
  unfold nD at h
  simp [Lit.wf,IntKind.min,IntKind.max,IntKind.signed,IntKind.bits]
  omega
theorem XR {n:Int} (h:(Lit.int .i64 n).wf = true):nD n:=by
  unfold nD
  simp [Lit.wf,IntKind.min,IntKind.max,IntKind.signed,IntKind.bits] at h
  exact ⟨by omega,by omega⟩
theorem YK (y:Int × ML):∀ l:List (Int × ML),(D1 y.1 y.2 l).map eM = DataW.insert (eM y) (l.map eM)
  | []=>rfl
  | z :: r=>by
    have e:(eM y).1.before (eM z).1 = decide (y.1 < z.1):=rfl
    simp only [D1,á,DataW.insert,e]
    by_cases c:y.1 < z.1
    · rw [Â c,Â (ö c)]; rfl
    · rw [Ã c,Ã (by simpa using c),á,YK y r]
theorem QP:∀ l:List (Int × ML),(l.foldr (fun y l=>D1 y.1 y.2 l) []).map eM = (l.map eM).foldr DataW.insert []
  | []=>rfl
  | y :: r=>by rw [List.foldr_cons,YK,QP r]; rfl
theorem aBC {α:Type} (k:Int) (v:α):∀ l:List (Int × α),(D1 k v l).length = l.length + 1
  | []=>rfl
  | y :: r=>by
    unfold D1
    split
    · rfl
    · rw [Ø,aBC k v r,Ø]
theorem FP:∀ l:List (Int × ML),(l.foldr (fun y l=>D1 y.1 y.2 l) []).length = l.length
  | []=>rfl
  | y :: r=>by rw [List.foldr_cons,aBC,FP r,Ø]
theorem aLr:∀ {a b:List (Int × ML)},a.map eM = b.map eM->a = b
  | [],[],_=>rfl
  | [],_ :: _,h=>by simp at h
  | _ :: _,[],h=>by simp at h
  | (k,v) :: a,(k',v') :: b,h=>by
    simp only [á,List.cons.injEq] at h
    obtain ⟨h1,h2⟩:=h
    rw [aLr h2]
    simp only [eM,ú,Lit.int.injEq,true_and,DataW.lit.injEq] at h1
    obtain ⟨rfl,h3⟩:=h1
    cases v <;> cases v' <;> simp [ML.lit] at h3 <;> subst h3 <;> rfl
section
variable {P:Program} {K E:TypeId} {ek:Nat}
theorem F8 (hE:P.underlying E = some (yD ek)) {v:ML} (hv:v.kind = ek) (ho:v.ok):plainElem (H:=Unit) P E v.val = some (.lit v.lit,[]):=by
  cases v with
  | b x =>
    subst hv
    exact plainElem_bool hE x
  | i n =>
    subst hv
    exact plainElem_int hE (EJ ho)
theorem CR (hE:P.underlying E = some (yD ek)) (hk:ek = 0 ∨ ek = 1) {u:Value} {z:DataW Unit × List MemPlace} (h:plainElem P E u = some z):∃ v:ML,u = v.val ∧ v.kind = ek ∧ v.ok ∧ z = (.lit v.lit,[]):=by
  rcases hk with rfl | rfl
  · obtain ⟨a,rfl,rfl,hw⟩:=plainElem_int_inv hE h
    exact ⟨.i a,rfl,rfl,XR hw,rfl⟩
  · unfold plainElem at h
    rw [show P.underlying E = some .bool from hE] at h
    cases u with
    | bool x =>
      simp only [Ä] at h
      subst h
      exact ⟨.b x,rfl,rfl,trivial,rfl⟩
    | _=>simp at h
theorem aOS (hK:P.underlying K = some (.int .i64)) {u:Value} {kl:Lit} (h:keyOf P K u = some kl):∃ n,u = .int .i64 n ∧ nD n ∧ kl = .int .i64 n:=by
  cases u <;> simp [keyOf,hK,mapKey] at h
  obtain ⟨⟨rfl,h2⟩,h3⟩:=h
  exact ⟨_,rfl,XR h2,h3.symm⟩
theorem aBN (hK:P.underlying K = some (.int .i64)) (hE:P.underlying E = some (yD ek)) {x:MapEntry} (h:aLg ek x):rd P K (plainElem P E) x = some (eM (aUv x)):=by
  obtain ⟨key,val,born⟩:=x
  obtain ⟨⟨n,h1,h2⟩,v,h3,h4,h5⟩:=h
  dsimp only at h1 h3
  subst h1; subst h3
  rw [rd_mk (keyOf_int_mk hK (EJ h2)) (F8 hE h4 h5)]
  cases v <;> rfl
theorem JT.owns (hK:P.underlying K = some (.int .i64)) (hE:P.underlying E = some (yD ek)) {w:World} {g:Nat} {m:List (Int × ML)} (h:JT w.heap[g]? ek m):w.ownsMap P K (plainElem P E) g m.length (SH m):=by
  obtain ⟨_,es,clock,h1,h2,h3,h4,rfl⟩:=h
  refine ⟨es,clock,h1,⟨h2,h3,fun x hx=>⟨_,aBN hK hE (h4 x hx)⟩⟩,?_,?_⟩
  · rw [FP,â]; simp
  · unfold SH
    rw [QP,List.map_map]
    congr 2
    refine ð fun x hx=>?_
    rw [rg_of (aBN hK hE (h4 x hx))]; rfl
theorem JT.of_owns (hK:P.underlying K = some (.int .i64)) (hE:P.underlying E = some (yD ek)) (hk:ek = 0 ∨ ek = 1) {w:World} {g n:Nat} {m:List (Int × ML)} (h:w.ownsMap P K (plainElem P E) g n (SH m)):JT w.heap[g]? ek m:=by
  obtain ⟨es,clock,h1,F,_,h5⟩:=h
  have hent:∀ x ∈ es.toList,aLg ek x:=by
    intro x hx
    obtain ⟨y,hy⟩:=F.reads x hx
    obtain ⟨z,hz,_⟩:=rd_val hy
    obtain ⟨v,q1,q2,q3,_⟩:=CR hE hk hz
    obtain ⟨a,q4,q5,_⟩:=aOS hK (rd_key hy)
    exact ⟨⟨a,q4,q5⟩,v,q1,q2,q3⟩
  refine ⟨hk,es,clock,h1,F.size,F.stamped,hent,aLr ?_⟩
  unfold SH at h5
  rw [DataW.map.injEq] at h5
  rw [h5,QP,List.map_map]
  congr 1
  refine ð fun x hx=>?_
  rw [rg_of (aBN hK hE (hent x hx))]; rfl
end
theorem aE6 (k:Int) (m:List (Int × ML)):DataW.del (SH m) (.int .i64 k) = SH (EX k m):=by
  show DataW.map ((m.map eM).filter fun p=>!p.1.sameKey (.int .i64 k)) = DataW.map ((EX k m).map eM)
  unfold EX
  rw [List.filter_map]
  congr 2
  refine List.filter_congr fun p _=>?_
  show (!decide (IntKind.i64 = .i64 ∧ p.1 = k)) = !decide (p.1 = k)
  simp
theorem aN3 (k:Int) (v:ML) (m:List (Int × ML)):DataW.put (SH m) (.int .i64 k) (.lit v.lit) = SH (IR k v m):=by
  have h:DataW.map ((m.map eM).filter fun p=>!p.1.sameKey (.int .i64 k)) = DataW.map ((EX k m).map eM):=aE6 k m
  rw [DataW.map.injEq] at h
  show DataW.map (DataW.insert (.int .i64 k,.lit v.lit) ((m.map eM).filter fun p=>!p.1.sameKey (.int .i64 k))) = DataW.map ((IR k v m).map eM)
  unfold IR
  rw [h]
  exact ă DataW.map (YK (k,v) (EX k m)).symm
theorem aPQ (k:Int) (z:ML) (m:List (Int × ML)):DataW.atKey (SH m) (.int .i64 k) (.lit z.lit) = .lit (B9 k z m).lit:=by
  unfold DataW.atKey SH B9
  dsimp only
  rw [List.find?_map]
  have e:(fun p:Lit × DataW Unit=>p.1.sameKey (.int .i64 k)) ∘ eM = fun p:Int × ML=>decide (p.1 = k):=by
    funext p
    show decide (IntKind.i64 = .i64 ∧ p.1 = k) = decide (p.1 = k)
    simp
  rw [e]
  cases m.find? fun p=>decide (p.1 = k) <;> rfl
theorem YV {a b:ML} (h:a.lit = b.lit):a = b:=by
  cases a <;> cases b <;> simp [ML.lit] at h <;> subst h <;> rfl
theorem aIp {ek:Nat} (hk:ek = 0 ∨ ek = 1):JT (some (.map #[] 0)) ek []:=⟨hk,#[],0,rfl,by simp,stamped_empty 0,fun x hx=>by simp at hx,rfl⟩
section
variable {P:Program} {t K E:TypeId} {w:World} {g ek:Nat} {m:List (Int × ML)} {z:ML}
theorem V5 (h:JT w.heap[g]? ek m) (ht:P.underlying t = some (.map K E)) (hK:P.underlying K = some (.int .i64)) (hE:P.underlying E = some (yD z.kind)) (hz:(zeroValue E).run P w = .ok z.val w) (ho:z.ok) (hk:m = [] ∨ z.kind = ek) {n:Int} (hn:nD n) :
    (Instr.lookup t (.map (some g)) (.int .i64 n) false).run P w = .ok (B9 n z m).val w:=by
  have h' : JT w.heap[g]? z.kind m:=by
    rcases hk with rfl | rfl
    · obtain ⟨_,es,clock,h1,h2,h3,h4,h5⟩:=h
      have:es.toList = []:=by
        have:=ă List.length h5
        rw [FP,â] at this
        exact Í this.symm
      exact ⟨by cases z <;> simp [ML.kind],es,clock,h1,h2,h3,fun x hx=>(by rw [this] at hx; cases hx),h5⟩
    · exact h
  have hown:=h'.owns hK hE
  obtain ⟨v,ps,hrun,hv⟩:=hown.lookup (int_keyed hK) ht hz (F8 hE rfl ho) (keyOf_int_mk hK (EJ hn))
  rw [aPQ] at hv
  obtain ⟨v',rfl,_,_,h4⟩:=CR hE (by cases z <;> simp [ML.kind]) hv
  rw [ú,DataW.lit.injEq] at h4
  rw [hrun,YV h4.1]
theorem aHD (ht:P.underlying t = some (.map K E)) (hK:P.underlying K = some (.int .i64)) (hz:(zeroValue E).run P w = .ok z.val w) {n:Int} (hn:nD n) :
    (Instr.lookup t (.map none) (.int .i64 n) false).run P w = .ok z.val w:=by
  have:=Maps.look_nil false (int_keyed hK) ht hz (keyOf_int_mk hK (EJ hn))
  simpa using this
theorem aKh (h:JT w.heap[g]? ek m) (ht:P.underlying t = some (.map K E)) (hK:P.underlying K = some (.int .i64)) (hE:P.underlying E = some (yD ek)) {v:ML} (hv:v.kind = ek) (ho:v.ok) (hlen:m.length < maxLen) {n:Int} (hn:nD n) :
    ∃ w',(Instr.mapUpdate t (.map (some g)) (.int .i64 n) v.val).run P w = .ok () w' ∧ JT w'.heap[g]? ek (IR n v m) ∧ w.grownBy w' (some g):=by
  have hown:=h.owns hK hE
  obtain ⟨w',hrun,h1,h2⟩:=hown.update (int_keyed hK) ht hlen (keyOf_int_mk hK (EJ hn)) (F8 hE hv ho)
  rw [aN3] at h1
  exact ⟨w',hrun,JT.of_owns hK hE (by cases v <;> simp [ML.kind] at hv <;> omega) h1,h2⟩
theorem aKl (h:JT w.heap[g]? ek m) (ht:P.underlying t = some (.map K E)) (hK:P.underlying K = some (.int .i64)) (hE:P.underlying E = some (yD ek)) (hk:ek = 0 ∨ ek = 1) (ty:TypeId) {n:Int} (hn:nD n) :
    ∃ w',(Builtin.delete_ #[t,K] ty #[.map (some g),.int .i64 n]).run P w = .ok (.tuple #[]) w' ∧ JT w'.heap[g]? ek (EX n m) ∧ w.grownBy w' (some g):=by
  have hown:=h.owns hK hE
  obtain ⟨w',hrun,h1,h2⟩:=hown.drop (int_keyed hK) ht (keyOf_int_mk hK (EJ hn)) ty
  rw [aE6] at h1
  exact ⟨w',hrun,JT.of_owns hK hE hk h1,h2.grown⟩
end
end Vm
end
section
namespace Vm
open Go.RowKit Go.WideElems Go.MapKept Go.ChangeMaps Go.Maps
theorem Q3:∀ (w n:Nat),(bytesLE w n).length = w
  | 0,_=>rfl
  | w + 1,n=>by simp [bytesLE,Q3 w]
theorem D4 (w n:Nat):(bytesBE w n).length = w:=by simp [bytesBE,Q3]
theorem tX (w n:Nat):bytesBE (w + 1) n = bytesBE w (n / 256) ++ [UInt8.ofNat (n % 256)]:=by simp [bytesBE,bytesLE]
theorem RL:∀ (a b:List UInt8) (x y:UInt8),a.length = b.length->bytesBefore (a ++ [x]) (b ++ [y]) = (bytesBefore a b || (a == b && decide (x < y)))
  | [],[],x,y,_=>by simp [bytesBefore]
  | [],_ :: _,_,_,h=>by simp at h
  | _ :: _,[],_,_,h=>by simp at h
  | p :: a,q :: b,x,y,h=>by
    have ih:=RL a b x y (by simpa using h)
    simp only [Č,bytesBefore,ih]
    by_cases h1:p < q
    · simp [h1]
    · by_cases h2:p = q
      · subst h2; simp [h1]
      · have h3:(p == q) = false:=by simpa using h2
        simp [h1,h3]
theorem G9:∀ (w:Nat) {n m:Nat},n < 256 ^ w->m < 256 ^ w->(bytesBE w n = bytesBE w m ↔ n = m)
  | 0,n,m,hn,hm=>by
    have:n = m:=by simp at hn hm; omega
    simp [this]
  | w + 1,n,m,hn,hm=>by
    rw [tX,tX]
    have hn' : n / 256 < 256 ^ w:=by rw [Nat.pow_succ] at hn; omega
    have hm' : m / 256 < 256 ^ w:=by rw [Nat.pow_succ] at hm; omega
    constructor
    · intro q
      have h1:=List.append_inj q (by rw [D4,D4])
      have h2:=(G9 w hn' hm').1 h1.1
      have h3:UInt8.ofNat (n % 256) = UInt8.ofNat (m % 256):=by simpa using h1.2
      have h4:=ă UInt8.toNat h3
      simp only [UInt8.toNat_ofNat'] at h4
      omega
    · rintro rfl; rfl
theorem SY:∀ (w:Nat) {n m:Nat},n < 256 ^ w->m < 256 ^ w->bytesBefore (bytesBE w n) (bytesBE w m) = decide (n < m)
  | 0,n,m,hn,hm=>by
    have:¬ n < m:=by simp at hn hm; omega
    rw [Ķ this]
    rfl
  | w + 1,n,m,hn,hm=>by
    have hn' : n / 256 < 256 ^ w:=by rw [Nat.pow_succ] at hn; omega
    have hm' : m / 256 < 256 ^ w:=by rw [Nat.pow_succ] at hm; omega
    rw [tX,tX,RL _ _ _ _ (by rw [D4,D4]),SY w hn' hm']
    have h1:(bytesBE w (n / 256) == bytesBE w (m / 256)) = decide (n / 256 = m / 256):=by
      rw [Ė,beq_iff_eq,Ñ]
      exact G9 w hn' hm'
    have h2:decide (UInt8.ofNat (n % 256) < UInt8.ofNat (m % 256)) = decide (n % 256 < m % 256):=by
      rw [Ė,Ñ,Ñ,UInt8.lt_iff_toNat_lt]
      simp only [UInt8.toNat_ofNat']
      omega
    rw [h1,h2,Ė]
    simp only [Bool.or_eq_true,ë,Ñ]
    omega
theorem QT:∀ (w v x y:Nat),y < 256 ^ w->bytesBE v x ++ bytesBE w y = bytesBE (v + w) (x * 256 ^ w + y)
  | 0,v,x,y,hy=>by
    have:y = 0:=by simpa using hy
    subst this
    simp [bytesBE,bytesLE]
  | w + 1,v,x,y,hy=>by
    have hy' : y / 256 < 256 ^ w:=by rw [Nat.pow_succ] at hy; omega
    rw [tX,← ç,QT w v x (y / 256) hy',← Ć,tX]
    have e:x * 256 ^ (w + 1) = x * 256 ^ w * 256:=by rw [Nat.pow_succ,Nat.mul_assoc]
    congr 2
    · rw [e]; omega
    · rw [e]; congr 1; omega
def Y1 (c:Int):Lit:=.string (bytesBE 16 c.toNat)
def X2 (c:Int):Prop:=0 <= c ∧ c < 340282366920938463463374607431768211456
theorem OP (a b:Int):X2 (HR a b):=by unfold X2 HR; omega
theorem JO {c:Int} (h:X2 c):c.toNat < 256 ^ 16:=by
  unfold X2 at h
  have e:(256:Nat) ^ 16 = 340282366920938463463374607431768211456:=by decide
  rw [e]
  omega
theorem aEn {c c' : Int} (h:X2 c) (h' : X2 c'):(Y1 c).before (Y1 c') = decide (c < c'):=by
  show bytesBefore _ _ = _
  rw [SY 16 (JO h) (JO h'),Ė,Ñ,Ñ]
  unfold X2 at h h'
  omega
theorem aBx {c c' : Int} (h:X2 c) (h' : X2 c'):(Y1 c).sameKey (Y1 c') = decide (c = c'):=by
  show (bytesBE 16 c.toNat == bytesBE 16 c'.toNat) = _
  rw [Ė,beq_iff_eq,Ñ,G9 16 (JO h) (JO h')]
  unfold X2 at h h'
  omega
def EW (m:List (Int × ML)):Prop:=∀ p ∈ m,X2 p.1
def eP (p:Int × ML):Lit × DataW Unit:=(Y1 p.1,.lit p.2.lit)
def US (m:List (Int × ML)):DataW Unit:=.map (m.map eP)
theorem aEw {α:Type} {k:Int} {v:α} {z:Int × α}:∀ {l:List (Int × α)},z ∈ D1 k v l->z = (k,v) ∨ z ∈ l
  | [],h=>by simp [D1] at h; exact .inl h
  | y :: r,h=>by
    unfold D1 at h
    split at h
    · rcases Û.1 h with h | h
      · exact .inl h
      · exact .inr h
    · rcases Û.1 h with h | h
      · exact .inr (by simp [h])
      · rcases aEw h with h | h
        · exact .inl h
        · exact .inr (by simp [h])
theorem EW.ins {k:Int} {v:ML} {l:List (Int × ML)} (hk:X2 k) (h:EW l):EW (D1 k v l):=fun p hp=>by
  rcases aEw hp with rfl | q
  · exact hk
  · exact h p q
theorem EW.del {k:Int} {l:List (Int × ML)} (h:EW l):EW (EX k l):=fun p hp=>h p (ī.1 hp).1
theorem UQ (y:Int × ML) (hy:X2 y.1):∀ l:List (Int × ML),EW l->(D1 y.1 y.2 l).map eP = DataW.insert (eP y) (l.map eP)
  | [],_=>rfl
  | z :: r,h=>by
    have e:(eP y).1.before (eP z).1 = decide (y.1 < z.1):=aEn hy (h z (by simp))
    simp only [D1,á,DataW.insert,e]
    by_cases c:y.1 < z.1
    · rw [Â c,Â (ö c)]; rfl
    · rw [Ã c,Ã (by simpa using c),á,UQ y hy r fun p hp=>h p (by simp [hp])]
theorem G0:∀ l:List (Int × ML),EW l->EW (l.foldr (fun y l=>D1 y.1 y.2 l) [])
  | [],_=>fun p hp=>(by cases hp)
  | y :: r,h=>EW.ins (h y (by simp)) (G0 r fun p hp=>h p (by simp [hp]))
theorem MU:∀ l:List (Int × ML),EW l->(l.foldr (fun y l=>D1 y.1 y.2 l) []).map eP = (l.map eP).foldr DataW.insert []
  | [],_=>rfl
  | y :: r,h=>by
    have hr:EW r:=fun p hp=>h p (by simp [hp])
    rw [List.foldr_cons,UQ _ (h y (by simp)) _ (G0 r hr),MU r hr]; rfl
theorem aKL {k:Int} {m:List (Int × ML)} (hk:X2 k) (h:EW m):DataW.del (US m) (Y1 k) = US (EX k m):=by
  show DataW.map ((m.map eP).filter fun p=>!p.1.sameKey (Y1 k)) = DataW.map ((EX k m).map eP)
  unfold EX
  rw [List.filter_map]
  congr 2
  refine List.filter_congr fun p hp=>?_
  show (!(Y1 p.1).sameKey (Y1 k)) = !decide (p.1 = k)
  rw [aBx (h p hp) hk]
theorem aL7 {k:Int} (v:ML) {m:List (Int × ML)} (hk:X2 k) (h:EW m):DataW.put (US m) (Y1 k) (.lit v.lit) = US (IR k v m):=by
  have h1:DataW.map ((m.map eP).filter fun p=>!p.1.sameKey (Y1 k)) = DataW.map ((EX k m).map eP):=aKL hk h
  rw [DataW.map.injEq] at h1
  show DataW.map (DataW.insert (Y1 k,.lit v.lit) ((m.map eP).filter fun p=>!p.1.sameKey (Y1 k))) = DataW.map ((IR k v m).map eP)
  unfold IR
  rw [h1]
  exact ă DataW.map (UQ (k,v) hk (EX k m) h.del).symm
theorem aKD {k:Int} (z:ML) {m:List (Int × ML)} (hk:X2 k) (h:EW m):DataW.atKey (US m) (Y1 k) (.lit z.lit) = .lit (B9 k z m).lit:=by
  unfold DataW.atKey US B9
  dsimp only
  rw [List.find?_map]
  have e:m.find? ((fun p:Lit × DataW Unit=>p.1.sameKey (Y1 k)) ∘ eP) = m.find? fun p:Int × ML=>decide (p.1 = k):=by
    induction m with
    | nil=>rfl
    | cons y m ih =>
      have h1:((fun p:Lit × DataW Unit=>p.1.sameKey (Y1 k)) ∘ eP) y = decide (y.1 = k):=aBx (h y (by simp)) hk
      rw [List.find?_cons,List.find?_cons,h1,ih fun p hp=>h p (by simp [hp])]
  rw [e]
  cases m.find? fun p=>decide (p.1 = k) <;> rfl
structure GI (P:Program) (K:TypeId):Prop where
  keyed:Keyed P K
  key:∀ a b:Int,nD a->nD b->keyOf P K (.agg #[.int .i64 a,.int .i64 b]) = some (Y1 (HR a b))
  inv:∀ {u:Value} {l:Lit},keyOf P K u = some l->∃ a b:Int,u = .agg #[.int .i64 a,.int .i64 b] ∧ nD a ∧ nD b
def aT7:Value->Int
  | .agg cs=>match cs.toList with
    | [.int _ a,.int _ b]=>HR a b
    | _=>0
  | _=>0
def aNt (x:MapEntry):Int × ML:=(aT7 x.key,match x.val with | .bool b=>.b b | _=>.b false)
def TG (x:MapEntry):Prop:=(∃ a b:Int,x.key = .agg #[.int .i64 a,.int .i64 b] ∧ nD a ∧ nD b) ∧ ∃ c:Bool,x.val = .bool c
def QE (o:Option Obj) (m:List (Int × ML)):Prop:=∃ es clock,o = some (.map es clock) ∧ es.size <= maxLen ∧ Stamped es clock ∧ (∀ x ∈ es.toList,TG x) ∧ m = (es.toList.map aNt).foldr (fun y l=>D1 y.1 y.2 l) []
theorem aPb {x:MapEntry} (h:TG x):X2 (aNt x).1:=by
  obtain ⟨⟨a,b,h1,_⟩,_⟩:=h
  show X2 (aT7 x.key)
  rw [h1]
  exact OP a b
theorem NC {es:Array MapEntry} (h:∀ x ∈ es.toList,TG x):EW (es.toList.map aNt):=fun p hp=>by
  obtain ⟨x,hx,rfl⟩:=Þ.1 hp
  exact aPb (h x hx)
theorem QE.all {o:Option Obj} {m:List (Int × ML)} (h:QE o m):EW m:=by
  obtain ⟨es,clock,_,_,_,h4,rfl⟩:=h
  exact G0 _ (NC h4)
section
variable {P:Program} {K E:TypeId}
theorem YS (hK:GI P K) (hE:P.underlying E = some (yD 1)) {x:MapEntry} (h:TG x):rd P K (plainElem P E) x = some (eP (aNt x)):=by
  obtain ⟨key,val,born⟩:=x
  obtain ⟨⟨a,b,h1,h2,h3⟩,c,h4⟩:=h
  dsimp only at h1 h4
  subst h1; subst h4
  have hv:plainElem (H:=Unit) P E (.bool c) = some (.lit (.bool c),[]):=F8 (v:=.b c) hE rfl trivial
  rw [rd_mk (hK.key a b h2 h3) hv]
  rfl
theorem QE.owns (hK:GI P K) (hE:P.underlying E = some (yD 1)) {w:World} {g:Nat} {m:List (Int × ML)} (h:QE w.heap[g]? m):w.ownsMap P K (plainElem P E) g m.length (US m):=by
  obtain ⟨es,clock,h1,h2,h3,h4,rfl⟩:=h
  refine ⟨es,clock,h1,⟨h2,h3,fun x hx=>⟨_,YS hK hE (h4 x hx)⟩⟩,?_,?_⟩
  · rw [FP,â]; simp
  · unfold US
    rw [MU _ (NC h4),List.map_map]
    congr 2
    refine ð fun x hx=>?_
    rw [rg_of (YS hK hE (h4 x hx))]; rfl
theorem aKK:∀ {a b:List (Int × ML)},EW a->EW b->a.map eP = b.map eP->a = b
  | [],[],_,_,_=>rfl
  | [],_ :: _,_,_,h=>by simp at h
  | _ :: _,[],_,_,h=>by simp at h
  | (k,v) :: a,(k',v') :: b,h1,h2,h=>by
    simp only [á,List.cons.injEq] at h
    obtain ⟨h3,h4⟩:=h
    rw [aKK (fun p hp=>h1 p (by simp [hp])) (fun p hp=>h2 p (by simp [hp])) h4]
    simp only [eP,ú,DataW.lit.injEq] at h3
    obtain ⟨h5,h6⟩:=h3
    have h7:bytesBE 16 k.toNat = bytesBE 16 k'.toNat:=by
      unfold Y1 at h5
      injection h5
    have g1:=h1 (k,v) (by simp)
    have g2:=h2 (k',v') (by simp)
    have h8:=(G9 16 (JO g1) (JO g2)).1 h7
    have h9:k = k':=by
      unfold X2 at g1 g2
      simp only at g1 g2
      omega
    rw [h9,YV h6]
theorem QE.of_owns (hK:GI P K) (hE:P.underlying E = some (yD 1)) {w:World} {g n:Nat} {m:List (Int × ML)} (hm:EW m) (h:w.ownsMap P K (plainElem P E) g n (US m)):QE w.heap[g]? m:=by
  obtain ⟨es,clock,h1,F,_,h5⟩:=h
  have hent:∀ x ∈ es.toList,TG x:=by
    intro x hx
    obtain ⟨y,hy⟩:=F.reads x hx
    obtain ⟨z,hz,_⟩:=rd_val hy
    obtain ⟨v,q1,q2,q3,_⟩:=CR hE (.inr rfl) hz
    obtain ⟨a,b,q4,q5,q6⟩:=hK.inv (rd_key hy)
    refine ⟨⟨a,b,q4,q5,q6⟩,?_⟩
    cases v with
    | b c=>exact ⟨c,q1⟩
    | i n=>simp [ML.kind] at q2
  refine ⟨es,clock,h1,F.size,F.stamped,hent,aKK hm (G0 _ (NC hent)) ?_⟩
  unfold US at h5
  rw [DataW.map.injEq] at h5
  rw [h5,MU _ (NC hent),List.map_map]
  congr 1
  refine ð fun x hx=>?_
  rw [rg_of (YS hK hE (hent x hx))]; rfl
theorem aGl {t:TypeId} {w:World} {g:Nat} {m:List (Int × ML)} {z:Bool} (h:QE w.heap[g]? m) (ht:P.underlying t = some (.map K E)) (hK:GI P K) (hE:P.underlying E = some (yD 1)) (hz:(zeroValue E).run P w = .ok (.bool z) w) {a b:Int} (ha:nD a) (hb:nD b) :
    (Instr.lookup t (.map (some g)) (.agg #[.int .i64 a,.int .i64 b]) false).run P w = .ok (B9 (HR a b) (.b z) m).val w:=by
  have hown:=h.owns hK hE
  obtain ⟨v,ps,hrun,hv⟩:=hown.lookup hK.keyed ht hz (F8 (v:=.b z) hE rfl trivial) (hK.key a b ha hb)
  rw [aKD (.b z) (OP a b) h.all] at hv
  obtain ⟨v',rfl,_,_,h4⟩:=CR hE (.inr rfl) hv
  rw [ú,DataW.lit.injEq] at h4
  rw [hrun,YV h4.1]
theorem aJi {t:TypeId} {w:World} {g:Nat} {m:List (Int × ML)} (h:QE w.heap[g]? m) (ht:P.underlying t = some (.map K E)) (hK:GI P K) (hE:P.underlying E = some (yD 1)) (c:Bool) (hlen:m.length < maxLen) {a b:Int} (ha:nD a) (hb:nD b) :
    ∃ w',(Instr.mapUpdate t (.map (some g)) (.agg #[.int .i64 a,.int .i64 b]) (.bool c)).run P w = .ok () w' ∧ QE w'.heap[g]? (IR (HR a b) (.b c) m) ∧ w.grownBy w' (some g):=by
  have hown:=h.owns hK hE
  obtain ⟨w',hrun,h1,h2⟩:=hown.update hK.keyed ht hlen (hK.key a b ha hb) (F8 (v:=.b c) hE rfl trivial)
  rw [aL7 (.b c) (OP a b) h.all] at h1
  exact ⟨w',hrun,QE.of_owns hK hE (EW.ins (OP a b) h.all.del) h1,h2⟩
theorem aGr:QE (some (.map #[] 0)) []:=⟨#[],0,rfl,by simp,stamped_empty 0,fun x hx=>by simp at hx,rfl⟩
end
def pL (o:Option Obj) (ek:Nat) (m:List (Int × ML)):Prop:=JT o ek m ∨ (ek = 3 ∧ QE o m)
theorem pL.old {o:Option Obj} {ek:Nat} {m:List (Int × ML)} (h:pL o ek m) (hk:ek ≠ 3):JT o ek m:=h.elim id fun q=>absurd q.1 hk
theorem pL.pair {o:Option Obj} {m:List (Int × ML)} (h:pL o 3 m):QE o m:=h.elim (fun q=>absurd q.1 (by decide)) fun q=>q.2
theorem pL.of {o o' : Option Obj} {ek:Nat} {m:List (Int × ML)} (h:pL o ek m) (he:∀ x,o = some x->o' = some x):pL o' ek m:=by
  rcases h with ⟨hk,es,clock,h1,h2⟩ | ⟨hk,es,clock,h1,h2⟩
  · exact .inl ⟨hk,es,clock,he _ h1,h2⟩
  · exact .inr ⟨hk,es,clock,he _ h1,h2⟩
theorem pL.obj {o:Option Obj} {ek:Nat} {m:List (Int × ML)} (h:pL o ek m):∃ es clock,o = some (.map es clock):=by
  rcases h with ⟨hk,es,clock,h1,h2⟩ | ⟨hk,es,clock,h1,h2⟩ <;> exact ⟨es,clock,h1⟩
theorem aCv {ek:Nat} (hk:ek = 0 ∨ ek = 1):pL (some (.map #[] 0)) ek []:=.inl (aIp hk)
section
variable {P:Program} {t K E:TypeId} {w:World} {g ek:Nat} {m:List (Int × ML)} {z:ML}
theorem pL.owns (hK:P.underlying K = some (.int .i64)) (hE:P.underlying E = some (yD ek)) (h:pL w.heap[g]? ek m) (hk:ek ≠ 3):w.ownsMap P K (plainElem P E) g m.length (SH m):=(h.old hk).owns hK hE
theorem aLD (h:pL w.heap[g]? ek m) (ht:P.underlying t = some (.map K E)) (hK:P.underlying K = some (.int .i64)) (hE:P.underlying E = some (yD z.kind)) (hz:(zeroValue E).run P w = .ok z.val w) (ho:z.ok) (hk:m = [] ∨ z.kind = ek) {n:Int} (hn:nD n) :
    (Instr.lookup t (.map (some g)) (.int .i64 n) false).run P w = .ok (B9 n z m).val w:=by
  rcases h with h | ⟨h3,es,clock,h1,h2,h4,h5,h6⟩
  · exact V5 h ht hK hE hz ho hk hn
  · rcases hk with rfl | hk
    · have he:es.toList = []:=by
        have:=ă List.length h6
        rw [FP,â] at this
        exact Í this.symm
      have hm:JT w.heap[g]? z.kind []:=⟨by cases z <;> simp [ML.kind],es,clock,h1,h2,h4,fun x hx=>(by rw [he] at hx; cases hx),by rw [he]; rfl⟩
      exact V5 hm ht hK hE hz ho (.inr rfl) hn
    · rw [h3] at hk
      cases z <;> simp [ML.kind] at hk
theorem aOZ (h:pL w.heap[g]? ek m) (ht:P.underlying t = some (.map K E)) (hK:P.underlying K = some (.int .i64)) (hE:P.underlying E = some (yD ek)) {v:ML} (hv:v.kind = ek) (ho:v.ok) (hlen:m.length < maxLen) {n:Int} (hn:nD n) :
    ∃ w',(Instr.mapUpdate t (.map (some g)) (.int .i64 n) v.val).run P w = .ok () w' ∧ pL w'.heap[g]? ek (IR n v m) ∧ w.grownBy w' (some g):=by
  have hk:ek ≠ 3:=by rintro rfl; cases v <;> simp [ML.kind] at hv
  obtain ⟨w',h1,h2,h3⟩:=aKh (h.old hk) ht hK hE hv ho hlen hn
  exact ⟨w',h1,.inl h2,h3⟩
theorem aQm (h:pL w.heap[g]? ek m) (ht:P.underlying t = some (.map K E)) (hK:P.underlying K = some (.int .i64)) (hE:P.underlying E = some (yD ek)) (hk:ek = 0 ∨ ek = 1) (ty:TypeId) {n:Int} (hn:nD n) :
    ∃ w',(Builtin.delete_ #[t,K] ty #[.map (some g),.int .i64 n]).run P w = .ok (.tuple #[]) w' ∧ pL w'.heap[g]? ek (EX n m) ∧ w.grownBy w' (some g):=by
  obtain ⟨w',h1,h2,h3⟩:=aKl (h.old (by rcases hk with rfl | rfl <;> decide)) ht hK hE hk ty hn
  exact ⟨w',h1,.inl h2,h3⟩
end
end Vm
end
section
namespace Vm
open Go.RowKit
abbrev Hp:=Nat->Option Obj
def Hp.le (h k:Hp):Prop:=∀ b o,h b = some o->k b = some o
def hw (w:World):Hp:=fun b=>w.heap[b]?
def Hp.cell (h:Hp) (b o:Nat):Option Value:=match h b with
  | some (.cells c _ _)=>c[o]?
  | _=>none
theorem Hp.le.refl (h:Hp):h.le h:=fun _ _ e=>e
theorem Hp.le.trans {a b c:Hp} (h:a.le b) (k:b.le c):a.le c:=fun x o e=>k x o (h x o e)
theorem Hp.cell_le {h k:Hp} (l:h.le k) {b o:Nat} {v:Value} (e:h.cell b o = some v):k.cell b o = some v:=by
  unfold Hp.cell at *
  cases hb:h b with
  | none=>simp [hb] at e
  | some x=>rw [l b x hb]; rw [hb] at e; exact e
theorem GU (w:World) (b o:Nat):w.cell? ⟨b,o,none⟩ = (hw w).cell b o:=by
  simp only [World.cell?,Hp.cell,hw]
  cases w.heap[b]? with
  | none=>rfl
  | some x=>cases x <;> rfl
structure cF extends World where
  L:Nat->Prop
  /-- slots that stay as they are -/
  F:Nat->Option Value
  /-- what the slots of callers hold -/
  O:Nat->Nat->Value
  /-- the calls that are deferred (the marks of ranges over functions) -/
  M:List Deferred
def cF.of (w:World):cF:={ w with L:=fun _=>False,F:=fun _=>none,O:=fun _ _=>undef,M:=[] }
def GB (nt:Nat) (b:cF) (dst:Option Nat):Prop:=∀ d,dst = some d->d < nt ∧ b.F d = none
def cF.own (b:cF) (g:Nat):Prop:=b.heap.size <= g ∨ b.L g
theorem cF.own_of {w:World} {g:Nat} (h:(cF.of w).own g):w.heap.size <= g:=by
  rcases h with h | h
  · exact h
  · exact h.elim
structure CX (b:cF) (w w' : World):Prop where
  os:w'.os = w.os
  tape:w'.tape = w.tape
  output:w'.output = w.output
  size:w.heap.size <= w'.heap.size
  block:∀ k,¬ b.own k->w'.heap[k]? = w.heap[k]?
theorem CX.refl (b:cF) (w:World):CX b w w:=⟨rfl,rfl,rfl,Õ _,fun _ _=>rfl⟩
theorem CX.trans {b:cF} {u v w:World} (h:CX b u v) (k:CX b v w):CX b u w :=
  ⟨k.os.trans h.os,k.tape.trans h.tape,k.output.trans h.output,ó h.size k.size,fun i hi=>(k.block i hi).trans (h.block i hi)⟩
theorem cF.lt {b:cF} {k:Nat} (h:¬ b.own k):k < b.heap.size:=Nat.lt_of_not_le fun q=>h (.inl q)
theorem CX.of {b:cF} {w w' : World} (hb:b.heap.size <= w.heap.size) (h:Below w.heap.size w w'):CX b w w' :=
  ⟨h.os,h.tape,h.output,h.size,fun k hk=>h.block k (ğ (cF.lt hk) hb)⟩
theorem CX.below {w w' : World} (h:CX (cF.of w) w w'):Below w.heap.size w w' :=
  ⟨h.os,h.tape,h.output,h.size,fun k hk=>h.block k fun q=>by have:=cF.own_of q; omega⟩
theorem CX.alloc {b:cF} {w:World} (hb:b.heap.size <= w.heap.size) (o:Obj):CX b w (w.alloc o):=CX.of hb ((Below.refl _ _).alloc (Õ _) o)
theorem CX.grown {b:cF} {w w' : World} {row:Option Nat} (hg:w.grownBy w' row) (hB:b.heap.size <= w.heap.size) (hr:∀ k,row = some k->b.own k):CX b w w' :=
  ⟨hg.os,hg.tape,hg.output,hg.size,fun k hk=>hg.block k (ğ (cF.lt hk) hB) fun e=>hk (hr k e.symm)⟩
theorem CX.drew {b:cF} {a w:World} (h:CX b a w):CX b a w.drew:=⟨h.os,h.tape,h.output,h.size,h.block⟩
def D.noTup:D->Bool
  | .tup _=>false
  | _=>true
inductive a6 (h:Hp):Value->D->Prop
  | int (k:IntKind) (n:Int):a6 h (.int k n) (.int k n)
  | bool (b:Bool):a6 h (.bool b) (.bool b)
  | str (s:ByteArray) (hs:s.size <= maxLen):a6 h (.string s) (.str s)
  | np:a6 h (.pointer none) .np
  | fn (f:Nat) (arr:Array Value) (cs:List D) (hl:arr.size = cs.length) (hr:∀ (j:Nat) (x:D),cs[j]? = some x->a6 h (arr.getD j undef) x):a6 h (.func (.func f) #[] arr) (.fn f cs)
  | sl0 (a:Option Addr) (c:Nat) (h0:a = none->c = 0):a6 h (.slice a 0 c) (.sl [])
  | sl (b off c k n:Nat) (rows:List (List D)) (cv:Nat->Nat->Value) (hn:n = rows.length) (hc:rows.length <= c)
      (hk:∀ (i:Nat) (row:List D),rows[i]? = some row->row.length = k)
      (hm:∀ (i:Nat) (row:List D) (j:Nat) (x:D),rows[i]? = some row->row[j]? = some x->h.cell b (off + i * k + j) = some (cv i j))
      (hr:∀ (i:Nat) (row:List D) (j:Nat) (x:D),rows[i]? = some row->row[j]? = some x->a6 h (cv i j) x)
      (ho:∀ (i:Nat) (row:List D) (j:Nat) (x:D),rows[i]? = some row->row[j]? = some x->(cv i j).oneCell' = true):a6 h (.slice (some ⟨b,off,none⟩) n c) (.sl rows)
  | agg (arr:Array Value) (cs:List D) (hl:arr.size = cs.length) (hr:∀ (j:Nat) (x:D),cs[j]? = some x->a6 h (arr.getD j undef) x)
      (ho:∀ (j:Nat) (x:D),cs[j]? = some x->(arr.getD j undef).oneCell' = true):a6 h (.agg arr) (.agg cs)
  | tup (arr:Array Value) (vs:List D) (hl:arr.size = vs.length) (hr:∀ (j:Nat) (x:D),vs[j]? = some x->a6 h (arr.getD j undef) x) (hn:∀ (j:Nat) (x:D),vs[j]? = some x->x.noTup = true):a6 h (.tuple arr) (.tup vs)
  | ptr (b o off n:Nat) (row:List D) (cv:Nat->Value) (hn:n = o + off)
      (hm:∀ (j:Nat) (x:D),row[j]? = some x->h.cell b (o + j) = some (cv j))
      (hr:∀ (j:Nat) (x:D),row[j]? = some x->a6 h (cv j) x)
      (ho:∀ (j:Nat) (x:D),row[j]? = some x->(cv j).oneCell' = true):a6 h (.pointer (some ⟨b,n,none⟩)) (.ptr row off)
  | mp0:a6 h (.map none) (.mp 2 [])
  | mp (g ek:Nat) (m:List (Int × ML)) (hm:pL (h g) ek m):a6 h (.map (some g)) (.mp ek m)
theorem pL.le {h k:Hp} (l:h.le k) {g ek:Nat} {m:List (Int × ML)} (hm:pL (h g) ek m):pL (k g) ek m:=by
  exact hm.of fun x hx=>l g x hx
theorem a6.mono {h k:Hp} (l:h.le k) {v:Value} {x:D} (r:a6 h v x):a6 k v x:=by
  induction r with
  | int=>exact .int _ _
  | bool=>exact .bool _
  | str s hs=>exact .str s hs
  | np=>exact .np
  | fn f arr cs hl hr ih=>exact .fn f arr cs hl ih
  | sl0 a c h0=>exact .sl0 a c h0
  | sl b off c kk n rows cv hn hc hk hm hr ho ih=>exact .sl b off c kk n rows cv hn hc hk (fun i row j x h1 h2=>Hp.cell_le l (hm i row j x h1 h2)) ih ho
  | agg arr cs hl hr ho ih=>exact .agg arr cs hl ih ho
  | tup arr vs hl hr hn ih=>exact .tup arr vs hl ih hn
  | ptr b o off n row cv hn hm hr ho ih=>exact .ptr b o off n row cv hn (fun j x h1=>Hp.cell_le l (hm j x h1)) ih ho
  | mp0=>exact .mp0
  | mp g ek m hm=>exact .mp g ek m (hm.le l)
def aJQ:Nat->Option (List D):=fun g=>if g = 0 then some [.int .i64 6,.int .i64 7,.int .i64 10,.int .i64 12,.int .i64 13,.int .i64 14,.int .i64 15,.int .i64 16,.int .i64 20,.int .i64 21] else none
def IW (h:Hp):Prop:=∀ (g:Nat) (row:List D),aJQ g = some row->∃ cv:Nat->Value,∀ (j:Nat) (x:D),row[j]? = some x->h.cell g j = some (cv j) ∧ a6 h (cv j) x ∧ (cv j).oneCell' = true
theorem IW.mono {h k:Hp} (l:h.le k) (H:IW h):IW k:=fun g row e=>by
  obtain ⟨cv,q⟩:=H g row e
  exact ⟨cv,fun j x hx=>⟨Hp.cell_le l (q j x hx).1,(q j x hx).2.1.mono l,(q j x hx).2.2⟩⟩
def D.atom:D->Bool
  | .agg _ | .tup _=>false
  | _=>true
theorem a6.one {h:Hp} {v:Value} {x:D} (r:a6 h v x) (hx:x.atom = true):v.oneCell' = true:=by
  cases r <;> first | rfl | simp [D.atom] at hx
def e9:Value->Option Nat
  | .pointer (some a)=>some a.block
  | .slice (some a) _ _=>some a.block
  | .map (some g)=>some g
  | _=>none
def aO.ver? : aO->Option Nat
  | .rows v _ _ _=>some v
  | .froz v _=>some v
  | .box _=>none
  | .fbox _=>none
  | .outer _=>none
  | .mp _ _=>none
  | .fmp _ _=>none
def aO.isMp:aO->Bool
  | .mp _ _ | .fmp _ _=>true
  | _=>false
def aO.isBox:aO->Bool
  | .box _ | .fbox _=>true
  | _=>false
def RC (hd:Nat->Value) (bl:Nat->Option aO) (v:Value):V->Prop
  | .ptr id off=>(∃ b,bl id = some b ∧ b.isBox = true) ∧ ∃ g,hd id = .pointer (some ⟨g,0,none⟩) ∧ v = .pointer (some ⟨g,off,none⟩)
  | _=>False
def R1 (h:Hp) (hd:Nat->Value) (bl:Nat->Option aO) (v:Value):V->Prop
  | .any=>True
  | .d x=>x.atom = true ∧ a6 h v x
  | .nil=>v = .slice none 0 0
  | .ptr id off=>(∃ b,bl id = some b ∧ b.isBox = true) ∧ ∃ g,hd id = .pointer (some ⟨g,0,none⟩) ∧ v = .pointer (some ⟨g,off,none⟩)
  | .own id ver=>∃ b c,bl id = some b ∧ b.ver? = some c ∧ ver <= c ∧ v.oneCell' = true ∧ (ver = c->v = hd id)
  | .orow id ver i off=>∃ b c,bl id = some b ∧ b.ver? = some c ∧ ver <= c ∧ v.oneCell' = true ∧ ∀ e size rows,b = .rows ver e size rows->∃ g b n c,hd id = .slice (some ⟨g,b,none⟩) n c ∧ v = .pointer (some ⟨g,b + (i * size + off),none⟩)
  | .fn f caps=>∃ arr:Array Value,v = .func (.func f) #[] arr ∧ arr.size = caps.length ∧ ∀ j x,caps[j]? = some x->RC hd bl (arr.getD j undef) x
  | .mp id=>(∃ b,bl id = some b ∧ b.isMp = true) ∧ v = hd id ∧ ∃ g,hd id = .map (some g)
  | .agg _ | .tup _=>False
def R2 (h:Hp) (hd:Nat->Value) (bl:Nat->Option aO) (v:Value):V->Prop
  | .agg cs=>∃ arr,v = .agg arr ∧ arr.size = cs.length ∧ ∀ j x,cs[j]? = some x->R1 h hd bl (arr.getD j undef) x ∧ (arr.getD j undef).oneCell' = true
  | x=>R1 h hd bl v x
def R3 (h:Hp) (hd:Nat->Value) (bl:Nat->Option aO) (v:Value):V->Prop
  | .tup vs=>∃ arr,v = .tuple arr ∧ arr.size = vs.length ∧ ∀ j x,vs[j]? = some x->R2 h hd bl (arr.getD j undef) x
  | x=>R2 h hd bl v x
def nA (w:World) (e size:Nat) (v:Value) (n:Nat) (xs:List Value):Prop:=xs.length = n * size ∧
  ((v = .slice none 0 0 ∧ n = 0) ∨ ∃ g o cap cur,v = .slice (some ⟨g,o * size,none⟩) n cap ∧ w.heap[g]? = some (.cells cur e (0,0)) ∧ n <= cap ∧ cap <= maxLen ∧ (o + cap) * size <= cur.size ∧ (cur.toList.drop (o * size)).take (n * size) = xs)
theorem w9 {w:World} {base e size n:Nat} {v:Value} {xs:List Value} (h:w.ownsRow base e size v n xs):nA w e size v n xs:=by
  refine ⟨h.1,?_⟩
  rcases h.2 with q | ⟨g,cap,cur,q1,q2,q3,q4,q5,q6,q7⟩
  · exact .inl q
  · exact .inr ⟨g,0,cap,cur,by simpa using q1,q3,q4,q5,by simp [q6],by simpa using q7⟩
theorem nA.lt {w:World} {e size n:Nat} {v:Value} {xs:List Value} (h:nA w e size v n xs):∀ g,e9 v = some g->g < w.heap.size:=by
  intro g hg
  rcases h.2 with ⟨rfl,_⟩ | ⟨g',o,cap,cur,rfl,q,_⟩
  · cases hg
  · cases hg; exact (Ï.1 q).1
theorem nA.one {w:World} {e size n:Nat} {v:Value} {xs:List Value} (h:nA w e size v n xs):v.oneCell' = true:=by
  rcases h.2 with ⟨rfl,_⟩ | ⟨g',o,cap,cur,rfl,q,_⟩ <;> rfl
theorem nA.num {w:World} {e size n:Nat} {v:Value} {xs:List Value} (h:nA w e size v n xs):e9 v = v.ownBlock:=by
  rcases h.2 with ⟨rfl,_⟩ | ⟨g',o,cap,cur,rfl,q,_⟩ <;> rfl
theorem nA.cells {w:World} {e size n:Nat} {v:Value} {xs:List Value} (h:nA w e size v n xs) {g b m c:Nat} (hv:v = .slice (some ⟨g,b,none⟩) m c):∀ (j:Nat) (u:Value),xs[j]? = some u->w.cell? ⟨g,b + j,none⟩ = some u:=by
  intro j u hj
  rcases h.2 with ⟨rfl,_⟩ | ⟨g',o,cap,cur,rfl,q,q1,q2,q3,q4⟩
  · cases hv
  · cases hv
    rw [← q4,Ò] at hj
    split at hj
    · rw [Ö] at hj
      have:cur[o * size + j]? = some u:=by simpa using hj
      simp [World.cell?,q,this]
    · cases hj
def jE (h:Hp) (size:Nat) (rows:List (List D)) (xs:List Value):Prop :=
  ∀ i row,rows[i]? = some row->row.length = size ∧ ∀ j x,row[j]? = some x->x.atom = true ∧ ∃ u,xs[i * size + j]? = some u ∧ a6 h u x
def BR (base:cF) (w:World) (h:Hp) (hd:Nat->Value) (bl:Nat->Option aO) (id:Nat):aO->Prop
  | .box cs=>∃ g arr e,hd id = .pointer (some ⟨g,0,none⟩) ∧ base.own g ∧ w.heap[g]? = some (.cells arr e (0,0)) ∧ arr.size = cs.length ∧
      (∀ j x,cs[j]? = some x->R1 h hd bl (arr.getD j undef) x ∧ (arr.getD j undef).oneCell' = true) ∧ h g = none
  | .rows ver e size rows=>0 < size ∧ rows.length <= maxLen ∧ (∃ xs,nA w e size (hd id) rows.length xs ∧ jE h size rows xs) ∧ ∀ g,e9 (hd id) = some g->h g = none ∧ base.own g
  | .froz ver rows=>a6 h (hd id) (.sl rows)
  | .fbox cs=>a6 h (hd id) (.ptr cs 0)
  | .outer cs=>∀ j x,cs[j]? = some x->R3 h hd bl (base.O id j) x
  | .mp ek m=>∃ g,hd id = .map (some g) ∧ base.own g ∧ pL w.heap[g]? ek m ∧ h g = none
  | .fmp ek m=>a6 h (hd id) (.mp ek m)
def aO.live:aO->Bool
  | .fmp _ _=>false
  | .froz _ _=>false
  | .fbox _=>false
  | .outer _=>false
  | _=>true
structure Rl (nt:Nat) (w0:cF) (h0:Hp) (fr:Nat->V) (bl:Nat->Option aO) (a:Act) (w:World) (h:Hp) (hd:Nat->Value):Prop where
  tmps:a.tmps.size = nt
  defers:a.defers = w0.M
  fixed:∀ t v,w0.F t = some v->a.tmps.getD t undef = v
  below:CX w0 w0.toWorld w
  hle:h.le (hw w)
  h0le:h0.le h
  glob:IW h0
  hbase:∀ b,¬ w0.own b->h b = h0 b
  frame:∀ t,R3 h hd bl (a.tmps.getD t undef) (fr t)
  blk:∀ id b,bl id = some b->BR w0 w h hd bl id b
  sep:∀ i j bi bj g,bl i = some bi->bl j = some bj->bi.live = true->bj.live = true->e9 (hd i) = some g->e9 (hd j) = some g->i = j
theorem Rl.globs {nt:Nat} {w0:cF} {h0:Hp} {fr:Nat->V} {bl:Nat->Option aO} {a:Act} {w:World} {h:Hp} {hd:Nat->Value} (r:Rl nt w0 h0 fr bl a w h hd):IW h:=r.glob.mono r.h0le
def A7 (hd hd' : Nat->Value) (id:Nat):aO->aO->Prop
  | .box _,.box _=>hd' id = hd id
  | .box _,.fbox _=>hd' id = hd id
  | .fbox _,.fbox _=>hd' id = hd id
  | .rows v e s _,.rows v' e' s' _=>(v' = v ∧ e' = e ∧ s' = s ∧ hd' id = hd id) ∨ v < v'
  | .rows v _ _ _,.froz v' _=>v' = v ∧ hd' id = hd id
  | .froz v _,.froz v' _=>v' = v ∧ hd' id = hd id
  | .outer _,.outer _=>True
  | .mp e _,.mp e' _=>e' = e ∧ hd' id = hd id
  | .mp e _,.fmp e' _=>e' = e ∧ hd' id = hd id
  | .fmp e _,.fmp e' _=>e' = e ∧ hd' id = hd id
  | _,_=>False
def Kp (hd hd' : Nat->Value) (bl bl' : Nat->Option aO):Prop:=∀ id b,bl id = some b->∃ b',bl' id = some b' ∧ A7 hd hd' id b b'
theorem A7.refl (hd:Nat->Value) (id:Nat) (b:aO):A7 hd hd id b b:=by cases b <;> simp [A7]
theorem Kp.refl (hd:Nat->Value) (bl:Nat->Option aO):Kp hd hd bl bl:=fun id b h=>⟨b,h,A7.refl hd id b⟩
section
variable {h h' : Hp} {hd hd' : Nat->Value} {bl bl' : Nat->Option aO} {v:Value}
theorem RC.keep (k:Kp hd hd' bl bl') {v:Value}:∀ {x:V},RC hd bl v x->RC hd' bl' v x:=by
  intro x r
  cases x with
  | ptr id off =>
    obtain ⟨⟨b,hb,hx⟩,g,hg,e⟩:=r
    obtain ⟨b',hb',kk⟩:=k _ _ hb
    cases b <;> cases b' <;> simp only [A7] at kk <;> first | (simp [aO.isBox] at hx; done) | exact ⟨⟨_,hb',rfl⟩,g,kk.trans hg,e⟩
  | _=>exact r.elim
theorem R1.keep (l:h.le h') (k:Kp hd hd' bl bl'):∀ {x:V},R1 h hd bl v x->R1 h' hd' bl' v x:=by
  intro x r
  cases x with
  | any=>trivial
  | d x=>exact ⟨r.1,r.2.mono l⟩
  | nil=>exact r
  | agg cs=>exact r
  | tup cs=>exact r
  | ptr id off =>
    obtain ⟨⟨b,hb,hx⟩,g,hg,e⟩:=r
    obtain ⟨b',hb',kk⟩:=k _ _ hb
    cases b <;> cases b' <;> simp only [A7] at kk <;> first | (simp [aO.isBox] at hx; done) | exact ⟨⟨_,hb',rfl⟩,g,kk.trans hg,e⟩
  | own id ver =>
    obtain ⟨b,c,hb,hc,hle,h1,he⟩:=r
    obtain ⟨b',hb',kk⟩:=k _ _ hb
    cases b <;> cases b' <;> simp only [A7] at kk <;> simp only [aO.ver?,Ä,reduceCtorEq] at hc
    · rcases kk with ⟨rfl,_,_,kk⟩ | kk
      · exact ⟨_,_,hb',rfl,by omega,h1,fun e=>(he (by omega)).trans kk.symm⟩
      · exact ⟨_,_,hb',rfl,by omega,h1,fun e=>by omega⟩
    · obtain ⟨rfl,kk⟩:=kk
      exact ⟨_,_,hb',rfl,by omega,h1,fun e=>(he (by omega)).trans kk.symm⟩
    · obtain ⟨rfl,kk⟩:=kk
      exact ⟨_,_,hb',rfl,by omega,h1,fun e=>(he (by omega)).trans kk.symm⟩
  | orow id ver i off =>
    obtain ⟨b,c,hb,hc,hle,h1,he⟩:=r
    obtain ⟨b',hb',kk⟩:=k _ _ hb
    cases b <;> cases b' <;> simp only [A7] at kk <;> simp only [aO.ver?,Ä,reduceCtorEq] at hc
    · rcases kk with ⟨rfl,rfl,rfl,kk⟩ | kk
      · refine ⟨_,_,hb',rfl,by omega,h1,fun e s rows eq=>?_⟩
        cases eq
        rw [kk]
        exact he _ _ _ rfl
      · exact ⟨_,_,hb',rfl,by omega,h1,fun e s rows eq=>by cases eq; omega⟩
    · exact ⟨_,_,hb',rfl,by omega,h1,fun e s rows eq=>by cases eq⟩
    · exact ⟨_,_,hb',rfl,by omega,h1,fun e s rows eq=>by cases eq⟩
  | fn f caps =>
    obtain ⟨arr,e,hs,hr⟩:=r
    exact ⟨arr,e,hs,fun j x hx=>(hr j x hx).keep k⟩
  | mp id =>
    obtain ⟨⟨b,hb,hx⟩,e,g,hg⟩:=r
    obtain ⟨b',hb',kk⟩:=k _ _ hb
    cases b <;> cases b' <;> simp only [A7] at kk <;> first | (simp [aO.isMp] at hx; done) | exact ⟨⟨_,hb',rfl⟩,e.trans kk.2.symm,g,kk.2.trans hg⟩
theorem R1.one {x:V} (r:R1 h hd bl v x) (hx:x ≠ .any):v.oneCell' = true:=by
  cases x with
  | any=>exact absurd rfl hx
  | d x=>exact r.2.one r.1
  | nil=>rw [show v = _ from r]; rfl
  | agg cs=>exact r.elim
  | tup cs=>exact r.elim
  | ptr id off=>obtain ⟨_,g,_,rfl⟩:=r; rfl
  | own id ver=>obtain ⟨b,c,hb,hc,hle,h1,he⟩:=r; exact h1
  | orow id ver i off=>obtain ⟨b,c,hb,hc,hle,h1,he⟩:=r; exact h1
  | fn f caps=>obtain ⟨arr,rfl,_⟩:=r; rfl
  | mp id=>obtain ⟨_,rfl,g,hg⟩:=r; rw [hg]; rfl
theorem R2.of1 {x:V} (r:R1 h hd bl v x):R2 h hd bl v x:=by
  cases x <;> first | exact r | exact r.elim
theorem R3.of2 {x:V} (r:R2 h hd bl v x):R3 h hd bl v x:=by
  cases x <;> first | exact r | exact r.elim
theorem R2.keep (l:h.le h') (k:Kp hd hd' bl bl'):∀ {x:V},R2 h hd bl v x->R2 h' hd' bl' v x:=by
  intro x r
  cases x with
  | agg cs =>
    obtain ⟨arr,e,hs,hr⟩:=r
    exact ⟨arr,e,hs,fun j x hx=>⟨(hr j x hx).1.keep l k,(hr j x hx).2⟩⟩
  | _=>exact R2.of1 (R1.keep l k r)
theorem R3.keep (l:h.le h') (k:Kp hd hd' bl bl'):∀ {x:V},R3 h hd bl v x->R3 h' hd' bl' v x:=by
  intro x r
  cases x with
  | tup cs =>
    obtain ⟨arr,e,hs,hr⟩:=r
    exact ⟨arr,e,hs,fun j x hx=>(hr j x hx).keep l k⟩
  | _=>exact R3.of2 (R2.keep l k r)
theorem jE.mono {size:Nat} {rows:List (List D)} {xs:List Value} (l:h.le h') (r:jE h size rows xs):jE h' size rows xs:=fun i row hi =>
  ⟨(r i row hi).1,fun j x hx=>⟨((r i row hi).2 j x hx).1,by obtain ⟨u,h1,h2⟩:=((r i row hi).2 j x hx).2; exact ⟨u,h1,h2.mono l⟩⟩⟩
end
theorem CT {base:Nat} {w:World} {e size n:Nat} {v:Value} {xs:List Value} (h:w.ownsRow base e size v n xs):e9 v = v.ownBlock:=by
  rcases h.2 with ⟨rfl,_⟩ | ⟨g,cap,cur,rfl,_⟩ <;> rfl
theorem BR.keep {base:cF} {w w' : World} {h h' : Hp} {hd hd' : Nat->Value} {bl bl' : Nat->Option aO} {id:Nat} {b:aO} (l:h.le h') (k:Kp hd hd' bl bl')
    (hh:hd' id = hd id) (hw:b.live = true->∀ g,e9 (hd id) = some g->w'.heap[g]? = w.heap[g]? ∧ (h g = none->h' g = none)) (r:BR base w h hd bl id b):BR base w' h' hd' bl' id b:=by
  cases b with
  | box cs =>
    obtain ⟨g,arr,e,h1,h2,h3,h4,h5,h6⟩:=r
    obtain ⟨q1,q2⟩:=hw rfl g (by rw [h1]; rfl)
    exact ⟨g,arr,e,hh.trans h1,h2,q1.trans h3,h4,fun j x hx=>⟨(h5 j x hx).1.keep l k,(h5 j x hx).2⟩,q2 h6⟩
  | rows ver e size rows =>
    obtain ⟨h1,h2,⟨xs,h3,h4⟩,h5⟩:=r
    refine ⟨h1,h2,⟨xs,?_,h4.mono l⟩,fun g hg=>⟨(hw rfl g (hh ▸ hg)).2 (h5 g (hh ▸ hg)).1,(h5 g (hh ▸ hg)).2⟩⟩
    rw [hh]
    refine ⟨h3.1,?_⟩
    rcases h3.2 with q | ⟨g,o,cap,cur,q1,q3,q4⟩
    · exact .inl q
    · exact .inr ⟨g,o,cap,cur,q1,((hw rfl g (by rw [q1]; rfl)).1).trans q3,q4⟩
  | froz ver rows =>
    show a6 h' (hd' id) (.sl rows)
    rw [hh]
    exact a6.mono l r
  | fbox cs =>
    show a6 h' (hd' id) (.ptr cs 0)
    rw [hh]
    exact a6.mono l r
  | outer cs=>exact fun j x hx=>R3.keep l k (r j x hx)
  | mp ek m =>
    obtain ⟨g,h1,h2,h3,h4⟩:=r
    obtain ⟨q1,q2⟩:=hw rfl g (by rw [h1]; rfl)
    exact ⟨g,hh.trans h1,h2,by rw [q1]; exact h3,q2 h4⟩
  | fmp ek m =>
    show a6 h' (hd' id) (.mp ek m)
    rw [hh]
    exact a6.mono l r
theorem BR.num {base:cF} {w:World} {h:Hp} {hd:Nat->Value} {bl:Nat->Option aO} {id:Nat} {b:aO} (hb:b.live = true) (r:BR base w h hd bl id b) {g:Nat} (hg:e9 (hd id) = some g) :
    base.own g ∧ g < w.heap.size ∧ h g = none:=by
  cases b with
  | box cs =>
    obtain ⟨g',arr,e,h1,h2,h3,h4,h5,h6⟩:=r
    rw [h1] at hg
    obtain rfl:=ã hg
    exact ⟨h2,(Ï.1 h3).1,h6⟩
  | rows ver e size rows =>
    obtain ⟨h1,h2,⟨xs,h3,h4⟩,h5⟩:=r
    have:=h3.lt g hg
    exact ⟨(h5 g hg).2,this,(h5 g hg).1⟩
  | froz ver rows=>simp [aO.live] at hb
  | fbox cs=>simp [aO.live] at hb
  | outer cs=>simp [aO.live] at hb
  | mp ek m =>
    obtain ⟨g',h1,h2,h3,h4⟩:=r
    rw [h1] at hg
    obtain rfl:=ã hg
    obtain ⟨es,clock,h5⟩:=h3.obj
    exact ⟨h2,(Ï.1 h5).1,h4⟩
  | fmp ek m=>simp [aO.live] at hb
end Vm
end
section
namespace Vm
open Go.RowKit
theorem bP {α β:Type} {f:α->Option β}:∀ {l:List α} {ys:List β},aT f l = some ys->l.length = ys.length ∧ ∀ (i:Nat) (x:α),l[i]? = some x->∃ y,ys[i]? = some y ∧ f x = some y
  | [],ys,h=>by simp [aT] at h; subst h; simp
  | x :: r,ys,h=>by
    simp only [aT] at h
    split at h
    · cases h
    · rename_i y hy
      split at h
      · cases h
      · rename_i zs hz
        cases h
        obtain ⟨h1,h2⟩:=bP hz
        refine ⟨by simp [h1],fun i x' hx=>?_⟩
        cases i with
        | zero=>simp at hx; subst hx; exact ⟨y,by simp,hy⟩
        | succ i=>simpa using h2 i x' (by simpa using hx)
theorem bU {α β:Type} {f:α->Option β} {l:List α} {ys:List β} (h:aT f l = some ys) {i:Nat} {y:β} (hy:ys[i]? = some y):∃ x,l[i]? = some x ∧ f x = some y:=by
  obtain ⟨h1,h2⟩:=bP h
  have:i < l.length:=by rw [h1]; exact (Å.1 hy).1
  obtain ⟨y',q1,q2⟩:=h2 i l[i] (by simp [this])
  rw [hy] at q1
  cases q1
  exact ⟨l[i],by simp [this],q2⟩
def fB (fr:Nat->V) (dst:Option Nat) (v:V):Nat->V:=fun t=>if dst = some t then v else fr t
def bQ (bl:Nat->Option aO) (wr:List (Nat × Option aO)):Nat->Option aO:=fun id=>lk wr (bl id) id
theorem WU (bl:Nat->Option aO) (i:Nat) (b:Option aO) (wr:List (Nat × Option aO)):bQ bl ((i,b) :: wr) = bQ (bQ bl wr) [(i,b)]:=by
  funext id; simp [bQ,lk]
theorem nL (bl:Nat->Option aO) (i:Nat) (b:Option aO):bQ bl [(i,b)] i = b:=by simp [bQ,lk]
theorem y9 (bl:Nat->Option aO) {i j:Nat} (b:Option aO) (h:j ≠ i):bQ bl [(i,b)] j = bl j:=by simp [bQ,lk,h]
theorem UI (a:Act) (dst:Option Nat) (cv:Value) (t nt:Nat) (hs:a.tmps.size = nt) (hd:∀ d,dst = some d->d < nt) :
    (a.put dst cv).tmps.getD t undef = if dst = some t then cv else a.tmps.getD t undef:=by
  cases dst with
  | none=>simp [Act.put]
  | some d =>
    have:=hd d rfl
    simp only [Act.put,Ä]
    by_cases e:d = t
    · subst e; simp [hs,this]
    · simp [e,Ĕ e]
section
variable {nt:Nat} {w0:cF} {w w' : World} {h0 h h' : Hp} {fr:Nat->V} {bl bl' : Nat->Option aO} {a:Act} {hd hd' : Nat->Value}
theorem Rl.put (r:Rl nt w0 h0 fr bl a w h hd) (dst:Option Nat) (cv:Value) (v:V) (hdst:GB nt w0 dst)
    (hl:h.le h') (hle:h'.le (hw w')) (hb:∀ b,¬ w0.own b->h' b = h b) (hbel:CX w0 w w') (hk:Kp hd hd' bl bl')
    (hB:∀ id b,bl' id = some b->BR w0 w' h' hd' bl' id b)
    (hsep:∀ i j bi bj g,bl' i = some bi->bl' j = some bj->bi.live = true->bj.live = true->e9 (hd' i) = some g->e9 (hd' j) = some g->i = j)
    (hv:R3 h' hd' bl' cv v):Rl nt w0 h0 (fB fr dst v) bl' (a.put dst cv) w' h' hd' where
  tmps:=by cases dst <;> simp [Act.put,r.tmps]
  defers:=by cases dst <;> simp [Act.put,r.defers]
  fixed:=fun t u hF=>by
    rw [UI a dst cv t nt r.tmps fun d e=>(hdst d e).1]
    by_cases e:dst = some t
    · rw [(hdst t e).2] at hF; cases hF
    · rw [Ã e]; exact r.fixed t u hF
  below:=r.below.trans hbel
  hle:=hle
  h0le:=r.h0le.trans hl
  glob:=r.glob
  hbase:=fun b h=>(hb b h).trans (r.hbase b h)
  frame:=fun t=>by
    rw [UI a dst cv t nt r.tmps fun d e=>(hdst d e).1]
    unfold fB
    by_cases e:dst = some t
    · rw [Â e,Â e]; exact hv
    · rw [Ã e,Ã e]; exact (r.frame t).keep hl hk
  blk:=hB
  sep:=hsep
theorem Rl.put0 (r:Rl nt w0 h0 fr bl a w h hd) (dst:Option Nat) (cv:Value) (v:V) (hdst:GB nt w0 dst) (hv:R3 h hd bl cv v) :
    Rl nt w0 h0 (fB fr dst v) bl (a.put dst cv) w h hd :=
  r.put dst cv v hdst (Hp.le.refl _) r.hle (fun _ _=>rfl) (CX.refl _ _) (Kp.refl _ _) r.blk r.sep hv
theorem Rl.turn (r:Rl nt w0 h0 fr bl a w h hd) (dst:Option Nat) (cv:Value) (v:V) (hdst:GB nt w0 dst)
    (id:Nat) (b:aO) (hv' : Value) (hbel:CX w0 w w') (hle:h.le (hw w'))
    (hk:∀ b0,bl id = some b0->A7 hd (fun i=>if i = id then hv' else hd i) id b0 b)
    (hoth:∀ g,g < w.heap.size->(∀ b0,bl id = some b0->b0.live = true->e9 (hd id) ≠ some g)->w'.heap[g]? = w.heap[g]?)
    (hB:BR w0 w' h (fun i=>if i = id then hv' else hd i) (bQ bl [(id,some b)]) id b)
    (hnew:∀ g,e9 hv' = some g->b.live = true->w.heap.size <= g ∨ ∃ b0,bl id = some b0 ∧ b0.live = true ∧ e9 (hd id) = some g)
    (hvv:R3 h (fun i=>if i = id then hv' else hd i) (bQ bl [(id,some b)]) cv v) :
    Rl nt w0 h0 (fB fr dst v) (bQ bl [(id,some b)]) (a.put dst cv) w' h (fun i=>if i = id then hv' else hd i):=by
  have hkp:Kp hd (fun i=>if i = id then hv' else hd i) bl (bQ bl [(id,some b)]):=by
    intro j c hj
    by_cases e:j = id
    · subst e; exact ⟨b,nL _ _ _,hk c hj⟩
    · refine ⟨c,by rw [y9 _ _ e]; exact hj,?_⟩
      have:=A7.refl hd j c
      cases c <;> simp only [A7] at this ⊢ <;> simp [e]
  refine r.put dst cv v hdst (Hp.le.refl _) hle (fun _ _=>rfl) hbel hkp ?_ ?_ hvv
  · intro j c hj
    by_cases e:j = id
    · subst e
      rw [nL] at hj
      obtain rfl:=ã hj
      exact hB
    · rw [y9 _ _ e] at hj
      refine (r.blk j c hj).keep (Hp.le.refl _) hkp (by simp [e]) fun hl g hg=>⟨?_,fun q=>q⟩
      refine hoth g ((r.blk j c hj).num hl hg).2.1 fun b0 hb0 hl0 hg0=>e (r.sep j id c b0 g hj hb0 hl hl0 hg hg0)
  · intro i j bi bj g hi hj li lj gi gj
    by_cases ei:i = id
    · subst ei
      by_cases ej:j = i
      · exact ej.symm
      · rw [y9 _ _ ej] at hj
        rw [nL] at hi
        obtain rfl:=ã hi
        simp only [Â] at gi
        rw [Ã ej] at gj
        exfalso
        rcases hnew g gi li with q | ⟨b0,q1,q2,q3⟩
        · have:=((r.blk j bj hj).num lj gj).2.1; omega
        · exact ej (r.sep j i bj b0 g hj q1 lj q2 gj q3)
    · rw [y9 _ _ ei] at hi
      rw [Ã ei] at gi
      by_cases ej:j = id
      · subst ej
        rw [nL] at hj
        obtain rfl:=ã hj
        simp only [Â] at gj
        exfalso
        rcases hnew g gj lj with q | ⟨b0,q1,q2,q3⟩
        · have:=((r.blk i bi hi).num li gi).2.1; omega
        · exact ei (r.sep i j bi b0 g hi q1 li q2 gi q3)
      · rw [y9 _ _ ej] at hj
        rw [Ã ej] at gj
        exact r.sep i j bi bj g hi hj li lj gi gj
theorem V0 (hle:h.le (hw w)) (o:Obj):h.le (hw (w.alloc o)):=fun b x e=>by
  have:=hle b x e
  have hlt:b < w.heap.size:=(Ï.1 this).1
  exact (heap_alloc_old w o b hlt).trans this
theorem JE (hle:h.le (hw w)) {g:Nat} (hg:w.heap.size <= g):h g = none:=by
  cases e:h g with
  | none=>rfl
  | some o=>exact absurd (Ï.1 (hle g o e)).1 (by omega)
theorem aEJ {base e size n:Nat} {v:Value} {xs:List Value} (h:w.ownsRow base e size v n xs):v.oneCell' = true:=by
  rcases h.2 with ⟨rfl,_⟩ | ⟨g,cap,cur,rfl,_⟩ <;> rfl
theorem Rl.newBox (r:Rl nt w0 h0 fr bl a w h hd) (dst:Option Nat) (hdst:GB nt w0 dst) (site:Nat) (hs:bl site = none) (arr:Array Value) (e:TypeId) (cs:List V)
    (hl:arr.size = cs.length) (hr:∀ j x,cs[j]? = some x->R1 h hd bl (arr.getD j undef) x ∧ (arr.getD j undef).oneCell' = true) :
    ∃ hd',Rl nt w0 h0 (fB fr dst (.ptr site 0)) (bQ bl [(site,some (.box cs))]) (a.put dst (.pointer (some ⟨w.heap.size,0,none⟩))) (w.alloc (.cells arr e)) h hd':=by
  have hbase:w0.heap.size <= w.heap.size:=r.below.size
  have hkp:Kp hd (fun i=>if i = site then .pointer (some ⟨w.heap.size,0,none⟩) else hd i) bl (bQ bl [(site,some (.box cs))]):=by
    intro j c hj
    have e:j ≠ site:=fun e=>by rw [e,hs] at hj; cases hj
    refine ⟨c,by rw [y9 _ _ e]; exact hj,?_⟩
    have:=A7.refl hd j c
    cases c <;> simp only [A7] at this ⊢ <;> simp [e]
  refine ⟨_,r.turn dst _ _ hdst site (.box cs) (.pointer (some ⟨w.heap.size,0,none⟩)) (CX.alloc hbase _) (V0 r.hle _)
    (fun b0 hb0=>by rw [hs] at hb0; cases hb0) (fun g hg _=>heap_alloc_old w _ g hg) ?_ (fun g hg _=>.inl (by simp [e9] at hg; omega)) ?_⟩
  · exact ⟨w.heap.size,arr,e,by simp,.inl hbase,ĭ w _,hl,fun j x hx=>⟨(hr j x hx).1.keep (Hp.le.refl _) hkp,(hr j x hx).2⟩,JE r.hle (Õ _)⟩
  · exact ⟨⟨_,nL _ _ _,rfl⟩,w.heap.size,by simp,rfl⟩
theorem Rl.newRows' (r:Rl nt w0 h0 fr bl a w h hd) (dst:Option Nat) (hdst:GB nt w0 dst) (site:Nat) (hs:bl site = none) (e size:Nat) (rows:List (List D)) (hv:Value) (xs:List Value)
    (hsz:0 < size) (hlen:rows.length <= maxLen) (hg:w.grownBy w' none) (hown:w'.ownsRow w.heap.size e size hv rows.length xs) (hin:jE h size rows xs) :
    ∃ hd' : Nat->Value,hd' site = hv ∧ Rl nt w0 h0 (fB fr dst (.own site 0)) (bQ bl [(site,some (.rows 0 e size rows))]) (a.put dst hv) w' h hd':=by
  have hbase:w0.heap.size <= w.heap.size:=r.below.size
  have hown':=w9 hown
  have hbel:CX w0 w w':=CX.grown hg hbase (fun k hk=>by cases hk)
  have hle:h.le (hw w'):=fun b o hb=>by
    have:=r.hle b o hb
    exact (hg.block b (Ï.1 this).1 (by simp)).trans this
  refine ⟨_,by simp,r.turn dst _ _ hdst site (.rows 0 e size rows) hv hbel hle
    (fun b0 hb0=>by rw [hs] at hb0; cases hb0) (fun g hg' _=>hg.block g hg' (by simp)) ?_ (fun g hg' _=>.inl (hown.lt g ((CT hown) ▸ hg')).1) ?_⟩
  · exact ⟨hsz,hlen,⟨xs,by simpa using hown',hin⟩,fun g hg'=>⟨JE r.hle (hown.lt g ((CT hown) ▸ (by simpa using hg'))).1,.inl (ó hbase (hown.lt g ((CT hown) ▸ (by simpa using hg'))).1)⟩⟩
  · exact ⟨_,0,nL _ _ _,rfl,Õ _,aEJ hown,fun _=>by simp⟩
theorem Rl.newRows (r:Rl nt w0 h0 fr bl a w h hd) (dst:Option Nat) (hdst:GB nt w0 dst) (site:Nat) (hs:bl site = none) (e size:Nat) (rows:List (List D)) (hv:Value) (xs:List Value)
    (hsz:0 < size) (hlen:rows.length <= maxLen) (hg:w.grownBy w' none) (hown:w'.ownsRow w.heap.size e size hv rows.length xs) (hin:jE h size rows xs) :
    ∃ hd',Rl nt w0 h0 (fB fr dst (.own site 0)) (bQ bl [(site,some (.rows 0 e size rows))]) (a.put dst hv) w' h hd' :=
  let ⟨hd',_,q⟩:=r.newRows' dst hdst site hs e size rows hv xs hsz hlen hg hown hin
  ⟨hd',q⟩
theorem Rl.grow (r:Rl nt w0 h0 fr bl a w h hd) (dst:Option Nat) (hdst:GB nt w0 dst) (id ver e size:Nat) (rows rows' : List (List D)) (hb:bl id = some (.rows ver e size rows)) (hv:Value) (xs:List Value)
    (hlen:rows'.length <= maxLen) (hg:w.grownBy w' (hd id).ownBlock) (hown:nA w' e size hv rows'.length xs) (hin:jE h size rows' xs)
    (hnew:∀ g,e9 hv = some g->w.heap.size <= g ∨ e9 (hd id) = some g) :
    ∃ hd',Rl nt w0 h0 (fB fr dst (.own id (ver + 1))) (bQ bl [(id,some (.rows (ver + 1) e size rows'))]) (a.put dst hv) w' h hd':=by
  have hbase:w0.heap.size <= w.heap.size:=r.below.size
  obtain ⟨q1,q2,⟨xs0,q3,q4⟩,q5⟩:=r.blk id _ hb
  have hnum:e9 (hd id) = (hd id).ownBlock:=q3.num
  have hbel:CX w0 w w':=CX.grown hg hbase (fun k hk=>(q5 k (hnum.trans hk)).2)
  have hle:h.le (hw w'):=fun b o hb'=>by
    have:=r.hle b o hb'
    refine (hg.block b (Ï.1 this).1 fun e'=>?_).trans this
    rw [(q5 b (hnum.trans e'.symm)).1] at hb'
    cases hb'
  refine ⟨_,r.turn dst _ _ hdst id (.rows (ver + 1) e size rows') hv hbel hle
    (fun b0 hb0=>by rw [hb] at hb0; cases hb0; exact .inr (Nat.lt_succ_self _)) (fun g hg' hne=>hg.block g hg' (fun e'=>hne _ hb rfl (hnum.trans e'.symm))) ?_
    (fun g hg' _=>(hnew g hg').imp (fun q=>q) fun q=>⟨_,hb,rfl,q⟩) ?_⟩
  · refine ⟨q1,hlen,⟨xs,by simpa using hown,hin⟩,fun g hg'=>?_⟩
    simp only [Â] at hg'
    rcases hnew g hg' with q | q
    · exact ⟨JE r.hle q,.inl (ó hbase q)⟩
    · exact q5 g q
  · exact ⟨_,ver + 1,nL _ _ _,rfl,Õ _,hown.one,fun _=>by simp⟩
theorem Rl.setBox (r:Rl nt w0 h0 fr bl a w h hd) (dst:Option Nat) (hdst:GB nt w0 dst) (cv:Value) (id:Nat) (cs cs' : List V) (hb:bl id = some (.box cs)) (g:Nat) (arr arr' : Array Value) (e:TypeId)
    (hd0:hd id = .pointer (some ⟨g,0,none⟩)) (hl:arr'.size = cs'.length) (hr:∀ j x,cs'[j]? = some x->R1 h hd bl (arr'.getD j undef) x ∧ (arr'.getD j undef).oneCell' = true)
    (hg' : w'.heap[g]? = some (.cells arr' e (0,0))) (hg:w.grownBy w' (some g)) :
    ∃ hd',Rl nt w0 h0 (fB fr dst .any) (bQ bl [(id,some (.box cs'))]) (a.put dst cv) w' h hd':=by
  have hbase:w0.heap.size <= w.heap.size:=r.below.size
  have hnum:e9 (hd id) = some g:=by rw [hd0]; rfl
  obtain ⟨n1,n2,n3⟩:=(r.blk id _ hb).num rfl hnum
  have hbel:CX w0 w w':=CX.grown hg hbase (fun k hk=>by cases hk; exact n1)
  have hle:h.le (hw w'):=fun b o hb'=>by
    have:=r.hle b o hb'
    refine (hg.block b (Ï.1 this).1 fun e'=>?_).trans this
    cases e'
    rw [n3] at hb'
    cases hb'
  have hfe:(fun i=>if i = id then hd id else hd i) = hd:=by funext i; by_cases e:i = id <;> simp [e]
  have hkp:Kp hd hd bl (bQ bl [(id,some (.box cs'))]):=by
    intro j c hj
    by_cases e:j = id
    · subst e; rw [hb] at hj; cases hj; exact ⟨_,nL _ _ _,rfl⟩
    · exact ⟨c,by rw [y9 _ _ e]; exact hj,A7.refl hd j c⟩
  have:=r.turn (w':=w') dst cv .any hdst id (.box cs') (hd id) hbel hle
    (fun b0 hb0=>by rw [hb] at hb0; cases hb0; simp [A7]) (fun k hk hne=>hg.block k hk (fun e'=>by cases e'; exact hne _ hb rfl hnum)) ?_
    (fun k hk _=>.inr ⟨_,hb,rfl,hk⟩) trivial
  · rw [hfe] at this; exact ⟨_,this⟩
  · rw [hfe]
    exact ⟨g,arr',e,hd0,n1,hg',hl,fun j x hx=>⟨(hr j x hx).1.keep (Hp.le.refl _) hkp,(hr j x hx).2⟩,n3⟩
theorem Rl.setRows (r:Rl nt w0 h0 fr bl a w h hd) (dst:Option Nat) (hdst:GB nt w0 dst) (cv:Value) (id ver e size:Nat) (rows rows' : List (List D)) (hb:bl id = some (.rows ver e size rows)) (xs:List Value)
    (hlen:rows'.length = rows.length) (hg:w.grownBy w' (hd id).ownBlock) (hown:nA w' e size (hd id) rows'.length xs) (hin:jE h size rows' xs) :
    Rl nt w0 h0 (fB fr dst .any) (bQ bl [(id,some (.rows ver e size rows'))]) (a.put dst cv) w' h hd:=by
  have hbase:w0.heap.size <= w.heap.size:=r.below.size
  obtain ⟨q1,q2,⟨xs0,q3,q4⟩,q5⟩:=r.blk id _ hb
  have hnum:e9 (hd id) = (hd id).ownBlock:=q3.num
  have hbel:CX w0 w w':=CX.grown hg hbase (fun k hk=>(q5 k (hnum.trans hk)).2)
  have hle:h.le (hw w'):=fun b o hb'=>by
    have:=r.hle b o hb'
    refine (hg.block b (Ï.1 this).1 fun e'=>?_).trans this
    rw [(q5 b (hnum.trans e'.symm)).1] at hb'
    cases hb'
  have hfe:(fun i=>if i = id then hd id else hd i) = hd:=by funext i; by_cases e:i = id <;> simp [e]
  have:=r.turn (w':=w') dst cv .any hdst id (.rows ver e size rows') (hd id) hbel hle
    (fun b0 hb0=>by rw [hb] at hb0; cases hb0; simp [A7]) (fun g hg' hne=>hg.block g hg' (fun e'=>hne _ hb rfl (hnum.trans e'.symm))) ?_
    (fun g hg' _=>.inr ⟨_,hb,rfl,hg'⟩) trivial
  · rw [hfe] at this; exact this
  · rw [hfe]
    exact ⟨q1,by omega,⟨xs,hown,hin⟩,q5⟩
theorem Rl.newMap (r:Rl nt w0 h0 fr bl a w h hd) (dst:Option Nat) (hdst:GB nt w0 dst) (site:Nat) (hs:bl site = none) (ek:Nat) (hk:pL (some (.map #[] 0)) ek []) :
    ∃ hd',Rl nt w0 h0 (fB fr dst (.mp site)) (bQ bl [(site,some (.mp ek []))]) (a.put dst (.map (some w.heap.size))) (w.alloc (.map #[] 0)) h hd':=by
  have hbase:w0.heap.size <= w.heap.size:=r.below.size
  refine ⟨_,r.turn dst _ _ hdst site (.mp ek []) (.map (some w.heap.size)) (CX.alloc hbase _) (V0 r.hle _)
    (fun b0 hb0=>by rw [hs] at hb0; cases hb0) (fun g hg _=>heap_alloc_old w _ g hg) ?_ (fun g hg _=>.inl (by simp [e9] at hg; omega)) ?_⟩
  · refine ⟨w.heap.size,by simp,.inl hbase,?_,JE r.hle (Õ _)⟩
    rw [ĭ w _]
    exact hk
  · exact ⟨⟨_,nL _ _ _,rfl⟩,by simp,w.heap.size,by simp⟩
theorem Rl.setMap (r:Rl nt w0 h0 fr bl a w h hd) (dst:Option Nat) (hdst:GB nt w0 dst) (cv:Value) (id ek:Nat) (m m' : List (Int × ML)) (hb:bl id = some (.mp ek m)) (g:Nat)
    (hd0:hd id = .map (some g)) (hm:pL w'.heap[g]? ek m') (hg:w.grownBy w' (some g)) :
    ∃ hd',Rl nt w0 h0 (fB fr dst .any) (bQ bl [(id,some (.mp ek m'))]) (a.put dst cv) w' h hd':=by
  have hbase:w0.heap.size <= w.heap.size:=r.below.size
  have hnum:e9 (hd id) = some g:=by rw [hd0]; rfl
  obtain ⟨n1,n2,n3⟩:=(r.blk id _ hb).num rfl hnum
  have hbel:CX w0 w w':=CX.grown hg hbase (fun k hk=>by cases hk; exact n1)
  have hle:h.le (hw w'):=fun b o hb'=>by
    have:=r.hle b o hb'
    refine (hg.block b (Ï.1 this).1 fun e'=>?_).trans this
    cases e'
    rw [n3] at hb'
    cases hb'
  have hfe:(fun i=>if i = id then hd id else hd i) = hd:=by funext i; by_cases e:i = id <;> simp [e]
  have:=r.turn (w':=w') dst cv .any hdst id (.mp ek m') (hd id) hbel hle
    (fun b0 hb0=>by rw [hb] at hb0; cases hb0; simp [A7]) (fun k hk hne=>hg.block k hk (fun e'=>by cases e'; exact hne _ hb rfl hnum)) ?_
    (fun k hk _=>.inr ⟨_,hb,rfl,hk⟩) trivial
  · rw [hfe] at this; exact ⟨_,this⟩
  · rw [hfe]
    exact ⟨g,hd0,n1,hm,n3⟩
def wX (bl:Nat->Option aO) (wr:List (Nat × Option aO)):Prop:=∀ p ∈ wr,(∃ v e s rows,bl p.1 = some (.rows v e s rows) ∧ p.2 = some (.froz v rows)) ∨
  (∃ cs ds,bl p.1 = some (.box cs) ∧ p.2 = some (.fbox ds) ∧ aT (nF bl) cs = some ds ∧ ∀ q ∈ cs.flatMap (GC bl),q ∈ wr) ∨
  ∃ ek m,bl p.1 = some (.mp ek m) ∧ p.2 = some (.fmp ek m)
theorem wX.live {bl:Nat->Option aO} {wr:List (Nat × Option aO)} (hok:wX bl wr) {p:Nat × Option aO} (hp:p ∈ wr):∃ b,bl p.1 = some b ∧ b.live = true:=by
  rcases hok p hp with ⟨v,e,s,rows,h1,_⟩ | ⟨cs,ds,h1,_⟩ | ⟨ek,m,h1,_⟩
  · exact ⟨_,h1,rfl⟩
  · exact ⟨_,h1,rfl⟩
  · exact ⟨_,h1,rfl⟩
theorem OQ {h:Hp} {g off:Nat} {row:List D} (r:a6 h (.pointer (some ⟨g,0,none⟩)) (.ptr row 0)):a6 h (.pointer (some ⟨g,off,none⟩)) (.ptr row off):=by
  generalize hz:(0:Nat) = z at r
  cases r with
  | ptr b o off' n row cv hn hm hr ho=>exact .ptr g o off off row cv (by omega) hm hr ho
def H5 (w:World) (h:Hp) (hd:Nat->Value) (wr:List (Nat × Option aO)):Hp:=fun g=>if wr.any (fun p=>e9 (hd p.1) == some g) then w.heap[g]? else h g
theorem uK (r:Rl nt w0 h0 fr bl a w h hd) (wr:List (Nat × Option aO)):h.le (H5 w h hd wr):=fun b o e=>by
  unfold H5
  split
  · exact r.hle b o e
  · exact e
theorem MN (r:Rl nt w0 h0 fr bl a w h hd) (wr:List (Nat × Option aO)):(H5 w h hd wr).le (hw w):=fun b o e=>by
  unfold H5 at e
  split at e
  · exact e
  · exact r.hle b o e
theorem UP (r:Rl nt w0 h0 fr bl a w h hd) (wr:List (Nat × Option aO)) (hok:wX bl wr):∀ b,¬ w0.own b->H5 w h hd wr b = h b:=fun b hb=>by
  unfold H5
  split
  · rename_i q
    obtain ⟨p,hp,he⟩:=Ĝ.1 q
    obtain ⟨b,h1,h2⟩:=hok.live hp
    exact absurd ((r.blk p.1 _ h1).num h2 (by simpa using he)).1 hb
  · rfl
theorem WF {e size n:Nat} {v:Value} {xs:List Value} {rows:List (List D)} (hown:nA w e size v n xs) (hin:jE h size rows xs) (hn:rows.length = n) (hsz:0 < size)
    (l:h.le h') (hb:∀ g,e9 v = some g->h' g = w.heap[g]?):a6 h' v (.sl rows):=by
  rcases hown.2 with ⟨rfl,h0⟩ | ⟨g,o,cap,cur,rfl,hh,hc,hm,hs,ht⟩
  · obtain rfl:rows = []:=Í (by omega)
    exact .sl0 none 0 (fun _=>rfl)
  · have key:∀ i row j x,rows[i]? = some row->row[j]? = some x->∃ u,cur[o * size + i * size + j]? = some u ∧ a6 h u x ∧ x.atom = true:=by
      intro i row j x h1 h2
      obtain ⟨q1,q2⟩:=hin i row h1
      obtain ⟨q3,u,q4,q5⟩:=q2 j x h2
      refine ⟨u,?_,q5,q3⟩
      rw [← ht,Ò] at q4
      split at q4
      · rw [Ö,← Ć] at q4
        simpa using q4
      · cases q4
    refine .sl g (o * size) cap size n rows (fun i j=>cur.getD (o * size + i * size + j) undef) hn.symm (by omega) (fun i row h1=>(hin i row h1).1) ?_ ?_ ?_
    · intro i row j x h1 h2
      obtain ⟨u,q1,q2,q3⟩:=key i row j x h1 h2
      have:h' g = w.heap[g]?:=hb g rfl
      simp only [Hp.cell,this,hh,q1]
      simp [q1]
    · intro i row j x h1 h2
      obtain ⟨u,q1,q2,q3⟩:=key i row j x h1 h2
      have:cur.getD (o * size + i * size + j) undef = u:=by simp [q1]
      rw [this]; exact q2.mono l
    · intro i row j x h1 h2
      obtain ⟨u,q1,q2,q3⟩:=key i row j x h1 h2
      have:cur.getD (o * size + i * size + j) undef = u:=by simp [q1]
      rw [this]; exact q2.one q3
theorem aAZ (r:Rl nt w0 h0 fr bl a w h hd) (wr:List (Nat × Option aO)) {p:Nat × Option aO} (hp:p ∈ wr) {v e s:Nat} {rows:List (List D)} (hb:bl p.1 = some (.rows v e s rows)):a6 (H5 w h hd wr) (hd p.1) (.sl rows):=by
  obtain ⟨q1,q2,⟨xs,q3,q4⟩,q5⟩:=r.blk p.1 _ hb
  refine WF q3 q4 rfl q1 (uK r wr) fun g hg=>?_
  unfold H5
  rw [Â (Ĝ.2 ⟨p,hp,by simp [hg]⟩)]
theorem aIY (r:Rl nt w0 h0 fr bl a w h hd) (wr:List (Nat × Option aO)) {p:Nat × Option aO} (hp:p ∈ wr) {ek:Nat} {m:List (Int × ML)} (hb:bl p.1 = some (.mp ek m)):a6 (H5 w h hd wr) (hd p.1) (.mp ek m):=by
  obtain ⟨g,q1,q2,q3,q4⟩:=r.blk p.1 _ hb
  rw [q1]
  refine .mp g ek m ?_
  unfold H5
  rw [Â (Ĝ.2 ⟨p,hp,by simp [q1,e9]⟩)]
  exact q3
theorem GG {α:Type}:∀ (l:List (Nat × α)) (d:α) (t:Nat),lk l d t = d ∨ ∃ p ∈ l,p.1 = t ∧ p.2 = lk l d t
  | [],d,t=>.inl rfl
  | (k,v) :: r,d,t=>by
    unfold lk
    by_cases e:t = k
    · rw [Â e]; exact .inr ⟨(k,v),by simp,e.symm,rfl⟩
    · rw [Ã e]
      rcases GG r d t with q | ⟨p,q1,q2⟩
      · exact .inl q
      · exact .inr ⟨p,by simp [q1],q2⟩
theorem aDn {α:Type}:∀ (l:List (Nat × α)) (d:α) (t:Nat),(∃ p ∈ l,p.1 = t)->∃ p ∈ l,p.1 = t ∧ p.2 = lk l d t
  | [],d,t,⟨p,hp,_⟩=>by cases hp
  | (k,v) :: r,d,t,h=>by
    unfold lk
    by_cases e:t = k
    · rw [Â e]; exact ⟨(k,v),by simp,e.symm,rfl⟩
    · rw [Ã e]
      obtain ⟨p,hp,hpe⟩:=h
      obtain ⟨p',q1,q2⟩:=aDn r d t ⟨p,by rcases Û.1 hp with rfl | q; exact absurd hpe.symm e; exact q,hpe⟩
      exact ⟨p',by simp [q1],q2⟩
theorem G8 (r:Rl nt w0 h0 fr bl a w h hd) (wr:List (Nat × Option aO)) {v:Value} {x:V} {d:D} (hx:R1 h hd bl v x) (e:nF bl x = some d) (hw:∀ p ∈ GC bl x,p ∈ wr) :
    a6 (H5 w h hd wr) v d ∧ d.atom = true:=by
  cases x with
  | d y=>simp only [nF,Ä] at e; subst e; exact ⟨hx.2.mono (uK r wr),hx.1⟩
  | nil=>simp only [nF,Ä] at e; subst e; rw [show v = _ from hx]; exact ⟨.sl0 none 0 (fun _=>rfl),rfl⟩
  | own id ver =>
    obtain ⟨b,c,hb,hc,hle,h1,he⟩:=hx
    simp only [nF,hb] at e
    cases b with
    | rows v' e' s rows =>
      simp only [aO.ver?,Ä] at hc
      simp only at e
      split at e
      · rename_i hv
        cases e
        rw [he (by omega)]
        exact ⟨aAZ r wr (p:=(id,some (.froz v' rows))) (hw _ (by simp [GC,hb])) hb,rfl⟩
      · cases e
    | froz v' rows =>
      simp only [aO.ver?,Ä] at hc
      simp only at e
      split at e
      · rename_i hv
        cases e
        rw [he (by omega)]
        exact ⟨a6.mono (uK r wr) (r.blk id _ hb),rfl⟩
      · cases e
    | _=>cases e
  | ptr id off =>
    obtain ⟨⟨b,hb,hbx⟩,g,hg,rfl⟩:=hx
    simp only [nF,hb] at e
    cases b with
    | fbox cs =>
      simp only [Ä] at e
      subst e
      have:=r.blk id _ hb
      simp only [BR,hg] at this
      exact ⟨a6.mono (uK r wr) (OQ this),rfl⟩
    | _=>cases e
  | fn f caps =>
    obtain ⟨arr,rfl,hs,hr⟩:=hx
    simp only [nF] at e
    split at e
    case isFalse=>cases e
    rename_i he
    have hcn:caps = []:=by simpa using he
    subst hcn
    have hae:arr = #[]:=by simpa using hs
    subst hae
    cases e
    exact ⟨.fn f #[] [] rfl (fun j x e=>by simp at e),rfl⟩
  | mp id =>
    obtain ⟨⟨b,hb,hbx⟩,rfl,g,hg⟩:=hx
    simp only [nF,hb] at e
    cases b with
    | mp ek m =>
      simp only [Ä] at e
      subst e
      exact ⟨aIY r wr (p:=(id,some (.fmp ek m))) (hw _ (by simp [GC,hb])) hb,rfl⟩
    | fmp ek m =>
      simp only [Ä] at e
      subst e
      exact ⟨a6.mono (uK r wr) (r.blk id _ hb),rfl⟩
    | _=>cases e
  | _=>cases e
theorem aL0 (r:Rl nt w0 h0 fr bl a w h hd) (wr:List (Nat × Option aO)) {p:Nat × Option aO} (hp:p ∈ wr) {cs:List V} {ds:List D} (hb:bl p.1 = some (.box cs)) (hm:aT (nF bl) cs = some ds) (hq:∀ q ∈ cs.flatMap (GC bl),q ∈ wr):a6 (H5 w h hd wr) (hd p.1) (.ptr ds 0):=by
  obtain ⟨g,arr,e,h1,h2,h3,h4,h5,h6⟩:=r.blk p.1 _ hb
  obtain ⟨m1,m2⟩:=bP hm
  have hg:H5 w h hd wr g = some (.cells arr e (0,0)):=by
    unfold H5
    rw [Â (Ĝ.2 ⟨p,hp,by simp [h1,e9]⟩)]
    exact h3
  have key:∀ (j:Nat) (x:D),ds[j]? = some x->j < arr.size ∧ a6 (H5 w h hd wr) (arr.getD j undef) x ∧ (arr.getD j undef).oneCell' = true:=by
    intro j x hx
    obtain ⟨y,hy,hyx⟩:=bU hm hx
    have hj:j < arr.size:=by rw [h4]; exact (Å.1 hy).1
    exact ⟨hj,(G8 r wr (h5 j y hy).1 hyx fun q hq'=>hq q (Î.2 ⟨y,Ê hy,hq'⟩)).1,(h5 j y hy).2⟩
  rw [h1]
  refine .ptr g 0 0 0 ds (fun j=>arr.getD j undef) rfl ?_ (fun j x hx=>(key j x hx).2.1) (fun j x hx=>(key j x hx).2.2)
  intro j x hx
  have hj:=(key j x hx).1
  simp [Hp.cell,hg,hj]
theorem Rl.freeze (r:Rl nt w0 h0 fr bl a w h hd) (wr:List (Nat × Option aO)) (hok:wX bl wr):Rl nt w0 h0 fr (bQ bl wr) a w (H5 w h hd wr) hd:=by
  have hcase:∀ id b',bQ bl wr id = some b'->(bl id = some b' ∧ (∀ p ∈ wr,p.1 ≠ id)) ∨ (b'.live = false ∧ ∃ p ∈ wr,p.1 = id ∧ p.2 = some b'):=by
    intro id b' hb
    unfold bQ at hb
    by_cases hm:∃ p ∈ wr,p.1 = id
    · obtain ⟨p,q1,q2,q3⟩:=aDn wr (bl id) id hm
      rw [hb] at q3
      refine .inr ⟨?_,p,q1,q2,q3⟩
      rcases hok p q1 with ⟨v,e,s,rows,q4,q5⟩ | ⟨cs,ds,q4,q5,_⟩ | ⟨ek,m,q4,q5⟩
      · rw [q3] at q5; cases q5; rfl
      · rw [q3] at q5; cases q5; rfl
      · rw [q3] at q5; cases q5; rfl
    · rcases GG wr (bl id) id with q | ⟨p,q1,q2,q3⟩
      · exact .inl ⟨q ▸ hb,fun p hp e=>hm ⟨p,hp,e⟩⟩
      · exact absurd ⟨p,q1,q2⟩ hm
  have hkp:Kp hd hd bl (bQ bl wr):=by
    intro id b hb
    by_cases hm:∃ p ∈ wr,p.1 = id
    · obtain ⟨p,q1,q2,q3⟩:=aDn wr (bl id) id hm
      rcases hok p q1 with ⟨v,e,s,rows,q4,q5⟩ | ⟨cs,ds,q4,q5,_⟩ | ⟨ek,m,q4,q5⟩
      · rw [q2,hb] at q4
        cases q4
        exact ⟨.froz v rows,by unfold bQ; rw [← q3,q5],by simp [A7]⟩
      · rw [q2,hb] at q4
        cases q4
        exact ⟨.fbox ds,by unfold bQ; rw [← q3,q5],by simp [A7]⟩
      · rw [q2,hb] at q4
        cases q4
        exact ⟨.fmp ek m,by unfold bQ; rw [← q3,q5],by simp [A7]⟩
    · refine ⟨b,?_,A7.refl hd id b⟩
      unfold bQ
      rcases GG wr (bl id) id with q | ⟨p,q1,q2,q3⟩
      · rw [q]; exact hb
      · exact absurd ⟨p,q1,q2⟩ hm
  refine { tmps:=r.tmps,defers:=r.defers,fixed:=r.fixed,below:=r.below,hle:=MN r wr,h0le:=r.h0le.trans (uK r wr),glob:=r.glob,hbase:=fun b hb=>(UP r wr hok b hb).trans (r.hbase b hb),
           frame:=fun t=>(r.frame t).keep (uK r wr) hkp,blk:=?_,sep:=?_ }
  · intro id b' hb'
    rcases hcase id b' hb' with ⟨hb,hn⟩ | ⟨hl,p,hp,rfl,hpe⟩
    · refine (r.blk id b' hb).keep (uK r wr) hkp rfl fun hl g hg=>⟨rfl,fun hn'=>?_⟩
      unfold H5
      rw [Ã]
      · exact hn'
      · intro q
        obtain ⟨p,hp,he⟩:=Ĝ.1 q
        obtain ⟨b,h1,h2⟩:=hok.live hp
        exact hn p hp (r.sep p.1 id _ b' g h1 hb h2 hl (by simpa using he) hg)
    · rcases hok p hp with ⟨v,e,s,rows,q4,q5⟩ | ⟨cs,ds,q4,q5,q6,q7⟩ | ⟨ek,m,q4,q5⟩
      · rw [hpe] at q5
        cases q5
        exact aAZ r wr hp q4
      · rw [hpe] at q5
        cases q5
        exact aL0 r wr hp q4 q6 q7
      · rw [hpe] at q5
        cases q5
        exact aIY r wr hp q4
  · intro i j bi bj g hi hj li lj gi gj
    rcases hcase i bi hi with ⟨hi',_⟩ | ⟨q,_⟩
    · rcases hcase j bj hj with ⟨hj',_⟩ | ⟨q,_⟩
      · exact r.sep i j bi bj g hi' hj' li lj gi gj
      · rw [q] at lj; cases lj
    · rw [q] at li; cases li
end
end Vm
end
section
namespace Vm
open Go.RowKit
def AQ:Value->Option V
  | .int k n=>some (.d (.int k n))
  | .bool b=>some (.d (.bool b))
  | .string s=>if s.size <= maxLen then some (.d (.str s)) else none
  | .slice none 0 0=>some .nil
  | .pointer none=>some (.d .np)
  | .map none=>some (.d (.mp 2 []))
  | v=>if v.oneCell' then some .any else none
def aPj:Value->Option V
  | .agg arr=>(aT AQ arr.toList).map .agg
  | .tuple _=>none
  | v=>AQ v
def iA:Operand->Option bO
  | .tmp t=>some (.t t)
  | .const v=>(aPj v).map .c
  | .func f=>some (.c (.d (.fn f [])))
  | .global g=>(aJQ g).map fun row=>.c (.d (.ptr row 0))
def X5:Option Operand->Option (Option bO)
  | none=>some none
  | some x=>(iA x).map some
def dOf:V->Option D
  | .d x=>if x.atom then some x else none
  | .nil=>some (.sl [])
  | _=>none
def lZ (P:Program) (t:TypeId):Option Bool:=match P.underlying t with
  | some (.struct _) | some (.array _ _)=>some true
  | some _=>some false
  | none=>none
def HJ (P:Program):Nat->TypeId->Option (List Nat)
  | 0,_=>none
  | d + 1,t=>match P.underlying t with
    | some (.int _)=>some [0]
    | some .bool=>some [1]
    | some .string=>some [2]
    | some (.struct fs)=>if P.stoodInHeld t then none else fs.toList.foldl (fun (acc:Option (List Nat)) f=>match acc with
        | none=>none
        | some ks=>if f.offset = ks.length ∧ f.name ≠ "_" then match HJ P d f.type,P.info? f.type with
            | some l,some i=>if i.size = l.length then some (ks ++ l) else none
            | _,_=>none
          else none) (some [])
    | _=>none
def LZ (P:Program) (op:BinOp) (t:TypeId) (x y:Operand):Option fT:=match iA x,iA y with
    | some x',some y'=>match op with
      | .shl=>match P.underlying t with
        | some (.int _)=>some (.bin 0 .shl x' y')
        | _=>none
      | .shr=>match P.underlying t with
        | some (.int _)=>some (.bin 0 .shr x' y')
        | _=>none
      | op=>match P.underlying t with
        | some (.int _) | some .string=>some (.bin 0 op x' y')
        | some .bool=>some (.bin 1 op x' y')
        | some (.struct _)=>match op,HJ P 20 t with
          | .eql,some ks=>if P.eqGuardType P.depth t = false then some (.eqS ks false x' y') else none
          | .neq,some ks=>if P.eqGuardType P.depth t = false then some (.eqS ks true x' y') else none
          | _,_=>none
        | some (.slice _)=>match op,y' with
          | .eql,.c .nil=>some (.isnil false x')
          | .neq,.c .nil=>some (.isnil true x')
          | _,_=>none
        | some (.pointer _)=>match op,y' with
          | .eql,.c (.d .np)=>some (.isnp false x')
          | .neq,.c (.d .np)=>some (.isnp true x')
          | _,_=>none
        | _=>none
    | _,_=>none
def UC (P:Program) (t:TypeId):Option (TypeId × TypeId × Nat):=match P.underlying t with
  | some (.map k e)=>match P.underlying k with
    | some (.int .i64)=>match P.underlying e,(P.info? e).bind (·.zero) with
      | some (.int .i64),some (.int .i64 n)=>if n = 0 then some (k,e,0) else none
      | some .bool,some (.bool false)=>some (k,e,1)
      | _,_=>none
    | _=>none
  | _=>none
def XO:Option TypeDesc->Bool
  | some (.int .i64)=>true
  | _=>false
theorem WQ {o:Option TypeDesc} (h:XO o = true):o = some (.int .i64):=by
  unfold XO at h
  split at h
  · rfl
  · cases h
def aMx (P:Program) (k:TypeId):Bool:=P.keyTypeAt 2 k && P.keyType k && P.tiled 2 k && decide (P.cellsOf k = 2) && decide (0 < P.types.size) && match P.underlying k with
  | some (.struct fs)=>match fs.toList with
    | [f,g]=>XO (P.underlying f.type) && XO (P.underlying g.type) && decide (f.offset = 0) && decide (g.offset = 1) && decide (P.cellsOf f.type = 1) && decide (P.cellsOf g.type = 1) && f.name != "_" && g.name != "_"
    | _=>false
  | _=>false
def Q7 (P:Program) (t:TypeId):Option (TypeId × TypeId):=match P.underlying t with
  | some (.map k e)=>if aMx P k = true then match P.underlying e,(P.info? e).bind (·.zero) with
      | some .bool,some (.bool false)=>some (k,e)
      | _,_=>none
    else none
  | _=>none
def zML (ek:Nat):ML:=if ek = 0 then .i 0 else .b false
def BX (P:Program) (o:Oper):Option fT :=
  match o.op with
  | .move x=>(iA x).map .move
  | .assign x=>(iA x).map .move
  | .pick c a b=>match iA c,iA a,iA b with
    | some c,some a,some b=>some (.pick c a b)
    | _,_,_=>none
  | .alloc e=>match P.info? e with
    | some i=>match i.zero with
      | some z=>(aT AQ z.cells.toList).map .alloc
      | none=>none
    | none=>none
  | .box e x=>(iA x).map .box
  | .build t parts=>match P.info? t,P.underlying t with
    | some i,some (.struct fs)=>match i.zero with
      | some z=>match aT AQ z.cells.toList,aT (fun (p:Nat × Operand)=>match fs[p.1]?,iA p.2 with
          | some f,some x=>(P.info? f.type).map fun j=>(f.offset,j.size,x)
          | _,_=>none) parts.toList with
        | some zs,some ps=>if fs.toList.all (fun f=>(P.info? f.type).isSome) then some (.build zs ps) else none
        | _,_=>none
      | none=>none
    | some i,some (.array _ e)=>match i.zero,P.info? e with
      | some z,some ei=>match aT AQ z.cells.toList,aT (fun (p:Nat × Operand)=>(iA p.2).map fun x=>(p.1 * ei.size,ei.size,x)) parts.toList with
        | some zs,some ps=>some (.build zs ps)
        | _,_=>none
      | _,_=>none
    | _,_=>none
  | .buildSlice t len parts=>match P.underlying t with
    | some (.slice e)=>match P.info? e with
      | some i=>match i.zero with
        | some z=>match aT AQ z.cells.toList with
          | some zs=>match aT dOf zs,aT (fun (p:Nat × Operand)=>(iA p.2).map fun x=>(p.1,x)) parts.toList with
            | some row,some ps=>if len * i.size <= 16777216 ∧ z.cells.size = i.size ∧ 0 < i.size then some (.buildSlice e i.size row len ps) else none
            | _,_=>none
          | none=>none
        | none=>none
      | none=>none
    | _=>none
  | .load t x=>match lZ P t,P.info? t,iA x with
    | some b,some i,some x=>some (.load i.size b x)
    | _,_,_=>none
  | .store t x v=>match P.info? t,iA x,iA v with
    | some i,some x,some v=>some (.store i.size x v)
    | _,_,_=>none
  | .nilCheck x=>(iA x).map .nilCheck
  | .binOp op t x y _=>LZ P op t x y
  | .unOp op _ x=>(iA x).map (.un op)
  | .convert s d x=>match P.underlying s,P.underlying d,iA x with
    | some (.int _),some (.int k),some x=>some (.conv k x)
    | some .string,some (.slice e),some x=>match P.underlying e with
      | some (.int .u8)=>some (.bytes x)
      | _=>none
    | _,_,_=>none
  | .slice t x lo hi mx=>match mx with
    | some _=>none
    | none=>match P.underlying t,iA x,X5 lo,X5 hi with
      | some (.slice e),some x,some lo,some hi=>(P.info? e).map fun i=>.slice i.size x lo hi
      | some .string,some x,some lo,some hi=>some (.strSlice x lo hi)
      | some (.array n e),some x,some none,some none=>match P.info? e with
        | some i=>if i.size = 1 then some (.sliceA n x) else none
        | none=>none
      | _,_,_,_=>none
  | .fieldAddr s x f=>match P.underlying s,iA x with
    | some (.struct fs),some x=>match fs[f]? with
      | some f=>match P.info? f.type with
        | some i=>if i.size = 0 then none else some (.fieldAddr f.offset x)
        | none=>none
      | none=>none
    | _,_=>none
  | .field s x f=>match P.underlying s,iA x with
    | some (.struct fs),some x=>match fs[f]? with
      | some f=>match P.info? f.type,lZ P f.type with
        | some i,some b=>some (.field f.offset i.size b x)
        | _,_=>none
      | none=>none
    | _,_=>none
  | .indexAddr t x i=>match P.underlying t,iA x,iA i with
    | some (.slice e),some x,some i=>(P.info? e).map fun j=>.indexAddr j.size x i
    | some (.array n e),some x,some (.c (.d (.int _ q)))=>match P.info? e with
      | some j=>if 0 <= q ∧ q < n ∧ j.size ≠ 0 then some (.fieldAddr (q.toNat * j.size) x) else none
      | none=>none
    | some (.array n e),some x,some i=>match P.info? e with
      | some j=>if j.size ≠ 0 then some (.indexArr n j.size x i) else none
      | none=>none
    | _,_,_=>none
  | .index t x i=>match P.underlying t,iA x,iA i with
    | some .string,some x,some i=>some (.index x i)
    | some (.array n e),some x,some i=>match P.underlying e,P.info? e with
      | some (.pointer _),some j=>if j.size = 1 then some (.idxA n x i) else none
      | _,_=>none
    | _,_,_=>none
  | .extract x i=>(iA x).map fun x=>.extract x i
  | .makeSlice t l c=>match P.underlying t,iA l,iA c with
    | some (.slice e),some l,some c=>match P.info? e with
      | some i=>match i.zero with
        | some z=>match aT AQ z.cells.toList with
          | some zs=>match aT dOf zs with
            | some row=>if z.cells.size = i.size ∧ 0 < i.size then some (.makeSlice e i.size i.bytes row l c) else none
            | none=>none
          | none=>none
        | none=>none
      | none=>none
    | _,_,_=>none
  | .makeMap t r=>match r with
    | none=>match UC P t with
      | some z=>some (.mkmap z.2.2)
      | none=>match Q7 P t with
        | some _=>some (.mkmap 3)
        | none=>none
    | some _=>none
  | .mapUpdate t m k v=>match iA m,iA k,iA v with
    | some m,some k,some v=>match UC P t with
      | some z=>some (.mput z.2.2 m k v)
      | none=>match Q7 P t with
        | some _=>some (.mputP m k v)
        | none=>none
    | _,_,_=>none
  | .insert t m k v=>match iA m,iA k,iA v with
    | some m,some k,some v=>match UC P t with
      | some z=>some (.mput z.2.2 m k v)
      | none=>match Q7 P t with
        | some _=>some (.mputP m k v)
        | none=>none
    | _,_,_=>none
  | .lookup t m k ok=>match ok,iA m,iA k with
    | false,some m,some k=>match UC P t with
      | some z=>some (.mget (zML z.2.2) m k)
      | none=>match Q7 P t with
        | some _=>some (.mgetP m k)
        | none=>none
    | _,_,_=>none
  | .makeFunc fn first captured=>match fn with
    | .func f=>if first.isEmpty = true then (aT iA captured.toList).map fun caps=>.mkfn f caps else none
    | _=>none
  | .call c=>match c.callee with
    | .value (.func f)=>match P.funcs[f]?,aT iA c.args.toList with
      | some fn,some args=>if fn.name ≠ "runtime.NumGoroutine" ∧ fn.body.isSome then some (.call f args) else none
      | _,_=>none
    | .value x=>match iA x,aT iA c.args.toList with
      | some x,some args=>some (.callv x args)
      | _,_=>none
    | .builtin .len=>match c.args.toList,c.argTypes.toList with
      | [x],[t]=>match P.underlying t,iA x with
        | some .string,some x=>some (.lenS x)
        | some (.slice _),some x=>some (.len x)
        | _,_=>none
      | _,_=>none
    | .builtin .append=>match c.args.toList,c.argTypes.toList with
      | [x,y],[t,u]=>if t = u then match P.underlying t,iA x,iA y with
          | some (.slice e),some x,some y=>match P.info? e with
            | some i=>match i.zero with
              | some z=>if z.cells.size = i.size ∧ 0 < i.size ∧ 0 < i.bytes then some (.append e i.size i.bytes x y) else none
              | none=>none
            | none=>none
          | _,_,_=>none
        else none
      | _,_=>none
    | .builtin .clear=>match c.args.toList,c.argTypes.toList with
      | [x],[t]=>match P.underlying t,iA x with
        | some (.slice e),some x=>match P.info? e with
          | some i=>match i.zero with
            | some z=>match aT AQ z.cells.toList with
              | some zs=>match aT dOf zs with
                | some row=>if z.cells.size = i.size ∧ 0 < i.size then some (.clear row x) else none
                | none=>none
              | none=>none
            | none=>none
          | none=>none
        | _,_=>none
      | _,_=>none
    | .builtin .delete=>match c.args.toList,c.argTypes.toList with
      | [m,k],[t,u]=>match UC P t,iA m,iA k with
        | some z,some m,some k=>if z.1 = u then some (.mdel z.2.2 m k) else none
        | _,_,_=>none
      | _,_=>none
    | .builtin .max=>(aT iA c.args.toList).map .max
    | .builtin .min=>(aT iA c.args.toList).map .min
    | _=>none
  | _=>none
def xV (P:Program) (o:Oper):fT:=(BX P o).getD .fail
def aQ7 (nt:Nat):Option Nat->Bool
  | some d=>decide (d < nt)
  | none=>true
def nQ (P:Program) (nt:Nat) (ops:Array Oper) (o:Oper):Option aY :=
  if aQ7 nt o.dst = true then match o.guard with
    | none=>some ⟨o.dst,xV P o,none,o.dst.getD 0⟩
    | some (j,b)=>match (ops[j]?).bind (·.dst) with
      | some t=>some ⟨o.dst,xV P o,some (t,b),o.dst.getD 0⟩
      | none=>none
    else none
def MF (ops:List Oper):List Nat:=ops.foldl (fun acc o =>
  acc ++ [(o.after.toList.filter (Region.binds .any)).foldl (fun s e=>s ||| 2 ^ e.on ||| acc.getD e.on 0) 0]) []
def OI (ops:List Oper):List (Nat × Nat) :=
  let an:=MF ops
  (List.range ops.length).flatMap fun j=>((List.range j).filter fun i=>!((an.getD j 0).testBit i)).map fun i=>(i,j)
def D9 (ops:List Oper):Bool:=ops.zipIdx.all fun (o,i)=>o.after.all fun e=>!(Region.binds .any e) || e.on < i
def zP (P:Program) (nt:Nat):Code->Option aP
  | .skip=>some .skip
  | .region _ ops draw=>match aT (nQ P nt ops) ops.toList with
    | none=>none
    | some l=>if draw then (if D9 ops.toList then some (.region l (some (OI ops.toList))) else none) else some (.region l none)
  | .seq a b=>match zP P nt a,zP P nt b with
    | some a,some b=>some (.seq a b)
    | _,_=>none
  | .cond c a b=>match iA c,zP P nt a,zP P nt b with
    | some c,some a,some b=>some (.cond c a b)
    | _,_,_=>none
  | .block id a=>(zP P nt a).map (.block id)
  | .loop a=>(zP P nt a).map .loop
  | .exit id=>some (.exit id)
  | .ret=>some .ret
  | _=>none
def fT.bare:fT->fT
  | .lend f args _=>.call f args
  | .calln f args=>.call f args
  | .cut size x lo hi=>.slice size x lo hi
  | .mkfnv f caps=>.mkfn f caps
  | so=>so
def aY.bare (o:aY):aY:=⟨o.dst,o.op.bare,o.guard,o.dst.getD 0⟩
def aP.bare:aP->aP
  | .region l d=>.region (l.map aY.bare) d
  | .seq a b=>.seq a.bare b.bare
  | .cond c a b=>.cond c a.bare b.bare
  | .block id a=>.block id a.bare
  | .loop a=>.loop a.bare
  | .pre _ a=>a.bare
  | .post a _=>a.bare
  | c=>c
def RT (P:Program):ResultVar->Option kT
  | .tmp t=>some (.tmp t)
  | .cell t ty=>match lZ P ty,P.info? ty with
    | some b,some i=>some (.cell t i.size b)
    | _,_=>none
def fZ (P:Program) (fn:Func) (sf:bY):Prop :=
  fn.params.size + fn.nfree = sf.np ∧ fn.name ≠ "runtime.NumGoroutine" ∧ fn.ntmps = sf.nt ∧ sf.np <= sf.nt ∧ aT (RT P) fn.results.toList = some sf.results ∧ ∃ c,fn.body = some c ∧ zP P sf.nt c = some sf.body.bare
section
variable {h:Hp} {hd:Nat->Value} {bl:Nat->Option aO}
theorem UF {v:Value} {x:V} (e:AQ v = some x):R1 h hd bl v x ∧ v.oneCell' = true:=by
  unfold AQ at e
  split at e
  · cases e; exact ⟨⟨rfl,.int _ _⟩,rfl⟩
  · cases e; exact ⟨⟨rfl,.bool _⟩,rfl⟩
  · split at e
    · rename_i hs; cases e; exact ⟨⟨rfl,.str _ hs⟩,rfl⟩
    · cases e
  · cases e; exact ⟨rfl,rfl⟩
  · cases e; exact ⟨⟨rfl,.np⟩,rfl⟩
  · cases e; exact ⟨⟨rfl,.mp0⟩,rfl⟩
  · split at e
    · rename_i ho; cases e; exact ⟨trivial,ho⟩
    · cases e
theorem D2 {arr:Array Value} {cs:List V} (e:aT AQ arr.toList = some cs):arr.size = cs.length ∧ ∀ j x,cs[j]? = some x->R1 h hd bl (arr.getD j undef) x ∧ (arr.getD j undef).oneCell' = true:=by
  obtain ⟨h1,h2⟩:=bP e
  refine ⟨by simpa using h1,fun j x hx=>?_⟩
  obtain ⟨v,q1,q2⟩:=bU e hx
  have:arr.getD j undef = v:=by
    have:arr[j]? = some v:=by simpa using q1
    simp [this]
  rw [this]
  exact UF q2
theorem aP9 {v:Value} {x:V} (e:aPj v = some x):R2 h hd bl v x:=by
  unfold aPj at e
  split at e
  · rename_i arr
    cases hm:aT AQ arr.toList with
    | none=>simp [hm] at e
    | some cs =>
      simp only [hm,Ù,Ä] at e
      subst e
      obtain ⟨h1,h2⟩:=D2 (h:=h) (hd:=hd) (bl:=bl) hm
      exact ⟨arr,rfl,h1,h2⟩
  · cases e
  · exact R2.of1 (UF e).1
theorem bC {fr:Nat->V} {a:Act} (hG:IW h) (hf:∀ t,R3 h hd bl (a.tmps.getD t undef) (fr t)) {x:Operand} {y:bO} (e:iA x = some y):R3 h hd bl (a.eval x) (bN fr y):=by
  cases x with
  | tmp t=>simp only [iA,Ä] at e; subst e; exact hf t
  | const v =>
    simp only [iA] at e
    cases hv:aPj v with
    | none=>simp [hv] at e
    | some u=>simp only [hv,Ù,Ä] at e; subst e; exact R3.of2 (aP9 hv)
  | func f=>simp only [iA,Ä] at e; subst e; exact ⟨rfl,.fn f #[] [] rfl (fun j x e=>by simp at e)⟩
  | global g =>
    simp only [iA,Á] at e
    obtain ⟨row,hg,rfl⟩:=e
    obtain ⟨cv,q⟩:=hG g row hg
    exact ⟨rfl,.ptr g 0 0 0 row cv rfl (fun j x hx=>by simpa using (q j x hx).1) (fun j x hx=>(q j x hx).2.1) fun j x hx=>(q j x hx).2.2⟩
end
end Vm
end
end Go.Proofs.YtoefdnkjcfoccaaDoor
