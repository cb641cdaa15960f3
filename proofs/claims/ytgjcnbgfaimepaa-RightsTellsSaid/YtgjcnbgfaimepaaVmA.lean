/- A small machine over values that are no memory: what it answers, the model's functions answer (VmSound). Plain definitions. What it is that memory holds what the small machine says. The small machine's steps: what may become of memory. From the model's code to the small machine's. -/
import Derived.RowKit
import Derived.Orders
import Derived.Below
import Derived.Laws.MakeOwn
namespace Go.Proofs.Ytgjcnbgfaimepaa
section
abbrev À:=@Option.bind_some
abbrev Á:=@if_pos
abbrev Â:=@Option.map_eq_some_iff
abbrev Ã:=@if_neg
abbrev Ä:=@Int.toNat_natCast
abbrev Å:=@Option.some.injEq
abbrev Æ:=@List.getElem?_eq_some_iff
abbrev Ç:=@List.getElem?_map
abbrev È:=@List.length_map
abbrev É:=@Nat.le_refl
abbrev Ê:=@List.mem_append
abbrev Ë:=@List.length_replicate
abbrev Ì:=@Array.getD_eq_getD_getElem?
abbrev Í:=@decide_eq_true
abbrev Î:=@List.mem_of_getElem?
abbrev Ï:=@Array.getElem?_eq_some_iff
abbrev Ð:=@List.mem_flatMap
abbrev Ñ:=@List.eq_nil_of_length_eq_zero
abbrev Ò:=@decide_eq_true_eq
abbrev Ó:=@List.all_eq_true
abbrev Ô:=@List.mem_cons
abbrev Õ:=@List.mem_cons_of_mem
abbrev Ö:=@List.getElem?_take
abbrev Ø:=@Bool.and_eq_true
abbrev Ù:=@Nat.mul_le_mul_right
abbrev Ú:=@List.mem_map
abbrev Û:=@List.append_nil
abbrev Ü:=@of_decide_eq_true
abbrev Ý:=@List.getD_eq_getElem?_getD
abbrev Þ:=@List.pairwise_cons
abbrev ß:=@List.length_append
abbrev à:=@List.mem_cons_self
abbrev á:=@List.length_set
abbrev â:=@List.getElem?_drop
abbrev ã:=@List.take_succ_eq_append_getElem
abbrev ä:=@Option.map_some
abbrev å:=@Classical.byContradiction
abbrev æ:=@List.pairwise_iff_getElem
abbrev ç:=@List.length_take
abbrev è:=@List.append_assoc
abbrev é:=@List.getElem?_eq_getElem
abbrev ê:=@List.mem_singleton
abbrev ë:=@List.getElem?_append_left
abbrev ì:=@List.take_length
abbrev í:=@Nat.not_lt_zero
abbrev î:=@List.mem_iff_getElem?
abbrev ï:=@List.length_cons
abbrev ð:=@List.foldl_cons
abbrev ñ:=@Nat.le_trans
abbrev ò:=@run_underlying
abbrev ó:=@List.getElem?_append_right
abbrev ô:=@List.getElem?_eq_none
abbrev õ:=@Option.some.inj
abbrev ö:=@Bool.false_eq_true
abbrev ø:=@List.map_cons
abbrev ù:=@Array.toArray_toList
abbrev ú:=@List.getElem_mem
abbrev û:=@decide_eq_false
abbrev ü:=@List.foldl_append
abbrev ý:=@List.pairwise_append
abbrev þ:=@Sem.run_bind
abbrev ÿ:=@List.flatMap_cons
abbrev Ā:=@Nat.add_mul
abbrev ā:=@Option.isSome_iff_exists
abbrev Ă:=@List.map_append
abbrev ă:=@List.mem_filter
abbrev Ą:=@congrArg
abbrev ą:=@List.cons_append
abbrev Ć:=@List.getElem?_cons_succ
abbrev ć:=@Result.andThen_ok
abbrev Ĉ:=@List.range_succ
abbrev ĉ:=@List.getElem?_range
abbrev Ċ:=@Nat.le_mul_of_pos_right
abbrev ċ:=@Array.getElem?_append_left
abbrev Č:=@if_true
abbrev č:=@List.ext_getElem?
abbrev Ď:=@List.mem_range
abbrev ď:=@Nat.add_zero
abbrev Đ:=@List.nil_append
abbrev đ:=@List.getElem?_replicate
abbrev Ē:=@List.getElem?_cons_zero
abbrev ē:=@List.mem_iff_getElem
abbrev Ĕ:=@Prod.mk.injEq
abbrev ĕ:=@Int.toNat_of_nonneg
abbrev Ė:=@Nat.zero_le
abbrev ė:=@Array.getElem?_setIfInBounds_ne
abbrev Ę:=@List.length_filter_le
abbrev ę:=@Nat.lt_of_lt_of_le
abbrev Ě:=@Nat.le_max_right
abbrev ě:=@Option.bind_eq_some_iff
abbrev Ĝ:=@List.mapM_toArray
abbrev ĝ:=@getElem!_pos
abbrev Ğ:=@List.take_of_length_le
abbrev ğ:=@Nat.add_assoc
abbrev Ġ:=@Nat.lt_succ_self
abbrev ġ:=@List.foldl_nil
abbrev Ģ:=@List.drop_eq_getElem_cons
abbrev ģ:=@List.getElem?_zip_eq_some
abbrev Ĥ:=@Nat.zero_add
abbrev ĥ:=@List.getElem?_set
abbrev Ħ:=@Array.all_eq_true_iff_forall_mem
abbrev ħ:=@Addr.add_lit
abbrev Ĩ:=@Option.bind_assoc
abbrev ĩ:=@List.map_congr_left
abbrev Ī:=@List.flatMap_append
abbrev ī:=@Option.getD_some
abbrev Ĭ:=@List.any_eq_true
abbrev ĭ:=@World.size_alloc
abbrev Į:=@Nat.mul_one
abbrev į:=@Int.le_refl
abbrev İ:=@List.filter_append
abbrev ı:=@Sem.run_pure
abbrev Ĳ:=@Nat.testBit_lt_two_pow
abbrev ĳ:=@Option.map_eq_bind
abbrev Ĵ:=@if_false
abbrev ĵ:=@List.filter_nil
abbrev Ķ:=@Nat.le_max_left
abbrev ķ:=@Bool.true_and
abbrev ĸ:=@Array.getElem?_modify
abbrev Ĺ:=@Array.getElem?_toList
abbrev ĺ:=@Ne.symm
abbrev Ļ:=@List.pairwise_map
abbrev ļ:=@World.ownsRow_nil
abbrev Ľ:=@Nat.pow_le_pow_right
abbrev ľ:=@List.mem_reverse
abbrev Ŀ:=@List.Pairwise.imp_of_mem
abbrev ŀ:=@Nat.min_eq_left
abbrev Ł:=@Bool.eq_iff_iff
abbrev ł:=@of_decide_eq_false
abbrev Ń:=@Sem.run_map
abbrev ń:=@Nat.le_succ
abbrev Ņ:=@List.filter_cons_of_neg
abbrev ņ:=@Sum.elim_inl
abbrev Ň:=@Bool.not_eq_true'
abbrev ň:=@Array.size_append
abbrev ŉ:=@Nat.add_comm
abbrev Ŋ:=@List.pairwise_lt_range
abbrev ŋ:=@run_storeCells_at
abbrev Ō:=@List.mem_range'_1
abbrev ō:=@Array.mem_of_getElem?
abbrev Ŏ:=@Nat.mod_eq_of_lt
abbrev ŏ:=@Bool.not_eq_true
abbrev Ő:=@Int.mul_le_mul_of_nonneg_right
abbrev ő:=@List.mem_append_left
abbrev Œ:=@List.nodup_cons
abbrev œ:=@World.grownBy_alloc
abbrev Ŕ:=@List.length_pos_iff
abbrev ŕ:=@List.filter_eq_self
abbrev Ŗ:=@Array.getElem?_append_right
abbrev ŗ:=@Nat.mul_comm
abbrev Ř:=@heap_alloc_new
abbrev ř:=@Nat.mul_le_mul
abbrev Ś:=@List.drop_drop
abbrev ś:=@wpOps_cons
abbrev Ŝ:=@Nat.lt_or_gt_of_ne
abbrev ŝ:=@setRow_heap
abbrev Ş:=@wp_cond_false
abbrev ş:=@Array.getElem?_replicate
abbrev Š:=@Array.size_setIfInBounds
abbrev š:=@List.all_cons
abbrev Ţ:=@List.map_take
abbrev ţ:=@Nat.div_eq_of_lt
abbrev Ť:=@World.block_lt_of_cell?
abbrev ť:=@Nat.min_le_right
abbrev Ŧ:=@List.filter_cons
abbrev ŧ:=@wp_region
abbrev Ũ:=@List.pairwise_mergeSort
abbrev ũ:=@Nat.le_of_not_lt
abbrev Ū:=@Nat.add_sub_cancel_left
abbrev ū:=@List.filter_cons_of_pos
abbrev Ŭ:=@Option.bind_none
theorem aN {p q:Prop} (a:p) (b:q):p ∧ q:=And.intro a b
namespace Vm
inductive ML where
  | b (x:Bool)
  | i (n:Int)
  deriving Inhabited
def aSz (n:Int):Prop:=-9223372036854775808 <= n ∧ n <= 9223372036854775807
instance (n:Int):Decidable (aSz n):=inferInstanceAs (Decidable (_ ∧ _))
def ML.kind:ML->Nat
  | .b _=>1
  | .i _=>0
inductive D where
  | int (k:IntKind) (n:Int)
  | bool (b:Bool)
  | str (s:ByteArray)
  | sl (rows:List (List D))
  | agg (cs:List D)
  | tup (vs:List D)
  | ptr (row:List D) (off:Nat)
  | fn (f:Nat) (caps:List D)
  | np
  | ref (n:Nat)
  | own (x:D) (es:List (Nat × Nat)) (rs:List (List (List D)))
  | mp (ek:Nat) (m:List (Int × ML))
  | mref (n:Nat)
  deriving Inhabited
def ML.d:ML->D
  | .b x=>.bool x
  | .i n=>.int .i64 n
inductive V where
  | any
  | d (x:D)
  | nil
  | agg (cs:List V)
  | tup (vs:List V)
  | ptr (id off:Nat)
  | own (id ver:Nat)
  | orow (id ver i off:Nat)
  | fn (f:Nat) (caps:List V)
  | mp (id:Nat)
  deriving Inhabited
inductive aL where
  | box (cs:List V)
  | rows (ver e size:Nat) (rows:List (List D))
  | froz (ver:Nat) (rows:List (List D))
  | fbox (cs:List D)
  /-- the slots of a caller,while what it calls is run in its place -/
  | outer (cs:List V)
  | mp (ek:Nat) (m:List (Int × ML))
  | fmp (ek:Nat) (m:List (Int × ML))
  deriving Inhabited
inductive d7 where
  | t (n:Nat)
  | c (v:V)
  deriving Inhabited
inductive pF where
  | fail
  | move (x:d7)
  | pick (c a b:d7)
  | alloc (zero:List V)
  | box (x:d7)
  | build (zero:List V) (parts:List (Nat × Nat × d7))
  | buildSlice (e size:Nat) (zero:List D) (len:Nat) (parts:List (Nat × d7))
  | load (size:Nat) (isAgg:Bool) (x:d7)
  | store (size:Nat) (x v:d7)
  | nilCheck (x:d7)
  | bin (c:Nat) (op:BinOp) (x y:d7)
  | eqS (ks:List Nat) (neg:Bool) (x y:d7)
  | un (op:UnOp) (x:d7)
  | slice (size:Nat) (x:d7) (lo hi:Option d7)
  | fieldAddr (off:Nat) (x:d7)
  | indexAddr (size:Nat) (x i:d7)
  | len (x:d7)
  | append (e size bytes:Nat) (x y:d7)
  | makeSlice (e size bytes:Nat) (zero:List D) (len cap:d7)
  | min (l:List d7)
  | extract (x:d7) (i:Nat)
  | call (f:Nat) (args:List d7)
  | mkfn (f:Nat) (caps:List d7)
  | callv (x:d7) (args:List d7)
  | lend (f:Nat) (args:List d7) (t:Nat)
  | calln (f:Nat) (args:List d7)
  | mkfnv (f:Nat) (caps:List d7)
  deriving Inhabited
structure aS where
  dst:Option Nat
  op:pF
  guard:Option (Nat × Bool)
  /-- the name of the memory that it makes -/
  site:Nat
  deriving Inhabited
structure BE where
  live:List Nat
  keep:List Nat
  ownT:List (Nat × Nat × Nat × Nat)
  ownC:List (Nat × Nat × Nat × Nat × Nat)
  fzT:List Nat
  fzC:List (Nat × Nat)
  deriving Inhabited
structure St where
  fr:List (Nat × V)
  bl:List (Nat × Option aL)
inductive qU where
  | tmp (t:Nat)
  | cell (t size:Nat) (isAgg:Bool)
inductive aH where
  | skip
  | region (ops:List aS) (draw:Option (List (Nat × Nat)))
  | seq (a b:aH)
  | cond (c:d7) (a b:aH)
  | block (id:Nat) (a:aH)
  | loop (a:aH)
  | exit (id:Nat)
  | ret
  | pre (m:BE) (a:aH)
  | post (a:aH) (m:BE)
  | hand (g:St->Option St)
  /-- a function that is run in its caller's place -/
  | inl (ops:List aS) (args:List d7) (dst:Option Nat) (f:Nat) (body:aH) (res:List qU) (id:Nat) (slots:List Nat)
  /-- a function value that is run in its caller's place; nc: how many boxes it holds -/
  | inlv (ops:List aS) (x:d7) (nc:Nat) (args:List d7) (dst:Option Nat) (f:Nat) (body:aH) (res:List qU) (id:Nat) (slots:List Nat)
  deriving Inhabited
structure b5 where
  np:Nat
  nt:Nat
  results:List qU
  body:aH
  fresh:Bool
  lend:Bool
def lk {α:Type} (l:List (Nat × α)) (d:α) (t:Nat):α:=match l with
  | []=>d
  | (k,v) :: r=>if t = k then v else lk r d t
def St.get (s:St) (t:Nat):V:=lk s.fr .any t
def St.blk (s:St) (i:Nat):Option aL:=lk s.bl none i
def cZ (fr:Nat->V):d7->V
  | .t n=>fr n
  | .c v=>v
def V.cells:V->List V
  | .agg cs=>cs
  | v=>[v]
def V.cell:V->Bool
  | .any | .agg _ | .tup _=>false
  | _=>true
def V.one:V->Bool
  | .agg _ | .tup _=>false
  | _=>true
def V.known:V->Bool
  | .any | .tup _=>false
  | _=>true
def aM {α β:Type} (f:α->Option β):List α->Option (List β)
  | []=>some []
  | x :: r=>match f x with
    | none=>none
    | some y=>match aM f r with
      | none=>none
      | some ys=>some (y :: ys)
def VD (bl:Nat->Option aL):V->Bool
  | .ptr id _=>match bl id with
    | some (.box _)=>true
    | some (.fbox _)=>true
    | _=>false
  | _=>false
def AB (bl:Nat->Option aL):V->Option D
  | .d x=>some x
  | .nil=>some (.sl [])
  | .own id ver=>match bl id with
    | some (.rows v _ _ rows)=>if ver = v then some (.sl rows) else none
    | some (.froz v rows)=>if ver = v then some (.sl rows) else none
    | _=>none
  | .ptr id off=>match bl id with
    | some (.fbox cs)=>some (.ptr cs off)
    | _=>none
  | .fn f caps=>if caps.isEmpty then some (.fn f []) else none
  | .mp id=>match bl id with
    | some (.mp ek m)=>some (.mp ek m)
    | some (.fmp ek m)=>some (.mp ek m)
    | _=>none
  | _=>none
def pE (bl:Nat->Option aL):V->Option D
  | .ptr id off=>match bl id with
    | some (.box cs)=>(aM (AB bl) cs).map fun ds=>.ptr ds off
    | some (.fbox cs)=>some (.ptr cs off)
    | _=>none
  | v=>AB bl v
def lG (bl:Nat->Option aL):V->Option D
  | .agg cs=>(aM (pE bl) cs).map .agg
  | v=>pE bl v
def toD (bl:Nat->Option aL):V->Option D
  | .tup vs=>(aM (lG bl) vs).map .tup
  | v=>lG bl v
def TY (bl:Nat->Option aL):V->List (Nat × Option aL)
  | .own id ver=>match bl id with
    | some (.rows v _ _ rows)=>[(id,some (.froz v rows))]
    | _=>[]
  | .mp id=>match bl id with
    | some (.mp ek m)=>[(id,some (.fmp ek m))]
    | _=>[]
  | _=>[]
def JF (bl:Nat->Option aL):V->List (Nat × Option aL)
  | .ptr id off=>match bl id with
    | some (.box cs)=>match aM (AB bl) cs with
      | some ds=>(id,some (.fbox ds)) :: cs.flatMap (TY bl)
      | none=>[]
    | _=>[]
  | v=>TY bl v
def CI (bl:Nat->Option aL):V->List (Nat × Option aL)
  | .agg cs=>cs.flatMap (JF bl)
  | v=>JF bl v
def NF:D->Bool
  | .int _ _ | .bool _ | .str _=>true
  | _=>false
def aCW:D->Bool
  | .agg cs=>cs.all NF
  | x=>NF x
def PF:D->Bool
  | .tup vs=>vs.all aCW
  | x=>aCW x
def aNS:D->V
  | .agg cs=>.agg (cs.map .d)
  | x=>.d x
def toV:D->V
  | .tup vs=>.tup (vs.map aNS)
  | x=>aNS x
def IZ (site n:Nat):Nat:=site + 100000 * (n + 1)
def aDg (site:Nat):D->V
  | .ref n=>.own (IZ site n) 0
  | .mref n=>.mp (IZ site n)
  | x=>.d x
def aAT (site:Nat):D->V
  | .agg cs=>.agg (cs.map (aDg site))
  | x=>aDg site x
def thaw (site:Nat):D->V
  | .tup vs=>.tup (vs.map (aAT site))
  | x=>aAT site x
def aRf (m:List (Int × ML)):List (List D):=m.map fun p=>[.int .i64 p.1,p.2.d]
def aQI (rows:List (List D)):List (Int × ML):=rows.map fun row=>match row with
  | [.int _ n,.bool b]=>(n,.b b)
  | [.int _ n,.int _ k]=>(n,.i k)
  | _=>(0,.b false)
def E6 (e size:Nat) (rows:List (List D)):aL:=if size = 0 then .mp e (aQI rows) else .rows 0 e size rows
def i9 (site:Nat):Nat->List (Nat × Nat)->List (List (List D))->List (Nat × Option aL)
  | n,(e,size) :: es,rows :: rs=>(IZ site n,some (E6 e size rows)) :: i9 site (n + 1) es rs
  | _,_,_=>[]
def UM (bl:Nat->Option aL):List (Nat × Option aL)->Bool
  | []=>true
  | (i,_) :: l=>match bl i with
    | none=>UM bl l
    | some _=>false
def uJ (site:Nat) (bl:Nat->Option aL) (fz:List (Nat × Option aL)):D->Option (V × List (Nat × Option aL))
  | .own x es rs=>if UM bl (i9 site 0 es rs) = true then some (thaw site x,i9 site 0 es rs ++ fz) else none
  | r=>some (toV r,if PF r then [] else fz)
def yL (op:BinOp) (k:IntKind) (x y:Int):Option D:=match op with
  | .add=>some (.int k (k.wrap (x + y)))
  | .sub=>some (.int k (k.wrap (x - y)))
  | .mul=>some (.int k (k.wrap (x * y)))
  | .quo=>if y = 0 then none else some (.int k (k.wrap (x.tdiv y)))
  | .rem=>if y = 0 then none else some (.int k (x.tmod y))
  | .and=>some (.int k (k.wrap (BitVec.ofInt k.bits x &&& BitVec.ofInt k.bits y).toNat))
  | .or=>some (.int k (k.wrap (BitVec.ofInt k.bits x ||| BitVec.ofInt k.bits y).toNat))
  | .xor=>some (.int k (k.wrap (BitVec.ofInt k.bits x ^^^ BitVec.ofInt k.bits y).toNat))
  | .andNot=>some (.int k (k.wrap (BitVec.ofInt k.bits x &&& ~~~(BitVec.ofInt k.bits y)).toNat))
  | .eql=>some (.bool (x == y))
  | .neq=>some (.bool (x != y))
  | .lss=>some (.bool (x < y))
  | .leq=>some (.bool (x <= y))
  | .gtr=>some (.bool (x > y))
  | .geq=>some (.bool (x ≥ y))
  | .shl=>if 0 <= y ∧ y.toNat <= k.bits then some (.int k (k.wrap (x * 2 ^ y.toNat))) else none
  | .shr=>if 0 <= y ∧ y.toNat <= k.bits then some (.int k (x.fdiv (2 ^ y.toNat))) else none
def ZB (op:BinOp) (x y:ByteArray):Option D:=match op with
  | .eql=>some (.bool (x.toList == y.toList))
  | .neq=>some (.bool !(x.toList == y.toList))
  | .lss=>some (.bool (Op.bytesLess x.toList y.toList))
  | .leq=>some (.bool (Op.bytesLess x.toList y.toList || x.toList == y.toList))
  | .gtr=>some (.bool !(Op.bytesLess x.toList y.toList || x.toList == y.toList))
  | .geq=>some (.bool !(Op.bytesLess x.toList y.toList))
  | _=>none
def I0:Nat->V->V->Option Bool
  | 0,.d (.int k x),.d (.int k' y)=>if k = k' then some (x == y) else none
  | 1,.d (.bool x),.d (.bool y)=>some (x == y)
  | 2,.d (.str x),.d (.str y)=>some (x == y)
  | _,_,_=>none
def jA:List Nat->List V->List V->Option Bool
  | [],[],[]=>some true
  | k :: ks,x :: xs,y :: ys=>match I0 k x y with
    | some a=>match jA ks xs ys with
      | some b=>some (a && b)
      | none=>none
    | none=>none
  | _,_,_=>none
def eqV (ks:List Nat) (neg:Bool):V->V->Option D
  | .agg xs,.agg ys=>match jA ks xs ys with
    | some b=>some (.bool (if neg then !b else b))
    | none=>none
  | _,_=>none
def IL:Nat->BinOp->V->V->Option D
  | 0,op,.d (.int k x),.d (.int k' y)=>if k = k' then yL op k x y else none
  | 0,op,.d (.str x),.d (.str y)=>ZB op x y
  | 1,.eql,.d (.bool x),.d (.bool y)=>some (.bool (x == y))
  | 1,.neq,.d (.bool x),.d (.bool y)=>some (.bool !(x == y))
  | _,_,_,_=>none
def unV (op:UnOp):V->Option D
  | .d (.bool b)=>match op with
    | .not=>some (.bool !b)
    | _=>none
  | .d (.int k n)=>match op with
    | .neg=>some (.int k (k.wrap (0 - n)))
    | _=>none
  | _=>none
def lE {α:Type}:List α->Nat->List α->List α
  | l,_,[]=>l
  | [],_,_=>[]
  | _ :: l,0,x :: r=>x :: lE l 0 r
  | y :: l,n + 1,xs=>y :: lE l n xs
def PC:List V->List (Nat × Nat × V)->Option (List V)
  | z,[]=>some z
  | z,(off,size,v) :: r=>if v.cells.length = size ∧ off + size <= z.length ∧ v.known = true then PC (lE z off v.cells) r else none
def pN (bl:Nat->Option aL) (size:Nat):List (List D)->List (Nat × V)->Option (List (List D))
  | rs,[]=>some rs
  | rs,(i,v) :: r=>match aM (pE bl) v.cells with
    | some row=>if row.length = size ∧ i < rs.length then pN bl size (rs.set i row) r else none
    | none=>none
def aED (k:IntKind):Int->List V->Option D
  | x,[]=>some (.int k x)
  | x,.d (.int k' y) :: r=>if k = k' then aED k (if y < x then y else x) r else none
  | _,_=>none
def aOY:List V->Option D
  | .d (.int k x) :: r=>aED k x r
  | _=>none
def pB (bl:Nat->Option aL):V->Option (List (List D))
  | .d (.sl rows)=>some rows
  | .nil=>some []
  | .own id ver=>match bl id with
    | some (.rows v _ _ rows)=>if ver = v then some rows else none
    | some (.froz v rows)=>if ver = v then some rows else none
    | _=>none
  | _=>none
abbrev WY:=Option (V × List (Nat × Option aL))
def WY.v (x:Option D):WY:=x.map fun d=>(.d d,[])
def sized (size:Nat) (rows:List (List D)):Bool:=rows.all fun row=>row.length == size
def GW (bl:Nat->Option aL) (size:Nat) (x:V) (lo hi:Option V):WY :=
  match x,lo,hi with
  | .own id ver,none,some (.d (.int _ h))=>match bl id with
    | some (.rows v e size rows)=>if ver = v ∧ 0 <= h ∧ h.toNat <= rows.length then some (.own id (ver + 1),[(id,some (.rows (ver + 1) e size (rows.take h.toNat)))]) else none
    | _=>none
  | x,lo,hi=>match pB bl x with
    | none=>none
    | some rows =>
      match (match hi with | none=>some (rows.length:Int) | some (.d (.int _ h))=>some h | _=>none),(match lo with | none=>some (0:Int) | some (.d (.int _ l))=>some l | _=>none) with
      | some h,some l=>if 0 <= l ∧ l <= h ∧ h.toNat <= rows.length ∧ sized size rows = true then some (.d (.sl ((rows.take h.toNat).drop l.toNat)),JF bl x) else none
      | _,_=>none
def T7 (bl:Nat->Option aL):V->Option D
  | .own id ver=>match bl id with
    | some (.rows v e size rows)=>if ver = v then some (.own (.ref 0) [(e,size)] [rows]) else none
    | _=>none
  | _=>none
def KG (bl:Nat->Option aL) (t:Nat):Nat->List V->Option (List D)
  | _,[]=>some []
  | i,v :: r=>match (if i = t then T7 bl v else lG bl v) with
    | none=>none
    | some d=>match KG bl t (i + 1) r with
      | none=>none
      | some ds=>some (d :: ds)
def AA (bl:Nat->Option aL) (t:Nat):Nat->List V->List (Nat × Option aL)
  | _,[]=>[]
  | i,v :: r=>(if i = t then [] else CI bl v) ++ AA bl t (i + 1) r
def uP (rows:List (List D)):Bool:=rows.all fun row=>row.all NF
def aAR:D->Bool
  | .ref _ | .mref _=>true
  | x=>NF x
def aDq:D->Bool
  | .agg cs=>cs.all aAR
  | x=>aAR x
def aG2:D->Bool
  | .tup vs=>vs.all aDq
  | x=>aDq x
def QM (x:D) (rs:List (List (List D))):Bool:=aG2 x && rs.all uP
def GT (id:Nat):List (Nat × Option aL)->Bool
  | []=>true
  | (i,_) :: l=>if i = id then false else GT id l
def iB (C:Nat->List D->Option D) (site:Nat) (ev:d7->V) (bl:Nat->Option aL):pF->WY
  | .fail=>none
  | .move x=>some (ev x,[])
  | .pick c a b=>match ev c with
    | .d (.bool true)=>some (ev a,[])
    | .d (.bool false)=>some (ev b,[])
    | _=>none
  | .alloc z=>match bl site with
    | none=>some (.ptr site 0,[(site,some (.box z))])
    | some _=>none
  | .box x=>match bl site with
    | none=>if (ev x).known = true then some (.ptr site 0,[(site,some (.box (ev x).cells))]) else none
    | some _=>none
  | .build z parts=>(PC z (parts.map fun (o,s,x)=>(o,s,ev x))).map fun cs=>(.agg cs,[])
  | .buildSlice e size z n parts=>match bl site with
    | none=>match pN bl size (List.replicate n z) (parts.map fun (i,x)=>(i,ev x)) with
      | some rows=>some (.own site 0,(site,some (.rows 0 e size rows)) :: parts.flatMap fun (_,x)=>CI bl (ev x))
      | none=>none
    | some _=>none
  | .load size isAgg x=>match ev x with
    | .ptr id off=>match bl id with
      | some (.box cs) =>
        if isAgg then (if off + size <= cs.length then some (.agg ((cs.drop off).take size),[]) else none)
        else cs[off]?.map fun v=>(v,[])
      | some (.fbox row) =>
        if isAgg then (if off + size <= row.length then some (.agg (((row.drop off).take size).map .d),[]) else none)
        else row[off]?.map fun v=>(.d v,[])
      | _=>none
    | .d (.ptr row off) =>
      if isAgg then (if off + size <= row.length then some (.agg (((row.drop off).take size).map .d),[]) else none)
      else row[off]?.map fun v=>(.d v,[])
    | .orow id ver i off=>match bl id with
      | some (.rows v e sz rows)=>if ver = v then match rows[i]? with
        | some row =>
          if isAgg then (if off + size <= row.length then some (.agg (((row.drop off).take size).map .d),[]) else none)
          else row[off]?.map fun v=>(.d v,[])
        | none=>none
        else none
      | _=>none
    | _=>none
  | .store size x v=>match ev x with
    | .ptr id off=>match bl id with
      | some (.box cs)=>if (ev v).cells.length = size ∧ off + size <= cs.length ∧ (ev v).known = true then some (.any,[(id,some (.box (lE cs off (ev v).cells)))]) else none
      | _=>none
    | .orow id ver i off=>match bl id with
      | some (.rows w e sz rows)=>if ver = w then match rows[i]?,aM (pE bl) (ev v).cells with
        | some row,some ds=>if ds.length = size ∧ off + size <= row.length ∧ GT id (CI bl (ev v)) = true then some (.any,(id,some (.rows w e sz (rows.set i (lE row off ds)))) :: CI bl (ev v)) else none
        | _,_=>none
        else none
      | _=>none
    | _=>none
  | .nilCheck x=>match ev x with
    | .ptr id off=>some (.ptr id off,[])
    | .d (.ptr row off)=>some (.d (.ptr row off),[])
    | .orow id ver i off=>match bl id with
      | some (.rows v _ _ _)=>if ver = v then some (.orow id ver i off,[]) else none
      | _=>none
    | _=>none
  | .bin c op x y=>WY.v (IL c op (ev x) (ev y))
  | .eqS ks neg x y=>WY.v (eqV ks neg (ev x) (ev y))
  | .un op x=>WY.v (unV op (ev x))
  | .slice size x lo hi=>GW bl size (ev x) (lo.map ev) (hi.map ev)
  | .fieldAddr off x=>match ev x with
    | .ptr id o=>some (.ptr id (o + off),[])
    | .d (.ptr row o)=>some (.d (.ptr row (o + off)),[])
    | .orow id ver i o=>match bl id with
      | some (.rows v _ _ _)=>if ver = v then some (.orow id ver i (o + off),[]) else none
      | _=>none
    | _=>none
  | .indexAddr size x i=>match ev i with
    | .d (.int _ n)=>match ev x with
      | .own id ver=>match bl id with
        | some (.rows v e sz rows)=>if ver = v ∧ sz = size ∧ 0 <= n ∧ n.toNat < rows.length then some (.orow id ver n.toNat 0,[]) else none
        | some (.froz v rows)=>if ver = v ∧ 0 <= n then match rows[n.toNat]? with
          | some row=>if row.length = size then some (.d (.ptr row 0),[]) else none
          | none=>none
          else none
        | _=>none
      | .d (.sl rows)=>if 0 <= n then match rows[n.toNat]? with
        | some row=>if row.length = size then some (.d (.ptr row 0),[]) else none
        | none=>none
        else none
      | _=>none
    | _=>none
  | .len x=>(pB bl (ev x)).map fun rows=>(.d (.int .i64 rows.length),[])
  | .append e size bytes x y=>match pB bl (ev y) with
    | none=>none
    | some new =>
      if sized size new = true then
      match ev x with
      | .nil=>match bl site with
        | none=>if new.length * bytes <= 140737488355328 then some (.own site 0,[(site,some (.rows 0 e size new))]) else none
        | some _=>none
      | .own id ver=>match bl id with
        | some (.rows v e' size' rows)=>if ver = v ∧ e' = e ∧ size' = size ∧ (rows.length + new.length) * bytes <= 140737488355328 then some (.own id (ver + 1),[(id,some (.rows (ver + 1) e size (rows ++ new)))]) else none
        | _=>none
      | _=>none
      else none
  | .makeSlice e size bytes z l c=>match bl site with
    | none=>match ev l,ev c with
      | .d (.int _ n),.d (.int _ m)=>if 0 <= n ∧ n <= m ∧ (bytes:Int) * m <= 281474976710656 ∧ m <= 9223372036854775807 then some (.own site 0,[(site,some (.rows 0 e size (List.replicate n.toNat z)))]) else none
      | _,_=>none
    | some _=>none
  | .min l=>WY.v (aOY (l.map ev))
  | .extract x i=>match ev x with
    | .tup vs=>vs[i]?.map fun v=>(v,[])
    | _=>none
  | .call f args=>match aM (fun x=>lG bl (ev x)) args with
    | none=>none
    | some ds=>match C f ds with
      | none=>none
      | some r=>uJ site bl (args.flatMap fun x=>CI bl (ev x)) r
  | .lend f args t=>match (args.map ev)[t]? with
    | some (.own id ver)=>match KG bl t 0 (args.map ev) with
      | none=>none
      | some ds=>if GT id (AA bl t 0 (args.map ev)) = true then match C f ds with
          | some (.own y [(e,size)] [rows'])=>match bl id with
            | some (.rows v e' size' _)=>if ver = v ∧ e = e' ∧ size = size' ∧ PF y = true ∧ uP rows' = true then some (toV y,[(id,some (.rows v e size rows'))]) else none
            | _=>none
          | _=>none
        else none
    | _=>none
  | .calln f args=>match aM (fun x=>lG bl (ev x)) args with
    | none=>none
    | some ds=>match C f ds with
      | some (.own x es rs)=>if QM x rs = true then uJ site bl [] (.own x es rs) else none
      | _=>none
  | .mkfn f caps=>match aM (fun x=>pE bl (ev x)) caps with
    | none=>none
    | some ds=>some (.d (.fn f ds),caps.flatMap fun x=>JF bl (ev x))
  | .mkfnv f caps=>if (caps.map ev).all (VD bl) = true then some (.fn f (caps.map ev),[]) else none
  | .callv g args=>match ev g with
    | .d (.fn f caps)=>match aM (fun x=>lG bl (ev x)) args with
      | none=>none
      | some ds=>match C f (ds ++ caps) with
        | none=>none
        | some r=>uJ site bl (args.flatMap fun x=>CI bl (ev x)) r
    | _=>none
def St.put (s:St) (dst:Option Nat) (v:V) (wr:List (Nat × Option aL)):St :=
  ⟨match dst with | some d=>(d,v) :: s.fr | none=>s.fr,wr ++ s.bl⟩
inductive G where
  | run | skip | bad
def EF:V->Bool->G
  | .d (.bool true),true=>.run
  | .d (.bool false),false=>.run
  | .d (.bool _),_=>.skip
  | .tup [],_=>.skip
  | _,_=>.bad
def aS.wants (fr:Nat->V) (o:aS):G:=match o.guard with
  | none=>.run
  | some (t,b)=>EF (fr t) b
def EW (C:Nat->List D->Option D) (o:aS) (s:St):Option St :=
  match o.wants s.get with
  | .run=>match iB C o.site (cZ s.get) s.blk o.op with
    | some (v,wr)=>some (s.put o.dst v wr)
    | none=>none
  | .skip=>some (s.put o.dst (.tup []) [])
  | .bad=>none
def lA (C:Nat->List D->Option D):List aS->St->Option St
  | [],s=>some s
  | o :: r,s=>match EW C o s with
    | some s'=>lA C r s'
    | none=>none
end Vm
end
section
namespace Vm
open Go.RowKit
def RH (_:Option Obj) (_:Nat) (_:List (Int × ML)):Prop:=False
theorem RH.of {o o' : Option Obj} {ek:Nat} {m:List (Int × ML)} (h:RH o ek m) (_:∀ x,o = some x->o' = some x):RH o' ek m:=h.elim
theorem RH.obj {o:Option Obj} {ek:Nat} {m:List (Int × ML)} (h:RH o ek m):∃ es clock,o = some (.map es clock):=h.elim
abbrev Hp:=Nat->Option Obj
def Hp.le (h k:Hp):Prop:=∀ b o,h b = some o->k b = some o
def hw (w:World):Hp:=fun b=>w.heap[b]?
def Hp.cell (h:Hp) (b o:Nat):Option Value:=match h b with
  | some (.cells c _ _)=>c[o]?
  | _=>none
theorem Hp.le.refl (h:Hp):h.le h:=fun _ _ e=>e
theorem Hp.le.trans {a b c:Hp} (h:a.le b) (k:b.le c):a.le c:=fun x o e=>k x o (h x o e)
theorem Hp.cell_le {h k:Hp} (l:h.le k) {b o:Nat} {v:Value} (e:h.cell b o = some v):k.cell b o = some v:=by
  unfold Hp.cell at *
  cases hb:h b with
  | none=>simp [hb] at e
  | some x=>rw [l b x hb]; rw [hb] at e; exact e
theorem TR (w:World) (b o:Nat):w.cell? ⟨b,o,none⟩ = (hw w).cell b o:=by
  simp only [World.cell?,Hp.cell,hw]
  cases w.heap[b]? with
  | none=>rfl
  | some x=>cases x <;> rfl
structure c8 extends World where
  L:Nat->Prop
  /-- slots that stay as they are -/
  F:Nat->Option Value
  /-- what the slots of callers hold -/
  O:Nat->Nat->Value
  /-- the calls that are deferred (the marks of ranges over functions) -/
  M:List Deferred
def c8.of (w:World):c8:={ w with L:=fun _=>False,F:=fun _=>none,O:=fun _ _=>undef,M:=[] }
def UQ (nt:Nat) (b:c8) (dst:Option Nat):Prop:=∀ d,dst = some d->d < nt ∧ b.F d = none
def c8.own (b:c8) (g:Nat):Prop:=b.heap.size <= g ∨ b.L g
theorem c8.own_of {w:World} {g:Nat} (h:(c8.of w).own g):w.heap.size <= g:=by
  rcases h with h | h
  · exact h
  · exact h.elim
structure GE (b:c8) (w w' : World):Prop where
  os:w'.os = w.os
  tape:w'.tape = w.tape
  output:w'.output = w.output
  size:w.heap.size <= w'.heap.size
  block:∀ k,¬ b.own k->w'.heap[k]? = w.heap[k]?
theorem GE.refl (b:c8) (w:World):GE b w w:=⟨rfl,rfl,rfl,É _,fun _ _=>rfl⟩
theorem GE.trans {b:c8} {u v w:World} (h:GE b u v) (k:GE b v w):GE b u w :=
  ⟨k.os.trans h.os,k.tape.trans h.tape,k.output.trans h.output,ñ h.size k.size,fun i hi=>(k.block i hi).trans (h.block i hi)⟩
theorem c8.lt {b:c8} {k:Nat} (h:¬ b.own k):k < b.heap.size:=Nat.lt_of_not_le fun q=>h (.inl q)
theorem GE.of {b:c8} {w w' : World} (hb:b.heap.size <= w.heap.size) (h:Below w.heap.size w w'):GE b w w' :=
  ⟨h.os,h.tape,h.output,h.size,fun k hk=>h.block k (ę (c8.lt hk) hb)⟩
theorem GE.below {w w' : World} (h:GE (c8.of w) w w'):Below w.heap.size w w' :=
  ⟨h.os,h.tape,h.output,h.size,fun k hk=>h.block k fun q=>by have:=c8.own_of q; omega⟩
theorem GE.alloc {b:c8} {w:World} (hb:b.heap.size <= w.heap.size) (o:Obj):GE b w (w.alloc o):=GE.of hb ((Below.refl _ _).alloc (É _) o)
theorem GE.grown {b:c8} {w w' : World} {row:Option Nat} (hg:w.grownBy w' row) (hB:b.heap.size <= w.heap.size) (hr:∀ k,row = some k->b.own k):GE b w w' :=
  ⟨hg.os,hg.tape,hg.output,hg.size,fun k hk=>hg.block k (ę (c8.lt hk) hB) fun e=>hk (hr k e.symm)⟩
theorem GE.drew {b:c8} {a w:World} (h:GE b a w):GE b a w.drew:=⟨h.os,h.tape,h.output,h.size,h.block⟩
def D.noTup:D->Bool
  | .tup _=>false
  | _=>true
inductive aW (h:Hp):Value->D->Prop
  | int (k:IntKind) (n:Int):aW h (.int k n) (.int k n)
  | bool (b:Bool):aW h (.bool b) (.bool b)
  | str (s:ByteArray) (hs:s.size <= maxLen):aW h (.string s) (.str s)
  | np:aW h (.pointer none) .np
  | fn (f:Nat) (arr:Array Value) (cs:List D) (hl:arr.size = cs.length) (hr:∀ (j:Nat) (x:D),cs[j]? = some x->aW h (arr.getD j undef) x):aW h (.func (.func f) #[] arr) (.fn f cs)
  | sl0 (a:Option Addr) (c:Nat) (h0:a = none->c = 0):aW h (.slice a 0 c) (.sl [])
  | sl (b off c k n:Nat) (rows:List (List D)) (cv:Nat->Nat->Value) (hn:n = rows.length) (hc:rows.length <= c)
      (hk:∀ (i:Nat) (row:List D),rows[i]? = some row->row.length = k)
      (hm:∀ (i:Nat) (row:List D) (j:Nat) (x:D),rows[i]? = some row->row[j]? = some x->h.cell b (off + i * k + j) = some (cv i j))
      (hr:∀ (i:Nat) (row:List D) (j:Nat) (x:D),rows[i]? = some row->row[j]? = some x->aW h (cv i j) x)
      (ho:∀ (i:Nat) (row:List D) (j:Nat) (x:D),rows[i]? = some row->row[j]? = some x->(cv i j).oneCell' = true):aW h (.slice (some ⟨b,off,none⟩) n c) (.sl rows)
  | agg (arr:Array Value) (cs:List D) (hl:arr.size = cs.length) (hr:∀ (j:Nat) (x:D),cs[j]? = some x->aW h (arr.getD j undef) x)
      (ho:∀ (j:Nat) (x:D),cs[j]? = some x->(arr.getD j undef).oneCell' = true):aW h (.agg arr) (.agg cs)
  | tup (arr:Array Value) (vs:List D) (hl:arr.size = vs.length) (hr:∀ (j:Nat) (x:D),vs[j]? = some x->aW h (arr.getD j undef) x) (hn:∀ (j:Nat) (x:D),vs[j]? = some x->x.noTup = true):aW h (.tuple arr) (.tup vs)
  | ptr (b o off n:Nat) (row:List D) (cv:Nat->Value) (hn:n = o + off)
      (hm:∀ (j:Nat) (x:D),row[j]? = some x->h.cell b (o + j) = some (cv j))
      (hr:∀ (j:Nat) (x:D),row[j]? = some x->aW h (cv j) x)
      (ho:∀ (j:Nat) (x:D),row[j]? = some x->(cv j).oneCell' = true):aW h (.pointer (some ⟨b,n,none⟩)) (.ptr row off)
  | mp0:aW h (.map none) (.mp 2 [])
  | mp (g ek:Nat) (m:List (Int × ML)) (hm:RH (h g) ek m):aW h (.map (some g)) (.mp ek m)
theorem RH.le {h k:Hp} (l:h.le k) {g ek:Nat} {m:List (Int × ML)} (hm:RH (h g) ek m):RH (k g) ek m:=by
  exact hm.of fun x hx=>l g x hx
theorem aW.mono {h k:Hp} (l:h.le k) {v:Value} {x:D} (r:aW h v x):aW k v x:=by
  induction r with
  | int=>exact .int _ _
  | bool=>exact .bool _
  | str s hs=>exact .str s hs
  | np=>exact .np
  | fn f arr cs hl hr ih=>exact .fn f arr cs hl ih
  | sl0 a c h0=>exact .sl0 a c h0
  | sl b off c kk n rows cv hn hc hk hm hr ho ih=>exact .sl b off c kk n rows cv hn hc hk (fun i row j x h1 h2=>Hp.cell_le l (hm i row j x h1 h2)) ih ho
  | agg arr cs hl hr ho ih=>exact .agg arr cs hl ih ho
  | tup arr vs hl hr hn ih=>exact .tup arr vs hl ih hn
  | ptr b o off n row cv hn hm hr ho ih=>exact .ptr b o off n row cv hn (fun j x h1=>Hp.cell_le l (hm j x h1)) ih ho
  | mp0=>exact .mp0
  | mp g ek m hm=>exact .mp g ek m (hm.le l)
def D.atom:D->Bool
  | .agg _ | .tup _=>false
  | _=>true
theorem aW.one {h:Hp} {v:Value} {x:D} (r:aW h v x) (hx:x.atom = true):v.oneCell' = true:=by
  cases r <;> first | rfl | simp [D.atom] at hx
def jH:Value->Option Nat
  | .pointer (some a)=>some a.block
  | .slice (some a) _ _=>some a.block
  | .map (some g)=>some g
  | _=>none
def aL.ver? : aL->Option Nat
  | .rows v _ _ _=>some v
  | .froz v _=>some v
  | .box _=>none
  | .fbox _=>none
  | .outer _=>none
  | .mp _ _=>none
  | .fmp _ _=>none
def aL.isMp:aL->Bool
  | .mp _ _ | .fmp _ _=>true
  | _=>false
def aL.isBox:aL->Bool
  | .box _ | .fbox _=>true
  | _=>false
def RC (hd:Nat->Value) (bl:Nat->Option aL) (v:Value):V->Prop
  | .ptr id off=>(∃ b,bl id = some b ∧ b.isBox = true) ∧ ∃ g,hd id = .pointer (some ⟨g,0,none⟩) ∧ v = .pointer (some ⟨g,off,none⟩)
  | _=>False
def R1 (h:Hp) (hd:Nat->Value) (bl:Nat->Option aL) (v:Value):V->Prop
  | .any=>True
  | .d x=>x.atom = true ∧ aW h v x
  | .nil=>v = .slice none 0 0
  | .ptr id off=>(∃ b,bl id = some b ∧ b.isBox = true) ∧ ∃ g,hd id = .pointer (some ⟨g,0,none⟩) ∧ v = .pointer (some ⟨g,off,none⟩)
  | .own id ver=>∃ b c,bl id = some b ∧ b.ver? = some c ∧ ver <= c ∧ v.oneCell' = true ∧ (ver = c->v = hd id)
  | .orow id ver i off=>∃ b c,bl id = some b ∧ b.ver? = some c ∧ ver <= c ∧ v.oneCell' = true ∧ ∀ e size rows,b = .rows ver e size rows->∃ g b n c,hd id = .slice (some ⟨g,b,none⟩) n c ∧ v = .pointer (some ⟨g,b + (i * size + off),none⟩)
  | .fn f caps=>∃ arr:Array Value,v = .func (.func f) #[] arr ∧ arr.size = caps.length ∧ ∀ j x,caps[j]? = some x->RC hd bl (arr.getD j undef) x
  | .mp id=>(∃ b,bl id = some b ∧ b.isMp = true) ∧ v = hd id ∧ ∃ g,hd id = .map (some g)
  | .agg _ | .tup _=>False
def R2 (h:Hp) (hd:Nat->Value) (bl:Nat->Option aL) (v:Value):V->Prop
  | .agg cs=>∃ arr,v = .agg arr ∧ arr.size = cs.length ∧ ∀ j x,cs[j]? = some x->R1 h hd bl (arr.getD j undef) x ∧ (arr.getD j undef).oneCell' = true
  | x=>R1 h hd bl v x
def R3 (h:Hp) (hd:Nat->Value) (bl:Nat->Option aL) (v:Value):V->Prop
  | .tup vs=>∃ arr,v = .tuple arr ∧ arr.size = vs.length ∧ ∀ j x,vs[j]? = some x->R2 h hd bl (arr.getD j undef) x
  | x=>R2 h hd bl v x
def lZ (w:World) (e size:Nat) (v:Value) (n:Nat) (xs:List Value):Prop:=xs.length = n * size ∧
  ((v = .slice none 0 0 ∧ n = 0) ∨ ∃ g o cap cur,v = .slice (some ⟨g,o * size,none⟩) n cap ∧ w.heap[g]? = some (.cells cur e (0,0)) ∧ n <= cap ∧ cap <= maxLen ∧ (o + cap) * size <= cur.size ∧ (cur.toList.drop (o * size)).take (n * size) = xs)
theorem G3 {w:World} {base e size n:Nat} {v:Value} {xs:List Value} (h:w.ownsRow base e size v n xs):lZ w e size v n xs:=by
  refine ⟨h.1,?_⟩
  rcases h.2 with q | ⟨g,cap,cur,q1,q2,q3,q4,q5,q6,q7⟩
  · exact .inl q
  · exact .inr ⟨g,0,cap,cur,by simpa using q1,q3,q4,q5,by simp [q6],by simpa using q7⟩
theorem lZ.lt {w:World} {e size n:Nat} {v:Value} {xs:List Value} (h:lZ w e size v n xs):∀ g,jH v = some g->g < w.heap.size:=by
  intro g hg
  rcases h.2 with ⟨rfl,_⟩ | ⟨g',o,cap,cur,rfl,q,_⟩
  · cases hg
  · cases hg; exact (Ï.1 q).1
theorem lZ.one {w:World} {e size n:Nat} {v:Value} {xs:List Value} (h:lZ w e size v n xs):v.oneCell' = true:=by
  rcases h.2 with ⟨rfl,_⟩ | ⟨g',o,cap,cur,rfl,q,_⟩ <;> rfl
theorem lZ.num {w:World} {e size n:Nat} {v:Value} {xs:List Value} (h:lZ w e size v n xs):jH v = v.ownBlock:=by
  rcases h.2 with ⟨rfl,_⟩ | ⟨g',o,cap,cur,rfl,q,_⟩ <;> rfl
theorem lZ.cells {w:World} {e size n:Nat} {v:Value} {xs:List Value} (h:lZ w e size v n xs) {g b m c:Nat} (hv:v = .slice (some ⟨g,b,none⟩) m c):∀ (j:Nat) (u:Value),xs[j]? = some u->w.cell? ⟨g,b + j,none⟩ = some u:=by
  intro j u hj
  rcases h.2 with ⟨rfl,_⟩ | ⟨g',o,cap,cur,rfl,q,q1,q2,q3,q4⟩
  · cases hv
  · cases hv
    rw [← q4,Ö] at hj
    split at hj
    · rw [â] at hj
      have:cur[o * size + j]? = some u:=by simpa using hj
      simp [World.cell?,q,this]
    · cases hj
def lC (h:Hp) (size:Nat) (rows:List (List D)) (xs:List Value):Prop :=
  ∀ i row,rows[i]? = some row->row.length = size ∧ ∀ j x,row[j]? = some x->x.atom = true ∧ ∃ u,xs[i * size + j]? = some u ∧ aW h u x
def BR (base:c8) (w:World) (h:Hp) (hd:Nat->Value) (bl:Nat->Option aL) (id:Nat):aL->Prop
  | .box cs=>∃ g arr e,hd id = .pointer (some ⟨g,0,none⟩) ∧ base.own g ∧ w.heap[g]? = some (.cells arr e (0,0)) ∧ arr.size = cs.length ∧
      (∀ j x,cs[j]? = some x->R1 h hd bl (arr.getD j undef) x ∧ (arr.getD j undef).oneCell' = true) ∧ h g = none
  | .rows ver e size rows=>0 < size ∧ rows.length <= maxLen ∧ (∃ xs,lZ w e size (hd id) rows.length xs ∧ lC h size rows xs) ∧ ∀ g,jH (hd id) = some g->h g = none ∧ base.own g
  | .froz ver rows=>aW h (hd id) (.sl rows)
  | .fbox cs=>aW h (hd id) (.ptr cs 0)
  | .outer cs=>∀ j x,cs[j]? = some x->R3 h hd bl (base.O id j) x
  | .mp ek m=>∃ g,hd id = .map (some g) ∧ base.own g ∧ RH w.heap[g]? ek m ∧ h g = none
  | .fmp ek m=>aW h (hd id) (.mp ek m)
def aL.live:aL->Bool
  | .fmp _ _=>false
  | .froz _ _=>false
  | .fbox _=>false
  | .outer _=>false
  | _=>true
structure Rl (nt:Nat) (w0:c8) (h0:Hp) (fr:Nat->V) (bl:Nat->Option aL) (a:Act) (w:World) (h:Hp) (hd:Nat->Value):Prop where
  tmps:a.tmps.size = nt
  defers:a.defers = w0.M
  fixed:∀ t v,w0.F t = some v->a.tmps.getD t undef = v
  below:GE w0 w0.toWorld w
  hle:h.le (hw w)
  h0le:h0.le h
  hbase:∀ b,¬ w0.own b->h b = h0 b
  frame:∀ t,R3 h hd bl (a.tmps.getD t undef) (fr t)
  blk:∀ id b,bl id = some b->BR w0 w h hd bl id b
  sep:∀ i j bi bj g,bl i = some bi->bl j = some bj->bi.live = true->bj.live = true->jH (hd i) = some g->jH (hd j) = some g->i = j
def DD (hd hd' : Nat->Value) (id:Nat):aL->aL->Prop
  | .box _,.box _=>hd' id = hd id
  | .box _,.fbox _=>hd' id = hd id
  | .fbox _,.fbox _=>hd' id = hd id
  | .rows v e s _,.rows v' e' s' _=>(v' = v ∧ e' = e ∧ s' = s ∧ hd' id = hd id) ∨ v < v'
  | .rows v _ _ _,.froz v' _=>v' = v ∧ hd' id = hd id
  | .froz v _,.froz v' _=>v' = v ∧ hd' id = hd id
  | .outer _,.outer _=>True
  | .mp e _,.mp e' _=>e' = e ∧ hd' id = hd id
  | .mp e _,.fmp e' _=>e' = e ∧ hd' id = hd id
  | .fmp e _,.fmp e' _=>e' = e ∧ hd' id = hd id
  | _,_=>False
def Kp (hd hd' : Nat->Value) (bl bl' : Nat->Option aL):Prop:=∀ id b,bl id = some b->∃ b',bl' id = some b' ∧ DD hd hd' id b b'
theorem DD.refl (hd:Nat->Value) (id:Nat) (b:aL):DD hd hd id b b:=by cases b <;> simp [DD]
theorem Kp.refl (hd:Nat->Value) (bl:Nat->Option aL):Kp hd hd bl bl:=fun id b h=>⟨b,h,DD.refl hd id b⟩
section
variable {h h' : Hp} {hd hd' : Nat->Value} {bl bl' : Nat->Option aL} {v:Value}
theorem RC.keep (k:Kp hd hd' bl bl') {v:Value}:∀ {x:V},RC hd bl v x->RC hd' bl' v x:=by
  intro x r
  cases x with
  | ptr id off =>
    obtain ⟨⟨b,hb,hx⟩,g,hg,e⟩:=r
    obtain ⟨b',hb',kk⟩:=k _ _ hb
    cases b <;> cases b' <;> simp only [DD] at kk <;> first | (simp [aL.isBox] at hx; done) | exact ⟨⟨_,hb',rfl⟩,g,kk.trans hg,e⟩
  | _=>exact r.elim
theorem R1.keep (l:h.le h') (k:Kp hd hd' bl bl'):∀ {x:V},R1 h hd bl v x->R1 h' hd' bl' v x:=by
  intro x r
  cases x with
  | any=>trivial
  | d x=>exact ⟨r.1,r.2.mono l⟩
  | nil=>exact r
  | agg cs=>exact r
  | tup cs=>exact r
  | ptr id off =>
    obtain ⟨⟨b,hb,hx⟩,g,hg,e⟩:=r
    obtain ⟨b',hb',kk⟩:=k _ _ hb
    cases b <;> cases b' <;> simp only [DD] at kk <;> first | (simp [aL.isBox] at hx; done) | exact ⟨⟨_,hb',rfl⟩,g,kk.trans hg,e⟩
  | own id ver =>
    obtain ⟨b,c,hb,hc,hle,h1,he⟩:=r
    obtain ⟨b',hb',kk⟩:=k _ _ hb
    cases b <;> cases b' <;> simp only [DD] at kk <;> simp only [aL.ver?,Å,reduceCtorEq] at hc
    · rcases kk with ⟨rfl,_,_,kk⟩ | kk
      · exact ⟨_,_,hb',rfl,by omega,h1,fun e=>(he (by omega)).trans kk.symm⟩
      · exact ⟨_,_,hb',rfl,by omega,h1,fun e=>by omega⟩
    · obtain ⟨rfl,kk⟩:=kk
      exact ⟨_,_,hb',rfl,by omega,h1,fun e=>(he (by omega)).trans kk.symm⟩
    · obtain ⟨rfl,kk⟩:=kk
      exact ⟨_,_,hb',rfl,by omega,h1,fun e=>(he (by omega)).trans kk.symm⟩
  | orow id ver i off =>
    obtain ⟨b,c,hb,hc,hle,h1,he⟩:=r
    obtain ⟨b',hb',kk⟩:=k _ _ hb
    cases b <;> cases b' <;> simp only [DD] at kk <;> simp only [aL.ver?,Å,reduceCtorEq] at hc
    · rcases kk with ⟨rfl,rfl,rfl,kk⟩ | kk
      · refine ⟨_,_,hb',rfl,by omega,h1,fun e s rows eq=>?_⟩
        cases eq
        rw [kk]
        exact he _ _ _ rfl
      · exact ⟨_,_,hb',rfl,by omega,h1,fun e s rows eq=>by cases eq; omega⟩
    · exact ⟨_,_,hb',rfl,by omega,h1,fun e s rows eq=>by cases eq⟩
    · exact ⟨_,_,hb',rfl,by omega,h1,fun e s rows eq=>by cases eq⟩
  | fn f caps =>
    obtain ⟨arr,e,hs,hr⟩:=r
    exact ⟨arr,e,hs,fun j x hx=>(hr j x hx).keep k⟩
  | mp id =>
    obtain ⟨⟨b,hb,hx⟩,e,g,hg⟩:=r
    obtain ⟨b',hb',kk⟩:=k _ _ hb
    cases b <;> cases b' <;> simp only [DD] at kk <;> first | (simp [aL.isMp] at hx; done) | exact ⟨⟨_,hb',rfl⟩,e.trans kk.2.symm,g,kk.2.trans hg⟩
theorem R1.one {x:V} (r:R1 h hd bl v x) (hx:x ≠ .any):v.oneCell' = true:=by
  cases x with
  | any=>exact absurd rfl hx
  | d x=>exact r.2.one r.1
  | nil=>rw [show v = _ from r]; rfl
  | agg cs=>exact r.elim
  | tup cs=>exact r.elim
  | ptr id off=>obtain ⟨_,g,_,rfl⟩:=r; rfl
  | own id ver=>obtain ⟨b,c,hb,hc,hle,h1,he⟩:=r; exact h1
  | orow id ver i off=>obtain ⟨b,c,hb,hc,hle,h1,he⟩:=r; exact h1
  | fn f caps=>obtain ⟨arr,rfl,_⟩:=r; rfl
  | mp id=>obtain ⟨_,rfl,g,hg⟩:=r; rw [hg]; rfl
theorem R2.of1 {x:V} (r:R1 h hd bl v x):R2 h hd bl v x:=by
  cases x <;> first | exact r | exact r.elim
theorem R3.of2 {x:V} (r:R2 h hd bl v x):R3 h hd bl v x:=by
  cases x <;> first | exact r | exact r.elim
theorem R2.keep (l:h.le h') (k:Kp hd hd' bl bl'):∀ {x:V},R2 h hd bl v x->R2 h' hd' bl' v x:=by
  intro x r
  cases x with
  | agg cs =>
    obtain ⟨arr,e,hs,hr⟩:=r
    exact ⟨arr,e,hs,fun j x hx=>⟨(hr j x hx).1.keep l k,(hr j x hx).2⟩⟩
  | _=>exact R2.of1 (R1.keep l k r)
theorem R3.keep (l:h.le h') (k:Kp hd hd' bl bl'):∀ {x:V},R3 h hd bl v x->R3 h' hd' bl' v x:=by
  intro x r
  cases x with
  | tup cs =>
    obtain ⟨arr,e,hs,hr⟩:=r
    exact ⟨arr,e,hs,fun j x hx=>(hr j x hx).keep l k⟩
  | _=>exact R3.of2 (R2.keep l k r)
theorem lC.mono {size:Nat} {rows:List (List D)} {xs:List Value} (l:h.le h') (r:lC h size rows xs):lC h' size rows xs:=fun i row hi =>
  ⟨(r i row hi).1,fun j x hx=>⟨((r i row hi).2 j x hx).1,by obtain ⟨u,h1,h2⟩:=((r i row hi).2 j x hx).2; exact ⟨u,h1,h2.mono l⟩⟩⟩
end
theorem MQ {base:Nat} {w:World} {e size n:Nat} {v:Value} {xs:List Value} (h:w.ownsRow base e size v n xs):jH v = v.ownBlock:=by
  rcases h.2 with ⟨rfl,_⟩ | ⟨g,cap,cur,rfl,_⟩ <;> rfl
theorem BR.keep {base:c8} {w w' : World} {h h' : Hp} {hd hd' : Nat->Value} {bl bl' : Nat->Option aL} {id:Nat} {b:aL} (l:h.le h') (k:Kp hd hd' bl bl')
    (hh:hd' id = hd id) (hw:b.live = true->∀ g,jH (hd id) = some g->w'.heap[g]? = w.heap[g]? ∧ (h g = none->h' g = none)) (r:BR base w h hd bl id b):BR base w' h' hd' bl' id b:=by
  cases b with
  | box cs =>
    obtain ⟨g,arr,e,h1,h2,h3,h4,h5,h6⟩:=r
    obtain ⟨q1,q2⟩:=hw rfl g (by rw [h1]; rfl)
    exact ⟨g,arr,e,hh.trans h1,h2,q1.trans h3,h4,fun j x hx=>⟨(h5 j x hx).1.keep l k,(h5 j x hx).2⟩,q2 h6⟩
  | rows ver e size rows =>
    obtain ⟨h1,h2,⟨xs,h3,h4⟩,h5⟩:=r
    refine ⟨h1,h2,⟨xs,?_,h4.mono l⟩,fun g hg=>⟨(hw rfl g (hh ▸ hg)).2 (h5 g (hh ▸ hg)).1,(h5 g (hh ▸ hg)).2⟩⟩
    rw [hh]
    refine ⟨h3.1,?_⟩
    rcases h3.2 with q | ⟨g,o,cap,cur,q1,q3,q4⟩
    · exact .inl q
    · exact .inr ⟨g,o,cap,cur,q1,((hw rfl g (by rw [q1]; rfl)).1).trans q3,q4⟩
  | froz ver rows =>
    show aW h' (hd' id) (.sl rows)
    rw [hh]
    exact aW.mono l r
  | fbox cs =>
    show aW h' (hd' id) (.ptr cs 0)
    rw [hh]
    exact aW.mono l r
  | outer cs=>exact fun j x hx=>R3.keep l k (r j x hx)
  | mp ek m =>
    obtain ⟨g,h1,h2,h3,h4⟩:=r
    obtain ⟨q1,q2⟩:=hw rfl g (by rw [h1]; rfl)
    exact ⟨g,hh.trans h1,h2,by rw [q1]; exact h3,q2 h4⟩
  | fmp ek m =>
    show aW h' (hd' id) (.mp ek m)
    rw [hh]
    exact aW.mono l r
theorem BR.num {base:c8} {w:World} {h:Hp} {hd:Nat->Value} {bl:Nat->Option aL} {id:Nat} {b:aL} (hb:b.live = true) (r:BR base w h hd bl id b) {g:Nat} (hg:jH (hd id) = some g) :
    base.own g ∧ g < w.heap.size ∧ h g = none:=by
  cases b with
  | box cs =>
    obtain ⟨g',arr,e,h1,h2,h3,h4,h5,h6⟩:=r
    rw [h1] at hg
    obtain rfl:=õ hg
    exact ⟨h2,(Ï.1 h3).1,h6⟩
  | rows ver e size rows =>
    obtain ⟨h1,h2,⟨xs,h3,h4⟩,h5⟩:=r
    have:=h3.lt g hg
    exact ⟨(h5 g hg).2,this,(h5 g hg).1⟩
  | froz ver rows=>simp [aL.live] at hb
  | fbox cs=>simp [aL.live] at hb
  | outer cs=>simp [aL.live] at hb
  | mp ek m =>
    obtain ⟨g',h1,h2,h3,h4⟩:=r
    rw [h1] at hg
    obtain rfl:=õ hg
    obtain ⟨es,clock,h5⟩:=h3.obj
    exact ⟨h2,(Ï.1 h5).1,h4⟩
  | fmp ek m=>simp [aL.live] at hb
end Vm
end
section
namespace Vm
open Go.RowKit
theorem bN {α β:Type} {f:α->Option β}:∀ {l:List α} {ys:List β},aM f l = some ys->l.length = ys.length ∧ ∀ (i:Nat) (x:α),l[i]? = some x->∃ y,ys[i]? = some y ∧ f x = some y
  | [],ys,h=>by simp [aM] at h; subst h; simp
  | x :: r,ys,h=>by
    simp only [aM] at h
    split at h
    · cases h
    · rename_i y hy
      split at h
      · cases h
      · rename_i zs hz
        cases h
        obtain ⟨h1,h2⟩:=bN hz
        refine ⟨by simp [h1],fun i x' hx=>?_⟩
        cases i with
        | zero=>simp at hx; subst hx; exact ⟨y,by simp,hy⟩
        | succ i=>simpa using h2 i x' (by simpa using hx)
theorem cV {α β:Type} {f:α->Option β} {l:List α} {ys:List β} (h:aM f l = some ys) {i:Nat} {y:β} (hy:ys[i]? = some y):∃ x,l[i]? = some x ∧ f x = some y:=by
  obtain ⟨h1,h2⟩:=bN h
  have:i < l.length:=by rw [h1]; exact (Æ.1 hy).1
  obtain ⟨y',q1,q2⟩:=h2 i l[i] (by simp [this])
  rw [hy] at q1
  cases q1
  exact ⟨l[i],by simp [this],q2⟩
def jP (fr:Nat->V) (dst:Option Nat) (v:V):Nat->V:=fun t=>if dst = some t then v else fr t
def cC (bl:Nat->Option aL) (wr:List (Nat × Option aL)):Nat->Option aL:=fun id=>lk wr (bl id) id
theorem aAG (bl:Nat->Option aL) (i:Nat) (b:Option aL) (wr:List (Nat × Option aL)):cC bl ((i,b) :: wr) = cC (cC bl wr) [(i,b)]:=by
  funext id; simp [cC,lk]
theorem vH (bl:Nat->Option aL) (i:Nat) (b:Option aL):cC bl [(i,b)] i = b:=by simp [cC,lk]
theorem CM (bl:Nat->Option aL) {i j:Nat} (b:Option aL) (h:j ≠ i):cC bl [(i,b)] j = bl j:=by simp [cC,lk,h]
theorem P9 (a:Act) (dst:Option Nat) (cv:Value) (t nt:Nat) (hs:a.tmps.size = nt) (hd:∀ d,dst = some d->d < nt) :
    (a.put dst cv).tmps.getD t undef = if dst = some t then cv else a.tmps.getD t undef:=by
  cases dst with
  | none=>simp [Act.put]
  | some d =>
    have:=hd d rfl
    simp only [Act.put,Å]
    by_cases e:d = t
    · subst e; simp [hs,this]
    · simp [e,ė e]
section
variable {nt:Nat} {w0:c8} {w w' : World} {h0 h h' : Hp} {fr:Nat->V} {bl bl' : Nat->Option aL} {a:Act} {hd hd' : Nat->Value}
theorem Rl.put (r:Rl nt w0 h0 fr bl a w h hd) (dst:Option Nat) (cv:Value) (v:V) (hdst:UQ nt w0 dst)
    (hl:h.le h') (hle:h'.le (hw w')) (hb:∀ b,¬ w0.own b->h' b = h b) (hbel:GE w0 w w') (hk:Kp hd hd' bl bl')
    (hB:∀ id b,bl' id = some b->BR w0 w' h' hd' bl' id b)
    (hsep:∀ i j bi bj g,bl' i = some bi->bl' j = some bj->bi.live = true->bj.live = true->jH (hd' i) = some g->jH (hd' j) = some g->i = j)
    (hv:R3 h' hd' bl' cv v):Rl nt w0 h0 (jP fr dst v) bl' (a.put dst cv) w' h' hd' where
  tmps:=by cases dst <;> simp [Act.put,r.tmps]
  defers:=by cases dst <;> simp [Act.put,r.defers]
  fixed:=fun t u hF=>by
    rw [P9 a dst cv t nt r.tmps fun d e=>(hdst d e).1]
    by_cases e:dst = some t
    · rw [(hdst t e).2] at hF; cases hF
    · rw [Ã e]; exact r.fixed t u hF
  below:=r.below.trans hbel
  hle:=hle
  h0le:=r.h0le.trans hl
  hbase:=fun b h=>(hb b h).trans (r.hbase b h)
  frame:=fun t=>by
    rw [P9 a dst cv t nt r.tmps fun d e=>(hdst d e).1]
    unfold jP
    by_cases e:dst = some t
    · rw [Á e,Á e]; exact hv
    · rw [Ã e,Ã e]; exact (r.frame t).keep hl hk
  blk:=hB
  sep:=hsep
theorem Rl.put0 (r:Rl nt w0 h0 fr bl a w h hd) (dst:Option Nat) (cv:Value) (v:V) (hdst:UQ nt w0 dst) (hv:R3 h hd bl cv v) :
    Rl nt w0 h0 (jP fr dst v) bl (a.put dst cv) w h hd :=
  r.put dst cv v hdst (Hp.le.refl _) r.hle (fun _ _=>rfl) (GE.refl _ _) (Kp.refl _ _) r.blk r.sep hv
theorem Rl.turn (r:Rl nt w0 h0 fr bl a w h hd) (dst:Option Nat) (cv:Value) (v:V) (hdst:UQ nt w0 dst)
    (id:Nat) (b:aL) (hv' : Value) (hbel:GE w0 w w') (hle:h.le (hw w'))
    (hk:∀ b0,bl id = some b0->DD hd (fun i=>if i = id then hv' else hd i) id b0 b)
    (hoth:∀ g,g < w.heap.size->(∀ b0,bl id = some b0->b0.live = true->jH (hd id) ≠ some g)->w'.heap[g]? = w.heap[g]?)
    (hB:BR w0 w' h (fun i=>if i = id then hv' else hd i) (cC bl [(id,some b)]) id b)
    (hnew:∀ g,jH hv' = some g->b.live = true->w.heap.size <= g ∨ ∃ b0,bl id = some b0 ∧ b0.live = true ∧ jH (hd id) = some g)
    (hvv:R3 h (fun i=>if i = id then hv' else hd i) (cC bl [(id,some b)]) cv v) :
    Rl nt w0 h0 (jP fr dst v) (cC bl [(id,some b)]) (a.put dst cv) w' h (fun i=>if i = id then hv' else hd i):=by
  have hkp:Kp hd (fun i=>if i = id then hv' else hd i) bl (cC bl [(id,some b)]):=by
    intro j c hj
    by_cases e:j = id
    · subst e; exact ⟨b,vH _ _ _,hk c hj⟩
    · refine ⟨c,by rw [CM _ _ e]; exact hj,?_⟩
      have:=DD.refl hd j c
      cases c <;> simp only [DD] at this ⊢ <;> simp [e]
  refine r.put dst cv v hdst (Hp.le.refl _) hle (fun _ _=>rfl) hbel hkp ?_ ?_ hvv
  · intro j c hj
    by_cases e:j = id
    · subst e
      rw [vH] at hj
      obtain rfl:=õ hj
      exact hB
    · rw [CM _ _ e] at hj
      refine (r.blk j c hj).keep (Hp.le.refl _) hkp (by simp [e]) fun hl g hg=>⟨?_,fun q=>q⟩
      refine hoth g ((r.blk j c hj).num hl hg).2.1 fun b0 hb0 hl0 hg0=>e (r.sep j id c b0 g hj hb0 hl hl0 hg hg0)
  · intro i j bi bj g hi hj li lj gi gj
    by_cases ei:i = id
    · subst ei
      by_cases ej:j = i
      · exact ej.symm
      · rw [CM _ _ ej] at hj
        rw [vH] at hi
        obtain rfl:=õ hi
        simp only [Á] at gi
        rw [Ã ej] at gj
        exfalso
        rcases hnew g gi li with q | ⟨b0,q1,q2,q3⟩
        · have:=((r.blk j bj hj).num lj gj).2.1; omega
        · exact ej (r.sep j i bj b0 g hj q1 lj q2 gj q3)
    · rw [CM _ _ ei] at hi
      rw [Ã ei] at gi
      by_cases ej:j = id
      · subst ej
        rw [vH] at hj
        obtain rfl:=õ hj
        simp only [Á] at gj
        exfalso
        rcases hnew g gj lj with q | ⟨b0,q1,q2,q3⟩
        · have:=((r.blk i bi hi).num li gi).2.1; omega
        · exact ei (r.sep i j bi b0 g hi q1 li q2 gi q3)
      · rw [CM _ _ ej] at hj
        rw [Ã ej] at gj
        exact r.sep i j bi bj g hi hj li lj gi gj
theorem aId (hle:h.le (hw w)) (o:Obj):h.le (hw (w.alloc o)):=fun b x e=>by
  have:=hle b x e
  have hlt:b < w.heap.size:=(Ï.1 this).1
  exact (heap_alloc_old w o b hlt).trans this
theorem XG (hle:h.le (hw w)) {g:Nat} (hg:w.heap.size <= g):h g = none:=by
  cases e:h g with
  | none=>rfl
  | some o=>exact absurd (Ï.1 (hle g o e)).1 (by omega)
theorem aGq {base e size n:Nat} {v:Value} {xs:List Value} (h:w.ownsRow base e size v n xs):v.oneCell' = true:=by
  rcases h.2 with ⟨rfl,_⟩ | ⟨g,cap,cur,rfl,_⟩ <;> rfl
theorem Rl.newBox (r:Rl nt w0 h0 fr bl a w h hd) (dst:Option Nat) (hdst:UQ nt w0 dst) (site:Nat) (hs:bl site = none) (arr:Array Value) (e:TypeId) (cs:List V)
    (hl:arr.size = cs.length) (hr:∀ j x,cs[j]? = some x->R1 h hd bl (arr.getD j undef) x ∧ (arr.getD j undef).oneCell' = true) :
    ∃ hd',Rl nt w0 h0 (jP fr dst (.ptr site 0)) (cC bl [(site,some (.box cs))]) (a.put dst (.pointer (some ⟨w.heap.size,0,none⟩))) (w.alloc (.cells arr e)) h hd':=by
  have hbase:w0.heap.size <= w.heap.size:=r.below.size
  have hkp:Kp hd (fun i=>if i = site then .pointer (some ⟨w.heap.size,0,none⟩) else hd i) bl (cC bl [(site,some (.box cs))]):=by
    intro j c hj
    have e:j ≠ site:=fun e=>by rw [e,hs] at hj; cases hj
    refine ⟨c,by rw [CM _ _ e]; exact hj,?_⟩
    have:=DD.refl hd j c
    cases c <;> simp only [DD] at this ⊢ <;> simp [e]
  refine ⟨_,r.turn dst _ _ hdst site (.box cs) (.pointer (some ⟨w.heap.size,0,none⟩)) (GE.alloc hbase _) (aId r.hle _)
    (fun b0 hb0=>by rw [hs] at hb0; cases hb0) (fun g hg _=>heap_alloc_old w _ g hg) ?_ (fun g hg _=>.inl (by simp [jH] at hg; omega)) ?_⟩
  · exact ⟨w.heap.size,arr,e,by simp,.inl hbase,Ř w _,hl,fun j x hx=>⟨(hr j x hx).1.keep (Hp.le.refl _) hkp,(hr j x hx).2⟩,XG r.hle (É _)⟩
  · exact ⟨⟨_,vH _ _ _,rfl⟩,w.heap.size,by simp,rfl⟩
theorem Rl.newRows' (r:Rl nt w0 h0 fr bl a w h hd) (dst:Option Nat) (hdst:UQ nt w0 dst) (site:Nat) (hs:bl site = none) (e size:Nat) (rows:List (List D)) (hv:Value) (xs:List Value)
    (hsz:0 < size) (hlen:rows.length <= maxLen) (hg:w.grownBy w' none) (hown:w'.ownsRow w.heap.size e size hv rows.length xs) (hin:lC h size rows xs) :
    ∃ hd' : Nat->Value,hd' site = hv ∧ Rl nt w0 h0 (jP fr dst (.own site 0)) (cC bl [(site,some (.rows 0 e size rows))]) (a.put dst hv) w' h hd':=by
  have hbase:w0.heap.size <= w.heap.size:=r.below.size
  have hown':=G3 hown
  have hbel:GE w0 w w':=GE.grown hg hbase (fun k hk=>by cases hk)
  have hle:h.le (hw w'):=fun b o hb=>by
    have:=r.hle b o hb
    exact (hg.block b (Ï.1 this).1 (by simp)).trans this
  refine ⟨_,by simp,r.turn dst _ _ hdst site (.rows 0 e size rows) hv hbel hle
    (fun b0 hb0=>by rw [hs] at hb0; cases hb0) (fun g hg' _=>hg.block g hg' (by simp)) ?_ (fun g hg' _=>.inl (hown.lt g ((MQ hown) ▸ hg')).1) ?_⟩
  · exact ⟨hsz,hlen,⟨xs,by simpa using hown',hin⟩,fun g hg'=>⟨XG r.hle (hown.lt g ((MQ hown) ▸ (by simpa using hg'))).1,.inl (ñ hbase (hown.lt g ((MQ hown) ▸ (by simpa using hg'))).1)⟩⟩
  · exact ⟨_,0,vH _ _ _,rfl,É _,aGq hown,fun _=>by simp⟩
theorem Rl.newRows (r:Rl nt w0 h0 fr bl a w h hd) (dst:Option Nat) (hdst:UQ nt w0 dst) (site:Nat) (hs:bl site = none) (e size:Nat) (rows:List (List D)) (hv:Value) (xs:List Value)
    (hsz:0 < size) (hlen:rows.length <= maxLen) (hg:w.grownBy w' none) (hown:w'.ownsRow w.heap.size e size hv rows.length xs) (hin:lC h size rows xs) :
    ∃ hd',Rl nt w0 h0 (jP fr dst (.own site 0)) (cC bl [(site,some (.rows 0 e size rows))]) (a.put dst hv) w' h hd' :=
  let ⟨hd',_,q⟩:=r.newRows' dst hdst site hs e size rows hv xs hsz hlen hg hown hin
  ⟨hd',q⟩
theorem Rl.grow (r:Rl nt w0 h0 fr bl a w h hd) (dst:Option Nat) (hdst:UQ nt w0 dst) (id ver e size:Nat) (rows rows' : List (List D)) (hb:bl id = some (.rows ver e size rows)) (hv:Value) (xs:List Value)
    (hlen:rows'.length <= maxLen) (hg:w.grownBy w' (hd id).ownBlock) (hown:lZ w' e size hv rows'.length xs) (hin:lC h size rows' xs)
    (hnew:∀ g,jH hv = some g->w.heap.size <= g ∨ jH (hd id) = some g) :
    ∃ hd',Rl nt w0 h0 (jP fr dst (.own id (ver + 1))) (cC bl [(id,some (.rows (ver + 1) e size rows'))]) (a.put dst hv) w' h hd':=by
  have hbase:w0.heap.size <= w.heap.size:=r.below.size
  obtain ⟨q1,q2,⟨xs0,q3,q4⟩,q5⟩:=r.blk id _ hb
  have hnum:jH (hd id) = (hd id).ownBlock:=q3.num
  have hbel:GE w0 w w':=GE.grown hg hbase (fun k hk=>(q5 k (hnum.trans hk)).2)
  have hle:h.le (hw w'):=fun b o hb'=>by
    have:=r.hle b o hb'
    refine (hg.block b (Ï.1 this).1 fun e'=>?_).trans this
    rw [(q5 b (hnum.trans e'.symm)).1] at hb'
    cases hb'
  refine ⟨_,r.turn dst _ _ hdst id (.rows (ver + 1) e size rows') hv hbel hle
    (fun b0 hb0=>by rw [hb] at hb0; cases hb0; exact .inr (Ġ _)) (fun g hg' hne=>hg.block g hg' (fun e'=>hne _ hb rfl (hnum.trans e'.symm))) ?_
    (fun g hg' _=>(hnew g hg').imp (fun q=>q) fun q=>⟨_,hb,rfl,q⟩) ?_⟩
  · refine ⟨q1,hlen,⟨xs,by simpa using hown,hin⟩,fun g hg'=>?_⟩
    simp only [Á] at hg'
    rcases hnew g hg' with q | q
    · exact ⟨XG r.hle q,.inl (ñ hbase q)⟩
    · exact q5 g q
  · exact ⟨_,ver + 1,vH _ _ _,rfl,É _,hown.one,fun _=>by simp⟩
theorem Rl.setBox (r:Rl nt w0 h0 fr bl a w h hd) (dst:Option Nat) (hdst:UQ nt w0 dst) (cv:Value) (id:Nat) (cs cs' : List V) (hb:bl id = some (.box cs)) (g:Nat) (arr arr' : Array Value) (e:TypeId)
    (hd0:hd id = .pointer (some ⟨g,0,none⟩)) (hl:arr'.size = cs'.length) (hr:∀ j x,cs'[j]? = some x->R1 h hd bl (arr'.getD j undef) x ∧ (arr'.getD j undef).oneCell' = true)
    (hg' : w'.heap[g]? = some (.cells arr' e (0,0))) (hg:w.grownBy w' (some g)) :
    ∃ hd',Rl nt w0 h0 (jP fr dst .any) (cC bl [(id,some (.box cs'))]) (a.put dst cv) w' h hd':=by
  have hbase:w0.heap.size <= w.heap.size:=r.below.size
  have hnum:jH (hd id) = some g:=by rw [hd0]; rfl
  obtain ⟨n1,n2,n3⟩:=(r.blk id _ hb).num rfl hnum
  have hbel:GE w0 w w':=GE.grown hg hbase (fun k hk=>by cases hk; exact n1)
  have hle:h.le (hw w'):=fun b o hb'=>by
    have:=r.hle b o hb'
    refine (hg.block b (Ï.1 this).1 fun e'=>?_).trans this
    cases e'
    rw [n3] at hb'
    cases hb'
  have hfe:(fun i=>if i = id then hd id else hd i) = hd:=by funext i; by_cases e:i = id <;> simp [e]
  have hkp:Kp hd hd bl (cC bl [(id,some (.box cs'))]):=by
    intro j c hj
    by_cases e:j = id
    · subst e; rw [hb] at hj; cases hj; exact ⟨_,vH _ _ _,rfl⟩
    · exact ⟨c,by rw [CM _ _ e]; exact hj,DD.refl hd j c⟩
  have:=r.turn (w':=w') dst cv .any hdst id (.box cs') (hd id) hbel hle
    (fun b0 hb0=>by rw [hb] at hb0; cases hb0; simp [DD]) (fun k hk hne=>hg.block k hk (fun e'=>by cases e'; exact hne _ hb rfl hnum)) ?_
    (fun k hk _=>.inr ⟨_,hb,rfl,hk⟩) trivial
  · rw [hfe] at this; exact ⟨_,this⟩
  · rw [hfe]
    exact ⟨g,arr',e,hd0,n1,hg',hl,fun j x hx=>⟨(hr j x hx).1.keep (Hp.le.refl _) hkp,(hr j x hx).2⟩,n3⟩
theorem Rl.setRows (r:Rl nt w0 h0 fr bl a w h hd) (dst:Option Nat) (hdst:UQ nt w0 dst) (cv:Value) (id ver e size:Nat) (rows rows' : List (List D)) (hb:bl id = some (.rows ver e size rows)) (xs:List Value)
    (hlen:rows'.length = rows.length) (hg:w.grownBy w' (hd id).ownBlock) (hown:lZ w' e size (hd id) rows'.length xs) (hin:lC h size rows' xs) :
    Rl nt w0 h0 (jP fr dst .any) (cC bl [(id,some (.rows ver e size rows'))]) (a.put dst cv) w' h hd:=by
  have hbase:w0.heap.size <= w.heap.size:=r.below.size
  obtain ⟨q1,q2,⟨xs0,q3,q4⟩,q5⟩:=r.blk id _ hb
  have hnum:jH (hd id) = (hd id).ownBlock:=q3.num
  have hbel:GE w0 w w':=GE.grown hg hbase (fun k hk=>(q5 k (hnum.trans hk)).2)
  have hle:h.le (hw w'):=fun b o hb'=>by
    have:=r.hle b o hb'
    refine (hg.block b (Ï.1 this).1 fun e'=>?_).trans this
    rw [(q5 b (hnum.trans e'.symm)).1] at hb'
    cases hb'
  have hfe:(fun i=>if i = id then hd id else hd i) = hd:=by funext i; by_cases e:i = id <;> simp [e]
  have:=r.turn (w':=w') dst cv .any hdst id (.rows ver e size rows') (hd id) hbel hle
    (fun b0 hb0=>by rw [hb] at hb0; cases hb0; simp [DD]) (fun g hg' hne=>hg.block g hg' (fun e'=>hne _ hb rfl (hnum.trans e'.symm))) ?_
    (fun g hg' _=>.inr ⟨_,hb,rfl,hg'⟩) trivial
  · rw [hfe] at this; exact this
  · rw [hfe]
    exact ⟨q1,by omega,⟨xs,hown,hin⟩,q5⟩
def BS (bl:Nat->Option aL) (wr:List (Nat × Option aL)):Prop:=∀ p ∈ wr,(∃ v e s rows,bl p.1 = some (.rows v e s rows) ∧ p.2 = some (.froz v rows)) ∨
  (∃ cs ds,bl p.1 = some (.box cs) ∧ p.2 = some (.fbox ds) ∧ aM (AB bl) cs = some ds ∧ ∀ q ∈ cs.flatMap (TY bl),q ∈ wr) ∨
  ∃ ek m,bl p.1 = some (.mp ek m) ∧ p.2 = some (.fmp ek m)
theorem BS.live {bl:Nat->Option aL} {wr:List (Nat × Option aL)} (hok:BS bl wr) {p:Nat × Option aL} (hp:p ∈ wr):∃ b,bl p.1 = some b ∧ b.live = true:=by
  rcases hok p hp with ⟨v,e,s,rows,h1,_⟩ | ⟨cs,ds,h1,_⟩ | ⟨ek,m,h1,_⟩
  · exact ⟨_,h1,rfl⟩
  · exact ⟨_,h1,rfl⟩
  · exact ⟨_,h1,rfl⟩
theorem UB {h:Hp} {g off:Nat} {row:List D} (r:aW h (.pointer (some ⟨g,0,none⟩)) (.ptr row 0)):aW h (.pointer (some ⟨g,off,none⟩)) (.ptr row off):=by
  generalize hz:(0:Nat) = z at r
  cases r with
  | ptr b o off' n row cv hn hm hr ho=>exact .ptr g o off off row cv (by omega) hm hr ho
def NO (w:World) (h:Hp) (hd:Nat->Value) (wr:List (Nat × Option aL)):Hp:=fun g=>if wr.any (fun p=>jH (hd p.1) == some g) then w.heap[g]? else h g
theorem D2 (r:Rl nt w0 h0 fr bl a w h hd) (wr:List (Nat × Option aL)):h.le (NO w h hd wr):=fun b o e=>by
  unfold NO
  split
  · exact r.hle b o e
  · exact e
theorem RQ (r:Rl nt w0 h0 fr bl a w h hd) (wr:List (Nat × Option aL)):(NO w h hd wr).le (hw w):=fun b o e=>by
  unfold NO at e
  split at e
  · exact e
  · exact r.hle b o e
theorem ZS (r:Rl nt w0 h0 fr bl a w h hd) (wr:List (Nat × Option aL)) (hok:BS bl wr):∀ b,¬ w0.own b->NO w h hd wr b = h b:=fun b hb=>by
  unfold NO
  split
  · rename_i q
    obtain ⟨p,hp,he⟩:=Ĭ.1 q
    obtain ⟨b,h1,h2⟩:=hok.live hp
    exact absurd ((r.blk p.1 _ h1).num h2 (by simpa using he)).1 hb
  · rfl
theorem aHU {e size n:Nat} {v:Value} {xs:List Value} {rows:List (List D)} (hown:lZ w e size v n xs) (hin:lC h size rows xs) (hn:rows.length = n) (hsz:0 < size)
    (l:h.le h') (hb:∀ g,jH v = some g->h' g = w.heap[g]?):aW h' v (.sl rows):=by
  rcases hown.2 with ⟨rfl,h0⟩ | ⟨g,o,cap,cur,rfl,hh,hc,hm,hs,ht⟩
  · obtain rfl:rows = []:=Ñ (by omega)
    exact .sl0 none 0 (fun _=>rfl)
  · have key:∀ i row j x,rows[i]? = some row->row[j]? = some x->∃ u,cur[o * size + i * size + j]? = some u ∧ aW h u x ∧ x.atom = true:=by
      intro i row j x h1 h2
      obtain ⟨q1,q2⟩:=hin i row h1
      obtain ⟨q3,u,q4,q5⟩:=q2 j x h2
      refine ⟨u,?_,q5,q3⟩
      rw [← ht,Ö] at q4
      split at q4
      · rw [â,← ğ] at q4
        simpa using q4
      · cases q4
    refine .sl g (o * size) cap size n rows (fun i j=>cur.getD (o * size + i * size + j) undef) hn.symm (by omega) (fun i row h1=>(hin i row h1).1) ?_ ?_ ?_
    · intro i row j x h1 h2
      obtain ⟨u,q1,q2,q3⟩:=key i row j x h1 h2
      have:h' g = w.heap[g]?:=hb g rfl
      simp only [Hp.cell,this,hh,q1]
      simp [q1]
    · intro i row j x h1 h2
      obtain ⟨u,q1,q2,q3⟩:=key i row j x h1 h2
      have:cur.getD (o * size + i * size + j) undef = u:=by simp [q1]
      rw [this]; exact q2.mono l
    · intro i row j x h1 h2
      obtain ⟨u,q1,q2,q3⟩:=key i row j x h1 h2
      have:cur.getD (o * size + i * size + j) undef = u:=by simp [q1]
      rw [this]; exact q2.one q3
theorem aDH (r:Rl nt w0 h0 fr bl a w h hd) (wr:List (Nat × Option aL)) {p:Nat × Option aL} (hp:p ∈ wr) {v e s:Nat} {rows:List (List D)} (hb:bl p.1 = some (.rows v e s rows)):aW (NO w h hd wr) (hd p.1) (.sl rows):=by
  obtain ⟨q1,q2,⟨xs,q3,q4⟩,q5⟩:=r.blk p.1 _ hb
  refine aHU q3 q4 rfl q1 (D2 r wr) fun g hg=>?_
  unfold NO
  rw [Á (Ĭ.2 ⟨p,hp,by simp [hg]⟩)]
theorem aJy (r:Rl nt w0 h0 fr bl a w h hd) (wr:List (Nat × Option aL)) {p:Nat × Option aL} (hp:p ∈ wr) {ek:Nat} {m:List (Int × ML)} (hb:bl p.1 = some (.mp ek m)):aW (NO w h hd wr) (hd p.1) (.mp ek m):=by
  obtain ⟨g,q1,q2,q3,q4⟩:=r.blk p.1 _ hb
  rw [q1]
  refine .mp g ek m ?_
  unfold NO
  rw [Á (Ĭ.2 ⟨p,hp,by simp [q1,jH]⟩)]
  exact q3
theorem E8 {α:Type}:∀ (l:List (Nat × α)) (d:α) (t:Nat),lk l d t = d ∨ ∃ p ∈ l,p.1 = t ∧ p.2 = lk l d t
  | [],d,t=>.inl rfl
  | (k,v) :: r,d,t=>by
    unfold lk
    by_cases e:t = k
    · rw [Á e]; exact .inr ⟨(k,v),by simp,e.symm,rfl⟩
    · rw [Ã e]
      rcases E8 r d t with q | ⟨p,q1,q2⟩
      · exact .inl q
      · exact .inr ⟨p,by simp [q1],q2⟩
theorem aEU {α:Type}:∀ (l:List (Nat × α)) (d:α) (t:Nat),(∃ p ∈ l,p.1 = t)->∃ p ∈ l,p.1 = t ∧ p.2 = lk l d t
  | [],d,t,⟨p,hp,_⟩=>by cases hp
  | (k,v) :: r,d,t,h=>by
    unfold lk
    by_cases e:t = k
    · rw [Á e]; exact ⟨(k,v),by simp,e.symm,rfl⟩
    · rw [Ã e]
      obtain ⟨p,hp,hpe⟩:=h
      obtain ⟨p',q1,q2⟩:=aEU r d t ⟨p,by rcases Ô.1 hp with rfl | q; exact absurd hpe.symm e; exact q,hpe⟩
      exact ⟨p',by simp [q1],q2⟩
theorem M2 (r:Rl nt w0 h0 fr bl a w h hd) (wr:List (Nat × Option aL)) {v:Value} {x:V} {d:D} (hx:R1 h hd bl v x) (e:AB bl x = some d) (hw:∀ p ∈ TY bl x,p ∈ wr) :
    aW (NO w h hd wr) v d ∧ d.atom = true:=by
  cases x with
  | d y=>simp only [AB,Å] at e; subst e; exact ⟨hx.2.mono (D2 r wr),hx.1⟩
  | nil=>simp only [AB,Å] at e; subst e; rw [show v = _ from hx]; exact ⟨.sl0 none 0 (fun _=>rfl),rfl⟩
  | own id ver =>
    obtain ⟨b,c,hb,hc,hle,h1,he⟩:=hx
    simp only [AB,hb] at e
    cases b with
    | rows v' e' s rows =>
      simp only [aL.ver?,Å] at hc
      simp only at e
      split at e
      · rename_i hv
        cases e
        rw [he (by omega)]
        exact ⟨aDH r wr (p:=(id,some (.froz v' rows))) (hw _ (by simp [TY,hb])) hb,rfl⟩
      · cases e
    | froz v' rows =>
      simp only [aL.ver?,Å] at hc
      simp only at e
      split at e
      · rename_i hv
        cases e
        rw [he (by omega)]
        exact ⟨aW.mono (D2 r wr) (r.blk id _ hb),rfl⟩
      · cases e
    | _=>cases e
  | ptr id off =>
    obtain ⟨⟨b,hb,hbx⟩,g,hg,rfl⟩:=hx
    simp only [AB,hb] at e
    cases b with
    | fbox cs =>
      simp only [Å] at e
      subst e
      have:=r.blk id _ hb
      simp only [BR,hg] at this
      exact ⟨aW.mono (D2 r wr) (UB this),rfl⟩
    | _=>cases e
  | fn f caps =>
    obtain ⟨arr,rfl,hs,hr⟩:=hx
    simp only [AB] at e
    split at e
    case isFalse=>cases e
    rename_i he
    have hcn:caps = []:=by simpa using he
    subst hcn
    have hae:arr = #[]:=by simpa using hs
    subst hae
    cases e
    exact ⟨.fn f #[] [] rfl (fun j x e=>by simp at e),rfl⟩
  | mp id =>
    obtain ⟨⟨b,hb,hbx⟩,rfl,g,hg⟩:=hx
    simp only [AB,hb] at e
    cases b with
    | mp ek m =>
      simp only [Å] at e
      subst e
      exact ⟨aJy r wr (p:=(id,some (.fmp ek m))) (hw _ (by simp [TY,hb])) hb,rfl⟩
    | fmp ek m =>
      simp only [Å] at e
      subst e
      exact ⟨aW.mono (D2 r wr) (r.blk id _ hb),rfl⟩
    | _=>cases e
  | _=>cases e
theorem aK4 (r:Rl nt w0 h0 fr bl a w h hd) (wr:List (Nat × Option aL)) {p:Nat × Option aL} (hp:p ∈ wr) {cs:List V} {ds:List D} (hb:bl p.1 = some (.box cs)) (hm:aM (AB bl) cs = some ds) (hq:∀ q ∈ cs.flatMap (TY bl),q ∈ wr):aW (NO w h hd wr) (hd p.1) (.ptr ds 0):=by
  obtain ⟨g,arr,e,h1,h2,h3,h4,h5,h6⟩:=r.blk p.1 _ hb
  obtain ⟨m1,m2⟩:=bN hm
  have hg:NO w h hd wr g = some (.cells arr e (0,0)):=by
    unfold NO
    rw [Á (Ĭ.2 ⟨p,hp,by simp [h1,jH]⟩)]
    exact h3
  have key:∀ (j:Nat) (x:D),ds[j]? = some x->j < arr.size ∧ aW (NO w h hd wr) (arr.getD j undef) x ∧ (arr.getD j undef).oneCell' = true:=by
    intro j x hx
    obtain ⟨y,hy,hyx⟩:=cV hm hx
    have hj:j < arr.size:=by rw [h4]; exact (Æ.1 hy).1
    exact ⟨hj,(M2 r wr (h5 j y hy).1 hyx fun q hq'=>hq q (Ð.2 ⟨y,Î hy,hq'⟩)).1,(h5 j y hy).2⟩
  rw [h1]
  refine .ptr g 0 0 0 ds (fun j=>arr.getD j undef) rfl ?_ (fun j x hx=>(key j x hx).2.1) (fun j x hx=>(key j x hx).2.2)
  intro j x hx
  have hj:=(key j x hx).1
  simp [Hp.cell,hg,hj]
theorem Rl.freeze (r:Rl nt w0 h0 fr bl a w h hd) (wr:List (Nat × Option aL)) (hok:BS bl wr):Rl nt w0 h0 fr (cC bl wr) a w (NO w h hd wr) hd:=by
  have hcase:∀ id b',cC bl wr id = some b'->(bl id = some b' ∧ (∀ p ∈ wr,p.1 ≠ id)) ∨ (b'.live = false ∧ ∃ p ∈ wr,p.1 = id ∧ p.2 = some b'):=by
    intro id b' hb
    unfold cC at hb
    by_cases hm:∃ p ∈ wr,p.1 = id
    · obtain ⟨p,q1,q2,q3⟩:=aEU wr (bl id) id hm
      rw [hb] at q3
      refine .inr ⟨?_,p,q1,q2,q3⟩
      rcases hok p q1 with ⟨v,e,s,rows,q4,q5⟩ | ⟨cs,ds,q4,q5,_⟩ | ⟨ek,m,q4,q5⟩
      · rw [q3] at q5; cases q5; rfl
      · rw [q3] at q5; cases q5; rfl
      · rw [q3] at q5; cases q5; rfl
    · rcases E8 wr (bl id) id with q | ⟨p,q1,q2,q3⟩
      · exact .inl ⟨q ▸ hb,fun p hp e=>hm ⟨p,hp,e⟩⟩
      · exact absurd ⟨p,q1,q2⟩ hm
  have hkp:Kp hd hd bl (cC bl wr):=by
    intro id b hb
    by_cases hm:∃ p ∈ wr,p.1 = id
    · obtain ⟨p,q1,q2,q3⟩:=aEU wr (bl id) id hm
      rcases hok p q1 with ⟨v,e,s,rows,q4,q5⟩ | ⟨cs,ds,q4,q5,_⟩ | ⟨ek,m,q4,q5⟩
      · rw [q2,hb] at q4
        cases q4
        exact ⟨.froz v rows,by unfold cC; rw [← q3,q5],by simp [DD]⟩
      · rw [q2,hb] at q4
        cases q4
        exact ⟨.fbox ds,by unfold cC; rw [← q3,q5],by simp [DD]⟩
      · rw [q2,hb] at q4
        cases q4
        exact ⟨.fmp ek m,by unfold cC; rw [← q3,q5],by simp [DD]⟩
    · refine ⟨b,?_,DD.refl hd id b⟩
      unfold cC
      rcases E8 wr (bl id) id with q | ⟨p,q1,q2,q3⟩
      · rw [q]; exact hb
      · exact absurd ⟨p,q1,q2⟩ hm
  refine { tmps:=r.tmps,defers:=r.defers,fixed:=r.fixed,below:=r.below,hle:=RQ r wr,h0le:=r.h0le.trans (D2 r wr),hbase:=fun b hb=>(ZS r wr hok b hb).trans (r.hbase b hb),
           frame:=fun t=>(r.frame t).keep (D2 r wr) hkp,blk:=?_,sep:=?_ }
  · intro id b' hb'
    rcases hcase id b' hb' with ⟨hb,hn⟩ | ⟨hl,p,hp,rfl,hpe⟩
    · refine (r.blk id b' hb).keep (D2 r wr) hkp rfl fun hl g hg=>⟨rfl,fun hn'=>?_⟩
      unfold NO
      rw [Ã]
      · exact hn'
      · intro q
        obtain ⟨p,hp,he⟩:=Ĭ.1 q
        obtain ⟨b,h1,h2⟩:=hok.live hp
        exact hn p hp (r.sep p.1 id _ b' g h1 hb h2 hl (by simpa using he) hg)
    · rcases hok p hp with ⟨v,e,s,rows,q4,q5⟩ | ⟨cs,ds,q4,q5,q6,q7⟩ | ⟨ek,m,q4,q5⟩
      · rw [hpe] at q5
        cases q5
        exact aDH r wr hp q4
      · rw [hpe] at q5
        cases q5
        exact aK4 r wr hp q4 q6 q7
      · rw [hpe] at q5
        cases q5
        exact aJy r wr hp q4
  · intro i j bi bj g hi hj li lj gi gj
    rcases hcase i bi hi with ⟨hi',_⟩ | ⟨q,_⟩
    · rcases hcase j bj hj with ⟨hj',_⟩ | ⟨q,_⟩
      · exact r.sep i j bi bj g hi' hj' li lj gi gj
      · rw [q] at lj; cases lj
    · rw [q] at li; cases li
end
end Vm
end
section
namespace Vm
open Go.RowKit
def FJ:Value->Option V
  | .int k n=>some (.d (.int k n))
  | .bool b=>some (.d (.bool b))
  | .string s=>if s.size <= maxLen then some (.d (.str s)) else none
  | .slice none 0 0=>some .nil
  | .pointer none=>some (.d .np)
  | .map none=>some (.d (.mp 2 []))
  | v=>if v.oneCell' then some .any else none
def aOp:Value->Option V
  | .agg arr=>(aM FJ arr.toList).map .agg
  | .tuple _=>none
  | v=>FJ v
def qM:Operand->Option d7
  | .tmp t=>some (.t t)
  | .const v=>(aOp v).map .c
  | .func f=>some (.c (.d (.fn f [])))
  | .global _=>none
def aLI:Option Operand->Option (Option d7)
  | none=>some none
  | some x=>(qM x).map some
def dOf:V->Option D
  | .d x=>if x.atom then some x else none
  | .nil=>some (.sl [])
  | _=>none
def u4 (P:Program) (t:TypeId):Option Bool:=match P.underlying t with
  | some (.struct _) | some (.array _ _)=>some true
  | some _=>some false
  | none=>none
def NG (P:Program):Nat->TypeId->Option (List Nat)
  | 0,_=>none
  | d + 1,t=>match P.underlying t with
    | some (.int _)=>some [0]
    | some .bool=>some [1]
    | some .string=>some [2]
    | some (.struct fs)=>if P.stoodInHeld t then none else fs.toList.foldl (fun (acc:Option (List Nat)) f=>match acc with
        | none=>none
        | some ks=>if f.offset = ks.length ∧ f.name ≠ "_" then match NG P d f.type,P.info? f.type with
            | some l,some i=>if i.size = l.length then some (ks ++ l) else none
            | _,_=>none
          else none) (some [])
    | _=>none
def ZL (P:Program) (op:BinOp) (t:TypeId) (x y:Operand):Option pF:=match qM x,qM y with
    | some x',some y'=>match op with
      | .shl=>match P.underlying t with
        | some (.int _)=>some (.bin 0 .shl x' y')
        | _=>none
      | .shr=>match P.underlying t with
        | some (.int _)=>some (.bin 0 .shr x' y')
        | _=>none
      | op=>match P.underlying t with
        | some (.int _) | some .string=>some (.bin 0 op x' y')
        | some .bool=>some (.bin 1 op x' y')
        | some (.struct _)=>match op,NG P 20 t with
          | .eql,some ks=>if P.eqGuardType P.depth t = false then some (.eqS ks false x' y') else none
          | .neq,some ks=>if P.eqGuardType P.depth t = false then some (.eqS ks true x' y') else none
          | _,_=>none
        | _=>none
    | _,_=>none
def P7 (P:Program) (o:Oper):Option pF :=
  match o.op with
  | .move x=>(qM x).map .move
  | .assign x=>(qM x).map .move
  | .pick c a b=>match qM c,qM a,qM b with
    | some c,some a,some b=>some (.pick c a b)
    | _,_,_=>none
  | .alloc e=>match P.info? e with
    | some i=>match i.zero with
      | some z=>(aM FJ z.cells.toList).map .alloc
      | none=>none
    | none=>none
  | .box e x=>(qM x).map .box
  | .build t parts=>match P.info? t,P.underlying t with
    | some i,some (.struct fs)=>match i.zero with
      | some z=>match aM FJ z.cells.toList,aM (fun (p:Nat × Operand)=>match fs[p.1]?,qM p.2 with
          | some f,some x=>(P.info? f.type).map fun j=>(f.offset,j.size,x)
          | _,_=>none) parts.toList with
        | some zs,some ps=>if fs.toList.all (fun f=>(P.info? f.type).isSome) then some (.build zs ps) else none
        | _,_=>none
      | none=>none
    | some i,some (.array _ e)=>match i.zero,P.info? e with
      | some z,some ei=>match aM FJ z.cells.toList,aM (fun (p:Nat × Operand)=>(qM p.2).map fun x=>(p.1 * ei.size,ei.size,x)) parts.toList with
        | some zs,some ps=>some (.build zs ps)
        | _,_=>none
      | _,_=>none
    | _,_=>none
  | .buildSlice t len parts=>match P.underlying t with
    | some (.slice e)=>match P.info? e with
      | some i=>match i.zero with
        | some z=>match aM FJ z.cells.toList with
          | some zs=>match aM dOf zs,aM (fun (p:Nat × Operand)=>(qM p.2).map fun x=>(p.1,x)) parts.toList with
            | some row,some ps=>if len * i.size <= 16777216 ∧ z.cells.size = i.size ∧ 0 < i.size then some (.buildSlice e i.size row len ps) else none
            | _,_=>none
          | none=>none
        | none=>none
      | none=>none
    | _=>none
  | .load t x=>match u4 P t,P.info? t,qM x with
    | some b,some i,some x=>some (.load i.size b x)
    | _,_,_=>none
  | .store t x v=>match P.info? t,qM x,qM v with
    | some i,some x,some v=>some (.store i.size x v)
    | _,_,_=>none
  | .nilCheck x=>(qM x).map .nilCheck
  | .binOp op t x y _=>ZL P op t x y
  | .unOp op _ x=>(qM x).map (.un op)
  | .slice t x lo hi mx=>match mx with
    | some _=>none
    | none=>match P.underlying t,qM x,aLI lo,aLI hi with
      | some (.slice e),some x,some lo,some hi=>(P.info? e).map fun i=>.slice i.size x lo hi
      | _,_,_,_=>none
  | .fieldAddr s x f=>match P.underlying s,qM x with
    | some (.struct fs),some x=>match fs[f]? with
      | some f=>match P.info? f.type with
        | some i=>if i.size = 0 then none else some (.fieldAddr f.offset x)
        | none=>none
      | none=>none
    | _,_=>none
  | .indexAddr t x i=>match P.underlying t,qM x,qM i with
    | some (.slice e),some x,some i=>(P.info? e).map fun j=>.indexAddr j.size x i
    | some (.array n e),some x,some (.c (.d (.int _ q)))=>match P.info? e with
      | some j=>if 0 <= q ∧ q < n ∧ j.size ≠ 0 then some (.fieldAddr (q.toNat * j.size) x) else none
      | none=>none
    | _,_,_=>none
  | .extract x i=>(qM x).map fun x=>.extract x i
  | .makeSlice t l c=>match P.underlying t,qM l,qM c with
    | some (.slice e),some l,some c=>match P.info? e with
      | some i=>match i.zero with
        | some z=>match aM FJ z.cells.toList with
          | some zs=>match aM dOf zs with
            | some row=>if z.cells.size = i.size ∧ 0 < i.size then some (.makeSlice e i.size i.bytes row l c) else none
            | none=>none
          | none=>none
        | none=>none
      | none=>none
    | _,_,_=>none
  | .makeFunc fn first captured=>match fn with
    | .func f=>if first.isEmpty = true then (aM qM captured.toList).map fun caps=>.mkfn f caps else none
    | _=>none
  | .call c=>match c.callee with
    | .value (.func f)=>match P.funcs[f]?,aM qM c.args.toList with
      | some fn,some args=>if fn.name ≠ "runtime.NumGoroutine" ∧ fn.body.isSome then some (.call f args) else none
      | _,_=>none
    | .value x=>match qM x,aM qM c.args.toList with
      | some x,some args=>some (.callv x args)
      | _,_=>none
    | .builtin .len=>match c.args.toList,c.argTypes.toList with
      | [x],[t]=>match P.underlying t,qM x with
        | some (.slice _),some x=>some (.len x)
        | _,_=>none
      | _,_=>none
    | .builtin .append=>match c.args.toList,c.argTypes.toList with
      | [x,y],[t,u]=>if t = u then match P.underlying t,qM x,qM y with
          | some (.slice e),some x,some y=>match P.info? e with
            | some i=>match i.zero with
              | some z=>if z.cells.size = i.size ∧ 0 < i.size ∧ 0 < i.bytes then some (.append e i.size i.bytes x y) else none
              | none=>none
            | none=>none
          | _,_,_=>none
        else none
      | _,_=>none
    | .builtin .min=>(aM qM c.args.toList).map .min
    | _=>none
  | _=>none
def GN (P:Program) (o:Oper):pF:=(P7 P o).getD .fail
def aQo (nt:Nat):Option Nat->Bool
  | some d=>decide (d < nt)
  | none=>true
def sN (P:Program) (nt:Nat) (ops:Array Oper) (o:Oper):Option aS :=
  if aQo nt o.dst = true then match o.guard with
    | none=>some ⟨o.dst,GN P o,none,o.dst.getD 0⟩
    | some (j,b)=>match (ops[j]?).bind (·.dst) with
      | some t=>some ⟨o.dst,GN P o,some (t,b),o.dst.getD 0⟩
      | none=>none
    else none
def aCZ (ops:List Oper):List Nat:=ops.foldl (fun acc o =>
  acc ++ [(o.after.toList.filter (Region.binds .any)).foldl (fun s e=>s ||| 2 ^ e.on ||| acc.getD e.on 0) 0]) []
def Y3 (ops:List Oper):List (Nat × Nat) :=
  let an:=aCZ ops
  (List.range ops.length).flatMap fun j=>((List.range j).filter fun i=>!((an.getD j 0).testBit i)).map fun i=>(i,j)
def TI (ops:List Oper):Bool:=ops.zipIdx.all fun (o,i)=>o.after.all fun e=>!(Region.binds .any e) || e.on < i
def sM (P:Program) (nt:Nat):Code->Option aH
  | .skip=>some .skip
  | .region _ ops draw=>match aM (sN P nt ops) ops.toList with
    | none=>none
    | some l=>if draw then (if TI ops.toList then some (.region l (some (Y3 ops.toList))) else none) else some (.region l none)
  | .seq a b=>match sM P nt a,sM P nt b with
    | some a,some b=>some (.seq a b)
    | _,_=>none
  | .cond c a b=>match qM c,sM P nt a,sM P nt b with
    | some c,some a,some b=>some (.cond c a b)
    | _,_,_=>none
  | .block id a=>(sM P nt a).map (.block id)
  | .loop a=>(sM P nt a).map .loop
  | .exit id=>some (.exit id)
  | .ret=>some .ret
  | _=>none
def pF.bare:pF->pF
  | .lend f args _=>.call f args
  | .calln f args=>.call f args
  | .mkfnv f caps=>.mkfn f caps
  | so=>so
def aS.bare (o:aS):aS:=⟨o.dst,o.op.bare,o.guard,o.dst.getD 0⟩
def aH.bare:aH->aH
  | .region l d=>.region (l.map aS.bare) d
  | .seq a b=>.seq a.bare b.bare
  | .cond c a b=>.cond c a.bare b.bare
  | .block id a=>.block id a.bare
  | .loop a=>.loop a.bare
  | .pre _ a=>a.bare
  | .post a _=>a.bare
  | c=>c
def YR (P:Program):ResultVar->Option qU
  | .tmp t=>some (.tmp t)
  | .cell t ty=>match u4 P ty,P.info? ty with
    | some b,some i=>some (.cell t i.size b)
    | _,_=>none
def i8 (P:Program) (fn:Func) (sf:b5):Prop :=
  fn.params.size + fn.nfree = sf.np ∧ fn.name ≠ "runtime.NumGoroutine" ∧ fn.ntmps = sf.nt ∧ sf.np <= sf.nt ∧ aM (YR P) fn.results.toList = some sf.results ∧ ∃ c,fn.body = some c ∧ sM P sf.nt c = some sf.body.bare
section
variable {h:Hp} {hd:Nat->Value} {bl:Nat->Option aL}
theorem ZN {v:Value} {x:V} (e:FJ v = some x):R1 h hd bl v x ∧ v.oneCell' = true:=by
  unfold FJ at e
  split at e
  · cases e; exact ⟨⟨rfl,.int _ _⟩,rfl⟩
  · cases e; exact ⟨⟨rfl,.bool _⟩,rfl⟩
  · split at e
    · rename_i hs; cases e; exact ⟨⟨rfl,.str _ hs⟩,rfl⟩
    · cases e
  · cases e; exact ⟨rfl,rfl⟩
  · cases e; exact ⟨⟨rfl,.np⟩,rfl⟩
  · cases e; exact ⟨⟨rfl,.mp0⟩,rfl⟩
  · split at e
    · rename_i ho; cases e; exact ⟨trivial,ho⟩
    · cases e
theorem H0 {arr:Array Value} {cs:List V} (e:aM FJ arr.toList = some cs):arr.size = cs.length ∧ ∀ j x,cs[j]? = some x->R1 h hd bl (arr.getD j undef) x ∧ (arr.getD j undef).oneCell' = true:=by
  obtain ⟨h1,h2⟩:=bN e
  refine ⟨by simpa using h1,fun j x hx=>?_⟩
  obtain ⟨v,q1,q2⟩:=cV e hx
  have:arr.getD j undef = v:=by
    have:arr[j]? = some v:=by simpa using q1
    simp [this]
  rw [this]
  exact ZN q2
theorem aPn {v:Value} {x:V} (e:aOp v = some x):R2 h hd bl v x:=by
  unfold aOp at e
  split at e
  · rename_i arr
    cases hm:aM FJ arr.toList with
    | none=>simp [hm] at e
    | some cs =>
      simp only [hm,ä,Å] at e
      subst e
      obtain ⟨h1,h2⟩:=H0 (h:=h) (hd:=hd) (bl:=bl) hm
      exact ⟨arr,rfl,h1,h2⟩
  · cases e
  · exact R2.of1 (ZN e).1
theorem eE {fr:Nat->V} {a:Act} (hf:∀ t,R3 h hd bl (a.tmps.getD t undef) (fr t)) {x:Operand} {y:d7} (e:qM x = some y):R3 h hd bl (a.eval x) (cZ fr y):=by
  cases x with
  | tmp t=>simp only [qM,Å] at e; subst e; exact hf t
  | const v =>
    simp only [qM] at e
    cases hv:aOp v with
    | none=>simp [hv] at e
    | some u=>simp only [hv,ä,Å] at e; subst e; exact R3.of2 (aPn hv)
  | func f=>simp only [qM,Å] at e; subst e; exact ⟨rfl,.fn f #[] [] rfl (fun j x e=>by simp at e)⟩
  | global g=>simp [qM] at e
end
end Vm
end
end Go.Proofs.Ytgjcnbgfaimepaa
