/- Functions of which it is told what they answer: how a contract over memory becomes the small machine's. What an append gives, and a slice that is asked whether it is nil: parts of the walk of slices.Clone. -/
import Derived.Test.YtjllkddmkdajcaaVmG
import Derived.Test.YtjllkddmkdajcaaCalP
import Derived.Test.YtjllkddmkdajcaaCalK
import Derived.Laws.AppendOwnNone
import Derived.Lib.LazyBuf
import Derived.KernelRfl
set_option linter.unusedVariables false
namespace Go.Proofs.Ytjllkddmkdajcaa
open Go.RowKit
namespace Vm
theorem Reads.of_flat {P:Program} {f:Nat} {ds:List D} {x:D} (hg:Goes P f)
  (hc:∀ (w:World) (vs:Array Value),vs.size = ds.length→(∀ (i:Nat) (d:D),ds[i]? = some d→Reads (hw w) (vs.getD i undef) d) →
   Calls P f vs w fun e w'=>(∃ v,e = .returned v ∧ ∀ h,ReadsF w.heap.size w' h v x) ∧ Below w.heap.size w w'):Sound P f ds x:=by
 refine ⟨hg,fun w h vs hle hsz hr=>(hc w vs hsz fun i d hd=>(hr i d hd).mono hle).mono ?_⟩
 rintro e w' ⟨⟨v,rfl,hv⟩,hb⟩
 refine ⟨v,h,rfl,hv h,Hp.le.refl _,fun b o hbo=>?_,fun b hb'=>rfl,hb⟩
 have h1:w.heap[b]? = some o:=hle b o hbo
 exact blk_to hb h1
theorem arr1 {vs:Array Value} {d0:D} (h:vs.size = [d0].length):∃ v0,vs = #[v0]:=by
 obtain ⟨l⟩:=vs
 match l,h with
 | [a],_=>exact ⟨a,rfl⟩
theorem arr2 {vs:Array Value} {d0 d1:D} (h:vs.size = [d0,d1].length):∃ v0 v1,vs = #[v0,v1]:=by
 obtain ⟨l⟩:=vs
 match l,h with
 | [a,b],_=>exact ⟨a,b,rfl⟩
theorem arr3 {vs:Array Value} {d0 d1 d2:D} (h:vs.size = [d0,d1,d2].length):∃ v0 v1 v2,vs = #[v0,v1,v2]:=by
 obtain ⟨l⟩:=vs
 match l,h with
 | [a,b,c],_=>exact ⟨a,b,c,rfl⟩
theorem rd2 {b:Nat} {w:World} {h:Hp} {u v:Value} {x y:D} (hu:Reads h u x) (hv:Reads h v y) (hx:x.noTup = true) (hy:y.noTup = true):ReadsF b w h (.tuple #[u,v]) (.tup [x,y]):=by
 refine Reads.tup _ _ rfl ?_ ?_
 ·intro j z hz
  match j,hz with
  | 0,hz=>cases hz; exact hu
  | 1,hz=>cases hz; exact hv
  | n + 2,hz=>simp at hz
 ·intro j z hz
  match j,hz with
  | 0,hz=>cases hz; exact hx
  | 1,hz=>cases hz; exact hy
  | n + 2,hz=>simp at hz
def dInts:List (List D)→Option (List Int)
 | []=>some []
 | [.int .i64 n] :: r=>(dInts r).map fun l=>n :: l
 | _=>none
theorem dInts_cM:∀ l:List Int,dInts (cM cI l) = some l
 | []=>rfl
 | n :: l=>by
  show dInts ([.int .i64 n] :: cM cI l) = _
  simp [dInts,dInts_cM l]
theorem dInts_at:∀ {rows:List (List D)} {l:List Int},dInts rows = some l→rows.length = l.length ∧ ∀ j,j < l.length→rows[j]? = some [.int .i64 (at0 l j)]
 | [],l,e=>by
  simp only [dInts,Option.some.injEq] at e
  subst e
  exact ⟨rfl,fun j hj=>by simp at hj⟩
 | row :: r,l,e=>by
  unfold dInts at e
  split at e
  ·rename_i h; cases h
  ·rename_i n r' h
   cases h
   obtain ⟨l',h1,rfl⟩:=Option.map_eq_some_iff.1 e
   obtain ⟨q1,q2⟩:=dInts_at h1
   refine ⟨by simp [q1],fun j hj=>?_⟩
   cases j with
   | zero=>simp [at0]
   | succ j =>
    have:=q2 j (by simpa using hj)
    simpa [at0] using this
  ·cases e
theorem ints_of {w:World} {v:Value} {rows:List (List D)} {l:List Int} (r:Reads (hw w) v (.sl rows)) (e:dInts rows = some l) (hl:l.length ≤ 140737488355328):Ints w v l:=by
 obtain ⟨h1,h2⟩:=dInts_at e
 cases r with
 | sl0 a c h0 =>
  have:l = []:=List.eq_nil_of_length_eq_zero h1.symm
  subst this
  exact Ints.nil w a c
 | sl b off c k n rows cv hn hc hk hm hr ho =>
  refine ⟨hl,.inr ⟨b,off,c,by rw [hn,h1],fun j hj=>?_⟩⟩
  have hrow:=h2 j hj
  obtain rfl:k = 1:=(hk j _ hrow).symm
  have hcell:=hm j _ 0 _ hrow rfl
  have hread:=hr j _ 0 _ hrow rfl
  rw [cell_hw]
  simp only [Nat.mul_one,Nat.add_zero] at hcell
  rw [hcell]
  generalize cv j 0 = u at hread
  cases hread
  rfl
def dTown:D→Option Town
 | .agg [.str _,.int .i64 _,.int .i64 _,.sl r,.sl f,.sl s]=>match dInts r,dInts f,dInts s with
  | some a,some b,some c=>if a.length ≤ 140737488355328 ∧ b.length ≤ 140737488355328 ∧ c.length ≤ 140737488355328 then some ⟨a,b,c⟩ else none
  | _,_,_=>none
 | _=>none
theorem agg_at {h:Hp} {v:Value} {cs:List D} (r:Reads h v (.agg cs)):∃ arr:Array Value,v = .agg arr ∧ arr.size = cs.length ∧ ∀ (j:Nat) (x:D),cs[j]? = some x→Reads h (arr.getD j undef) x:=by
 cases r with
 | agg arr cs hl hr ho=>exact ⟨arr,rfl,hl,hr⟩
theorem dTown_city {w:World} {v:Value} {d:D} {t:Town} (r:Reads (hw w) v d) (e:dTown d = some t):∃ cv,v = .agg cv ∧ CityV w (.agg cv) t:=by
 unfold dTown at e
 split at e
 ·rename_i nm o cu rr ff ss
  split at e
  ·rename_i a b c ha hb hc
   split at e
   ·rename_i hl
    cases e
    obtain ⟨arr,rfl,hsz,hr⟩:=agg_at r
    refine ⟨arr,rfl,?_⟩
    obtain ⟨l⟩:=arr
    match l,hsz with
    | [v0,v1,v2,v3,v4,v5],_ =>
     have r0:Reads (hw w) v0 (.str nm):=hr 0 _ rfl
     have r1:Reads (hw w) v1 (.int .i64 o):=hr 1 _ rfl
     have r2:Reads (hw w) v2 (.int .i64 cu):=hr 2 _ rfl
     have r3:Reads (hw w) v3 (.sl rr):=hr 3 _ rfl
     have r4:Reads (hw w) v4 (.sl ff):=hr 4 _ rfl
     have r5:Reads (hw w) v5 (.sl ss):=hr 5 _ rfl
     cases r0
     cases r1
     cases r2
     exact ⟨nm,o,cu,v3,v4,v5,rfl,ints_of r3 ha hl.1,ints_of r4 hb hl.2.1,ints_of r5 hc hl.2.2⟩
   ·cases e
  ·cases e
 ·cases e
theorem dTown_mk (nm:ByteArray) (o cu:Int) (r f s:List Int):dTown (.agg [.str nm,.int .i64 o,.int .i64 cu,.sl (cM cI r),.sl (cM cI f),.sl (cM cI s)]) = if r.length ≤ 140737488355328 ∧ f.length ≤ 140737488355328 ∧ s.length ≤ 140737488355328 then some ⟨r,f,s⟩ else none:=by
 simp only [dTown,dInts_cM]
end Vm
end Go.Proofs.Ytjllkddmkdajcaa
set_option linter.unusedVariables false
namespace Go.Proofs.Ytjllkddmkdajcaa
open Go.RowKit Vm
def Src (w:World) (x:Value) (m:Nat) (news:List Value):Prop :=
 ∃ ao c,x = .slice ao m c ∧ (ao = none→m = 0 ∧ c = 0) ∧ ∀ ad,ao = some ad→∀ j u,news[j]? = some u→w.cell? (ad.add j) = some u
theorem grownBy_same (w:World) (row:Option Nat):w.grownBy w row:=⟨rfl,rfl,rfl,Nat.le_refl _,fun _ _ _=>rfl⟩
theorem wpList_append_src {P:Program} {w:World} {ops:Array Oper} {rest:List Oper} {o:Oper} {a:Act} {Q:Exit→Act→World→Prop} (hgd:o.guard = none) (s x:Operand) (t:TypeId)
  (ho:o.op = .call { callee:=.builtin .append,args:=#[s,x],argTypes:=#[t,t] })
  (base:Nat) (e:TypeId) (i:TypeInfo) (z:Value) (size bytes:Nat) (ht:P.underlying t = some (.slice e)) (hi:P.info? e = some i) (hz:i.zero = some z)
  (hsize:i.size = size) (hby:i.bytes = bytes) (hzs:z.cells.size = size) (hsz:0 < size)
  (v:Value) (n:Nat) (xs:List Value) (hs:a.eval s = v) (hown:w.ownsRow base e size v n xs)
  (vx:Value) (m:Nat) (news:List Value) (hx:a.eval x = vx) (hsrc:Src w vx m news) (hl:news.length = m * size) (h1:∀ u ∈ news,u.oneCell' = true)
  (hbytes:(n + m) * bytes ≤ 140737488355328) (hb0:0 < bytes) (hbase:base ≤ w.heap.size)
  (h:∀ v' w',w'.ownsRow base e size v' (n + m) (xs ++ news)→w.grownBy w' v.ownBlock→wpList P ops Q rest (a.put o.dst v') w'):wpList P ops Q (o :: rest) a w:=by
 obtain ⟨ao,c,rfl,h0,hc⟩:=hsrc
 have h63:n + m ≤ maxLen:=by
  have:n + m ≤ (n + m) * bytes:=Nat.le_mul_of_pos_right _ hb0
  unfold maxLen; omega
 cases ao with
 | some ad=>exact wpList_append_own _ hgd s x t ho base e i z size bytes ht hi hz hsize hby hzs hsz v n xs hs hown ad m c news hx hl (hc ad rfl) h1 h63 hbytes hbase fun v' w' g1 g2 _=>h v' w' g1 g2
 | none =>
  obtain ⟨rfl,rfl⟩:=h0 rfl
  have hn:news = []:=List.eq_nil_of_length_eq_zero (by simpa using hl)
  subst hn
  exact wpList_append_own_none hgd s x t ho base e i size ht hi v n xs hs hown hx (h v w (by simpa using hown) (grownBy_same _ _))
theorem own_base {w:World} {base:Nat} {e:TypeId} {size:Nat} {v:Value} {n:Nat} {xs:List Value} (h:w.ownsRow base e size v n xs):∀ k,v.ownBlock = some k→base ≤ k:=by
 intro k hk
 rcases h.2 with ⟨rfl,_⟩ | ⟨g,cap,cur,rfl,hg,_⟩
 ·simp [Value.ownBlock] at hk
 ·simp [Value.ownBlock] at hk; omega
theorem own_empty (w:World) (base:Nat) (e:TypeId) (size:Nat) (hb:base ≤ w.heap.size):(w.alloc (.cells #[] e)).ownsRow base e size (.slice (some ⟨w.heap.size,0,none⟩) 0 0) 0 [] :=
 ⟨by simp,.inr ⟨w.heap.size,0,#[],rfl,hb,World.alloc_heap_new _ _,Nat.le_refl _,by simp [maxLen],by simp,by simp⟩⟩
theorem blk_cell (w:World) (o:Obj) {a:Addr} {u:Value} (h:w.cell? a = some u):(w.alloc o).cell? a = some u:=by
 have:=World.block_lt_of_cell? w a h
 exact (((Below.refl _ w).alloc (Nat.le_refl _) o).cell (p:=a) this).trans h
namespace Vm
theorem cells_of {h:Hp} {b off k:Nat} {rows:List (List D)} {cv:Nat→Nat→Value} (hk:∀ (i:Nat) (row:List D),rows[i]? = some row→row.length = k)
  (hm:∀ (i:Nat) (row:List D) (j:Nat) (x:D),rows[i]? = some row→row[j]? = some x→h.cell b (off + i * k + j) = some (cv i j))
  (hr:∀ (i:Nat) (row:List D) (j:Nat) (x:D),rows[i]? = some row→row[j]? = some x→Reads h (cv i j) x)
  (ho:∀ (i:Nat) (row:List D) (j:Nat) (x:D),rows[i]? = some row→row[j]? = some x→(cv i j).oneCell' = true) (hk0:0 < k) :
  ∃ news:List Value,news.length = rows.length * k ∧ (∀ u ∈ news,u.oneCell' = true) ∧ (∀ j u,news[j]? = some u→h.cell b (off + j) = some u) ∧
   ∀ i row,rows[i]? = some row→∀ j x,row[j]? = some x→∃ u,news[i * k + j]? = some u ∧ Reads h u x:=by
 have key:∀ q,q < rows.length * k→∃ row x,rows[q / k]? = some row ∧ row[q % k]? = some x:=by
  intro q hq
  have h1:q / k < rows.length:=(Nat.div_lt_iff_lt_mul hk0).2 hq
  have h2:=hk _ _ (List.getElem?_eq_getElem h1)
  have h3:q % k < (rows[q / k]).length:=by rw [h2]; exact Nat.mod_lt _ hk0
  exact ⟨_,_,List.getElem?_eq_getElem h1,List.getElem?_eq_getElem h3⟩
 have hdm:∀ i j,j < k→(i * k + j) / k = i ∧ (i * k + j) % k = j:=by
  intro i j hj
  constructor
  ·rw [Nat.add_comm,Nat.add_mul_div_right _ _ hk0,Nat.div_eq_of_lt hj]; simp
  ·rw [Nat.add_comm,Nat.add_mul_mod_self_right,Nat.mod_eq_of_lt hj]
 refine ⟨(List.range (rows.length * k)).map fun q=>cv (q / k) (q % k),by simp,?_,?_,?_⟩
 ·intro u hu
  obtain ⟨q,hq,rfl⟩:=List.mem_map.1 hu
  obtain ⟨row,x,q1,q2⟩:=key q (by simpa using hq)
  exact ho _ _ _ _ q1 q2
 ·intro j u hj
  rw [List.getElem?_map] at hj
  by_cases hjl:j < rows.length * k
  ·rw [List.getElem?_range hjl] at hj
   simp only [Option.map_some,Option.some.injEq] at hj
   subst hj
   obtain ⟨row,x,q1,q2⟩:=key j hjl
   have:=hm _ _ _ _ q1 q2
   rwa [show off + j / k * k + j % k = off + j by have:=Nat.div_add_mod j k; rw [Nat.mul_comm] at this; omega] at this
  ·rw [List.getElem?_eq_none (by simp; omega)] at hj
   cases hj
 ·intro i row h1 j x h2
  have hi:i < rows.length:=(List.getElem?_eq_some_iff.1 h1).1
  have hj:j < k:=by rw [← hk i row h1]; exact (List.getElem?_eq_some_iff.1 h2).1
  have hlt:i * k + j < rows.length * k:=by
   have:(i + 1) * k ≤ rows.length * k:=Nat.mul_le_mul_right _ hi
   rw [Nat.succ_mul] at this; omega
  obtain ⟨e1,e2⟩:=hdm i j hj
  refine ⟨cv i j,?_,hr i row j x h1 h2⟩
  rw [List.getElem?_map,List.getElem?_range hlt]
  simp only [Option.map_some,e1,e2]
def atoms (rows:List (List D)):Bool:=rows.all fun row=>row.all D.atom
def cloneO (size bytes:Nat):List D→Option D
 | [.sl rows]=>if sized size rows = true ∧ atoms rows = true ∧ rows.length * bytes ≤ 140737488355328 then some (.sl rows) else none
 | _=>none
theorem rowsIn_of {h:Hp} {size:Nat} {rows:List (List D)} {news:List Value} (hs:sized size rows = true) (ha:atoms rows = true)
  (hn:∀ i row,rows[i]? = some row→∀ j x,row[j]? = some x→∃ u,news[i * size + j]? = some u ∧ Reads h u x):RowsIn h size rows news:=by
 intro i row h1
 have hm:=List.mem_of_getElem? h1
 refine ⟨by simpa using List.all_eq_true.1 hs row hm,fun j x h2=>?_⟩
 exact ⟨List.all_eq_true.1 (List.all_eq_true.1 ha row hm) x (List.mem_of_getElem? h2),hn i row h1 j x h2⟩
theorem clone_data {P:Program} {f E size bytes:Nat} (hg:Goes P f) (hsz:0 < size) (hby:0 < bytes)
  (hnil:∀ w:World,Calls P f #[.slice none 0 0] w fun e w'=>e = .returned (.slice none 0 0) ∧ Below w.heap.size w w')
  (hsome:∀ (ad:Addr) (n c:Nat) (w:World) (news:List Value),news.length = n * size→(∀ u ∈ news,u.oneCell' = true)→n * bytes ≤ 140737488355328→(∀ j u,news[j]? = some u→w.cell? (ad.add j) = some u) →
   Calls P f #[.slice (some ad) n c] w fun e w'=>∃ v,e = .returned v ∧ w'.ownsRow w.heap.size E size v n news ∧ Below w.heap.size w w')
  (rows:List (List D)) (hs:sized size rows = true) (ha:atoms rows = true) (hb:rows.length * bytes ≤ 140737488355328):Sound P f [.sl rows] (.sl rows):=by
 refine ⟨hg,fun w h vs hle hvs hr=>?_⟩
 obtain ⟨v0,rfl⟩:=arr1 hvs
 have r0:Reads h v0 (.sl rows):=hr 0 _ rfl
 have done:∀ (n:Nat) (w' : World) (v:Value) (news:List Value),rows.length = n→w'.ownsRow w.heap.size E size v n news→Below w.heap.size w w'→RowsIn h size rows news →
   ∃ h',Reads h' v (.sl rows) ∧ h.le h' ∧ h'.le (hw w') ∧ (∀ b,b < w.heap.size→h' b = h b):=by
  intro n w' v news hn hown hbel hin
  have hfree:∀ b,w.heap.size ≤ b→h b = none:=by
   intro b hb'
   cases e:h b with
   | none=>rfl
   | some o=>have:=hle b o e; unfold hw at this; rw [Array.getElem?_eq_none (by omega)] at this; cases this
  refine ⟨fun b=>if numOf v = some b then w'.heap[b]? else h b,?_,?_,?_,?_⟩
  ·refine own_reads hown hin hn hsz ?_ (fun g hg=>by simp [hg])
   intro b o e
   show (if numOf v = some b then w'.heap[b]? else h b) = some o
   rw [if_neg]
   ·exact e
   ·intro q
    rw [num_own hown] at q
    have:=(hown.lt _ q).1
    rw [hfree b this] at e; cases e
  ·intro b o e
   show (if numOf v = some b then w'.heap[b]? else h b) = some o
   rw [if_neg]
   ·exact e
   ·intro q
    rw [num_own hown] at q
    have:=(hown.lt _ q).1
    rw [hfree b this] at e; cases e
  ·intro b o e
   change (if numOf v = some b then w'.heap[b]? else h b) = some o at e
   split at e
   ·exact e
   ·exact blk_to hbel (hle b o e)
  ·intro b hb'
   show (if numOf v = some b then w'.heap[b]? else h b) = h b
   rw [if_neg]
   intro q
   rw [num_own hown] at q
   have:=(hown.lt _ q).1
   omega
 cases r0 with
 | sl0 a c h0 =>
  cases a with
  | none =>
   obtain rfl:=h0 rfl
   refine (hnil w).mono ?_
   rintro e w' ⟨rfl,hbel⟩
   obtain ⟨h',q1,q2,q3,q4⟩:=done 0 w' (.slice none 0 0) [] rfl (World.ownsRow_nil _ _ _ _) hbel (fun i row e=>by simp at e)
   exact ⟨_,h',rfl,q1,q2,q3,q4,hbel⟩
  | some ad =>
   refine (hsome ad 0 c w [] (by simp) (by simp) (by simp) (by simp)).mono ?_
   rintro e w' ⟨v,rfl,hown,hbel⟩
   obtain ⟨h',q1,q2,q3,q4⟩:=done 0 w' v [] rfl hown hbel (fun i row e=>by simp at e)
   exact ⟨_,h',rfl,q1,q2,q3,q4,hbel⟩
 | sl b off c k n rows cv hn hc hk hm hr ho =>
  by_cases hne:rows = []
  ·subst hne
   simp only [List.length_nil] at hn
   subst hn
   refine (hsome _ 0 c w [] (by simp) (by simp) (by simp) (by simp)).mono ?_
   rintro e w' ⟨v,rfl,hown,hbel⟩
   obtain ⟨h',q1,q2,q3,q4⟩:=done 0 w' v [] rfl hown hbel (fun i row e=>by simp at e)
   exact ⟨_,h',rfl,q1,q2,q3,q4,hbel⟩
  ·obtain ⟨row0,hrow0⟩ : ∃ row,rows[0]? = some row:=by
    cases rows with
    | nil=>exact absurd rfl hne
    | cons a l=>exact ⟨a,rfl⟩
   have hks:k = size:=by
    rw [← hk 0 row0 hrow0]
    simpa using List.all_eq_true.1 hs row0 (List.mem_of_getElem? hrow0)
   subst hks
   obtain ⟨news,n1,n2,n3,n4⟩:=cells_of hk hm hr ho hsz
   subst hn
   refine (hsome ⟨b,off,none⟩ rows.length c w news n1 n2 hb (fun j u hj=>?_)).mono ?_
   ·rw [addr_add']
    rw [cell_hw]
    exact Hp.cell_le hle (n3 j u hj)
   ·rintro e w' ⟨v,rfl,hown,hbel⟩
    obtain ⟨h',q1,q2,q3,q4⟩:=done rows.length w' v news rfl hown hbel (rowsIn_of hs ha n4)
    exact ⟨_,h',rfl,q1,q2,q3,q4,hbel⟩
theorem clone_told {P:Program} {f E size bytes:Nat} (hg:Goes P f) (hsz:0 < size) (hby:0 < bytes)
  (hnil:∀ w:World,Calls P f #[.slice none 0 0] w fun e w'=>e = .returned (.slice none 0 0) ∧ Below w.heap.size w w')
  (hsome:∀ (ad:Addr) (n c:Nat) (w:World) (news:List Value),news.length = n * size→(∀ u ∈ news,u.oneCell' = true)→n * bytes ≤ 140737488355328→(∀ j u,news[j]? = some u→w.cell? (ad.add j) = some u) →
   Calls P f #[.slice (some ad) n c] w fun e w'=>∃ v,e = .returned v ∧ w'.ownsRow w.heap.size E size v n news ∧ Below w.heap.size w w')
  : ∀ ds x,cloneO size bytes ds = some x→Sound P f ds x:=by
 intro ds x e
 unfold cloneO at e
 split at e
 ·rename_i rows
  split at e
  ·rename_i q
   cases e
   exact clone_data hg hsz hby hnil hsome rows q.1 q.2.1 q.2.2
  ·cases e
 ·cases e
theorem atoms_cM {α:Type} (c:α→List D) (xs:List α) (h:∀ x,(c x).all D.atom = true):atoms (cM c xs) = true:=by
 unfold atoms cM
 rw [List.all_eq_true]
 intro row hr
 obtain ⟨x,_,rfl⟩:=List.mem_map.1 hr
 exact h x
end Vm
end Go.Proofs.Ytjllkddmkdajcaa
