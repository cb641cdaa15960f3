/- Functions of which it is told what they answer: how a contract over memory becomes the small machine's. What an append gives, and a slice that is asked whether it is nil: parts of the walk of slices.Clone. -/
import Derived.Test.YtgjcnbgfaimepaaVmG
import Derived.Test.YtgjcnbgfaimepaaCalK
import Derived.Test.YtgjcnbgfaimepaaVmF
import Derived.Laws.AppendOwnNone
import Derived.Lib.LazyBuf
import Derived.KernelRfl
set_option linter.unusedVariables false
set_option linter.unusedSimpArgs false
namespace Go.Proofs.Ytgjcnbgfaimepaa
open Go.RowKit
namespace Vm
theorem aUa {vs:Array Value} {d0:D} (h:vs.size = [d0].length):∃ v0,vs = #[v0]:=by
 obtain ⟨l⟩:=vs
 match l,h with
 | [a],_=>exact ⟨a,rfl⟩
theorem aUP {vs:Array Value} {d0 d1:D} (h:vs.size = [d0,d1].length):∃ v0 v1,vs = #[v0,v1]:=by
 obtain ⟨l⟩:=vs
 match l,h with
 | [a,b],_=>exact ⟨a,b,rfl⟩
end Vm
end Go.Proofs.Ytgjcnbgfaimepaa
namespace Go.Proofs.Ytgjcnbgfaimepaa
open Go.RowKit Vm
def Src (w:World) (x:Value) (m:Nat) (news:List Value):Prop :=
 ∃ ao c,x = .slice ao m c ∧ (ao = none->m = 0 ∧ c = 0) ∧ ∀ ad,ao = some ad->∀ j u,news[j]? = some u->w.cell? (ad.add j) = some u
theorem WI (w:World) (row:Option Nat):w.grownBy w row:=⟨rfl,rfl,rfl,Nat.le_refl _,fun _ _ _=>rfl⟩
theorem MT {P:Program} {w:World} {ops:Array Oper} {rest:List Oper} {o:Oper} {a:Act} {Q:Exit->Act->World->Prop} (hgd:o.guard = none) (s x:Operand) (t:TypeId)
  (ho:o.op = .call { callee:=.builtin .append,args:=#[s,x],argTypes:=#[t,t] })
  (base:Nat) (e:TypeId) (i:TypeInfo) (z:Value) (size bytes:Nat) (ht:P.underlying t = some (.slice e)) (hi:P.info? e = some i) (hz:i.zero = some z)
  (hsize:i.size = size) (hby:i.bytes = bytes) (hzs:z.cells.size = size) (hsz:0 < size)
  (v:Value) (n:Nat) (xs:List Value) (hs:a.eval s = v) (hown:w.ownsRow base e size v n xs)
  (vx:Value) (m:Nat) (news:List Value) (hx:a.eval x = vx) (hsrc:Src w vx m news) (hl:news.length = m * size) (h1:∀ u ∈ news,u.oneCell' = true)
  (hbytes:(n + m) * bytes <= 140737488355328) (hb0:0 < bytes) (hbase:base <= w.heap.size)
  (h:∀ v' w',w'.ownsRow base e size v' (n + m) (xs ++ news)->w.grownBy w' v.ownBlock->wpList P ops Q rest (a.put o.dst v') w'):wpList P ops Q (o :: rest) a w:=by
 obtain ⟨ao,c,rfl,h0,hc⟩:=hsrc
 have h63:n + m <= maxLen:=by
  have:n + m <= (n + m) * bytes:=Nat.le_mul_of_pos_right _ hb0
  unfold maxLen; omega
 cases ao with
 | some ad=>exact wpList_append_own _ hgd s x t ho base e i z size bytes ht hi hz hsize hby hzs hsz v n xs hs hown ad m c news hx hl (hc ad rfl) h1 h63 hbytes hbase fun v' w' g1 g2 _=>h v' w' g1 g2
 | none =>
  obtain ⟨rfl,rfl⟩:=h0 rfl
  have hn:news = []:=List.eq_nil_of_length_eq_zero (by simpa using hl)
  subst hn
  exact wpList_append_own_none hgd s x t ho base e i size ht hi v n xs hs hown hx (h v w (by simpa using hown) (WI _ _))
theorem aJH {w:World} {base:Nat} {e:TypeId} {size:Nat} {v:Value} {n:Nat} {xs:List Value} (h:w.ownsRow base e size v n xs):∀ k,v.ownBlock = some k->base <= k:=by
 intro k hk
 rcases h.2 with ⟨rfl,_⟩ | ⟨g,cap,cur,rfl,hg,_⟩
 ·simp [Value.ownBlock] at hk
 ·simp [Value.ownBlock] at hk; omega
theorem T6 (w:World) (base:Nat) (e:TypeId) (size:Nat) (hb:base <= w.heap.size):(w.alloc (.cells #[] e)).ownsRow base e size (.slice (some ⟨w.heap.size,0,none⟩) 0 0) 0 [] :=
 ⟨by simp,.inr ⟨w.heap.size,0,#[],rfl,hb,World.alloc_heap_new _ _,Nat.le_refl _,by simp [maxLen],by simp,by simp⟩⟩
theorem aIf (w:World) (o:Obj) {a:Addr} {u:Value} (h:w.cell? a = some u):(w.alloc o).cell? a = some u:=by
 have:=World.block_lt_of_cell? w a h
 exact (((Below.refl _ w).alloc (Nat.le_refl _) o).cell (p:=a) this).trans h
namespace Vm
theorem aKL {h:Hp} {b off k:Nat} {rows:List (List D)} {cv:Nat->Nat->Value} (hk:∀ (i:Nat) (row:List D),rows[i]? = some row->row.length = k)
  (hm:∀ (i:Nat) (row:List D) (j:Nat) (x:D),rows[i]? = some row->row[j]? = some x->h.cell b (off + i * k + j) = some (cv i j))
  (hr:∀ (i:Nat) (row:List D) (j:Nat) (x:D),rows[i]? = some row->row[j]? = some x->aT h (cv i j) x)
  (ho:∀ (i:Nat) (row:List D) (j:Nat) (x:D),rows[i]? = some row->row[j]? = some x->(cv i j).oneCell' = true) (hk0:0 < k) :
  ∃ news:List Value,news.length = rows.length * k ∧ (∀ u ∈ news,u.oneCell' = true) ∧ (∀ j u,news[j]? = some u->h.cell b (off + j) = some u) ∧
   ∀ i row,rows[i]? = some row->∀ j x,row[j]? = some x->∃ u,news[i * k + j]? = some u ∧ aT h u x:=by
 have key:∀ q,q < rows.length * k->∃ row x,rows[q / k]? = some row ∧ row[q % k]? = some x:=by
  intro q hq
  have h1:q / k < rows.length:=(Nat.div_lt_iff_lt_mul hk0).2 hq
  have h2:=hk _ _ (List.getElem?_eq_getElem h1)
  have h3:q % k < (rows[q / k]).length:=by rw [h2]; exact Nat.mod_lt _ hk0
  exact ⟨_,_,List.getElem?_eq_getElem h1,List.getElem?_eq_getElem h3⟩
 have hdm:∀ i j,j < k->(i * k + j) / k = i ∧ (i * k + j) % k = j:=by
  intro i j hj
  constructor
  ·rw [Nat.add_comm,Nat.add_mul_div_right _ _ hk0,Nat.div_eq_of_lt hj]; simp
  ·rw [Nat.add_comm,Nat.add_mul_mod_self_right,Nat.mod_eq_of_lt hj]
 refine ⟨(List.range (rows.length * k)).map fun q=>cv (q / k) (q % k),by simp,?_,?_,?_⟩
 ·intro u hu
  obtain ⟨q,hq,rfl⟩:=List.mem_map.1 hu
  obtain ⟨row,x,q1,q2⟩:=key q (by simpa using hq)
  exact ho _ _ _ _ q1 q2
 ·intro j u hj
  rw [List.getElem?_map] at hj
  by_cases hjl:j < rows.length * k
  ·rw [List.getElem?_range hjl] at hj
   simp only [Option.map_some,Option.some.injEq] at hj
   subst hj
   obtain ⟨row,x,q1,q2⟩:=key j hjl
   have:=hm _ _ _ _ q1 q2
   rwa [show off + j / k * k + j % k = off + j by have:=Nat.div_add_mod j k; rw [Nat.mul_comm] at this; omega] at this
  ·rw [List.getElem?_eq_none (by simp; omega)] at hj
   cases hj
 ·intro i row h1 j x h2
  have hi:i < rows.length:=(List.getElem?_eq_some_iff.1 h1).1
  have hj:j < k:=by rw [← hk i row h1]; exact (List.getElem?_eq_some_iff.1 h2).1
  have hlt:i * k + j < rows.length * k:=by
   have:(i + 1) * k <= rows.length * k:=Nat.mul_le_mul_right _ hi
   rw [Nat.succ_mul] at this; omega
  obtain ⟨e1,e2⟩:=hdm i j hj
  refine ⟨cv i j,?_,hr i row j x h1 h2⟩
  rw [List.getElem?_map,List.getElem?_range hlt]
  simp only [Option.map_some,e1,e2]
theorem aHl {h:Hp} {size:Nat} {rows:List (List D)} {news:List Value} (hs:sized size rows = true) (ha:MY rows = true)
  (hn:∀ i row,rows[i]? = some row->∀ j x,row[j]? = some x->∃ u,news[i * size + j]? = some u ∧ aT h u x):iI h size rows news:=by
 intro i row h1
 have hm:=List.mem_of_getElem? h1
 refine ⟨by simpa using List.all_eq_true.1 hs row hm,fun j x h2=>?_⟩
 exact ⟨List.all_eq_true.1 (List.all_eq_true.1 ha row hm) x (List.mem_of_getElem? h2),hn i row h1 j x h2⟩
theorem aLL {base:Nat} {w:World} {e size n:Nat} {v:Value} {xs:List Value} (h:w.ownsRow base e size v n xs):v.oneCell' = true:=aDS h
theorem PI {base:b7} {b0:Nat} (hb0:base.heap.size <= b0) {w:World} {h:Hp} {v:Value} {E size:Nat} {rows:List (List D)} {news:List Value} (hsz:0 < size) (hl:rows.length <= maxLen) (hown:w.ownsRow b0 E size v rows.length news) (hin:iI h size rows news)
  (hfree:∀ g,fL v = some g->h g = none):xY base w h v (.own (.ref 0) [(E,size)] [rows]):=by
 intro site
 have hnb:zS E size rows = .rows 0 E size rows:=if_neg (by omega)
 have hb:PP site [(E,size)] [rows] (CM site 0) = some (.rows 0 E size rows):=by simp [PP,fV,bP,lk,hnb]
 have hb' : ∀ i b,PP site [(E,size)] [rows] i = some b->i = CM site 0 ∧ b = .rows 0 E size rows:=by
  intro i b hi
  simp only [PP,fV,bP,lk] at hi
  split at hi
  ·rename_i e; cases hi; exact ⟨e,hnb⟩
  ·cases hi
 refine ⟨fun _=>v,⟨.rows 0 E size rows,0,hb,rfl,Nat.le_refl _,aLL hown,fun _=>rfl⟩,?_,?_⟩
 ·intro id b hi
  obtain ⟨rfl,rfl⟩:=hb' id b hi
  exact ⟨hsz,hl,⟨news,xL hown,hin⟩,fun g hg=>⟨hfree g hg,.inl (Nat.le_trans hb0 (hown.lt g ((ES hown) ▸ hg)).1)⟩⟩
 ·intro i j bi bj g hi hj _ _
  rw [(hb' i bi hi).1,(hb' j bj hj).1]
theorem aHt {P:Program} {f E size bytes:Nat} (hg:aO2 P f) (hsz:0 < size) (hby:0 < bytes)
  (hnil:∀ w:World,Calls P f #[.slice none 0 0] w fun e w'=>e = .returned (.slice none 0 0) ∧ Below w.heap.size w w')
  (hsome:∀ (ad:Addr) (n c:Nat) (w:World) (news:List Value),news.length = n * size->(∀ u ∈ news,u.oneCell' = true)->n * bytes <= 140737488355328->(∀ j u,news[j]? = some u->w.cell? (ad.add j) = some u) ->
   Calls P f #[.slice (some ad) n c] w fun e w'=>∃ v,e = .returned v ∧ w'.ownsRow w.heap.size E size v n news ∧ Below w.heap.size w w')
  (rows:List (List D)) (hs:sized size rows = true) (ha:MY rows = true) (hb:rows.length * bytes <= 140737488355328):CF P f [.sl rows] (.own (.ref 0) [(E,size)] [rows]):=by
 refine ⟨hg,fun w h vs hle hvs hr=>?_⟩
 obtain ⟨v0,rfl⟩:=aUa hvs
 have r0:aT h v0 (.sl rows):=hr 0 _ rfl
 have hml:rows.length <= maxLen:=by
  have:rows.length <= rows.length * bytes:=Nat.le_mul_of_pos_right _ hby
  unfold maxLen; omega
 have done:∀ (w' : World) (v:Value) (news:List Value),w'.ownsRow w.heap.size E size v rows.length news->Below w.heap.size w w'->iI h size rows news ->
   xY (b7.of w) w' h v (.own (.ref 0) [(E,size)] [rows]) ∧ h.le (hw w'):=by
  intro w' v news hown hbel hin
  refine ⟨PI (Nat.le_refl _) hsz hml hown hin fun g hg=>?_,fun b o e=>aJS hbel (hle b o e)⟩
  rw [ES hown] at hg
  have h1:=(hown.lt _ hg).1
  cases e:h g with
  | none=>rfl
  | some o=>have:=hle g o e; unfold hw at this; rw [Array.getElem?_eq_none (by omega)] at this; cases this
 cases r0 with
 | sl0 a c h0 =>
  cases a with
  | none =>
   obtain rfl:=h0 rfl
   refine (hnil w).mono ?_
   rintro e w' ⟨rfl,hbel⟩
   obtain ⟨q1,q2⟩:=done w' (.slice none 0 0) [] (World.ownsRow_nil _ _ _ _) hbel (fun i row e=>by simp at e)
   exact ⟨_,h,rfl,q1,Hp.le.refl _,q2,fun _ _=>rfl,hbel⟩
  | some ad =>
   refine (hsome ad 0 c w [] (by simp) (by simp) (by simp) (by simp)).mono ?_
   rintro e w' ⟨v,rfl,hown,hbel⟩
   obtain ⟨q1,q2⟩:=done w' v [] hown hbel (fun i row e=>by simp at e)
   exact ⟨_,h,rfl,q1,Hp.le.refl _,q2,fun _ _=>rfl,hbel⟩
 | sl b off c k n rows cv hn hc hk hm hr ho =>
  by_cases hne:rows = []
  ·subst hne
   simp only [List.length_nil] at hn
   subst hn
   refine (hsome _ 0 c w [] (by simp) (by simp) (by simp) (by simp)).mono ?_
   rintro e w' ⟨v,rfl,hown,hbel⟩
   obtain ⟨q1,q2⟩:=done w' v [] hown hbel (fun i row e=>by simp at e)
   exact ⟨_,h,rfl,q1,Hp.le.refl _,q2,fun _ _=>rfl,hbel⟩
  ·obtain ⟨row0,hrow0⟩ : ∃ row,rows[0]? = some row:=by
    cases rows with
    | nil=>exact absurd rfl hne
    | cons a l=>exact ⟨a,rfl⟩
   have hks:k = size:=by
    rw [← hk 0 row0 hrow0]
    simpa using List.all_eq_true.1 hs row0 (List.mem_of_getElem? hrow0)
   subst hks
   obtain ⟨news,n1,n2,n3,n4⟩:=aKL hk hm hr ho hsz
   subst hn
   refine (hsome ⟨b,off,none⟩ rows.length c w news n1 n2 hb (fun j u hj=>?_)).mono ?_
   ·rw [U4]
    rw [I6]
    exact Hp.cell_le hle (n3 j u hj)
   ·rintro e w' ⟨v,rfl,hown,hbel⟩
    obtain ⟨q1,q2⟩:=done w' v news hown hbel (aHl hs ha n4)
    exact ⟨_,h,rfl,q1,Hp.le.refl _,q2,fun _ _=>rfl,hbel⟩
theorem aAM {P:Program} {f E size bytes:Nat} (hg:aO2 P f) (hsz:0 < size) (hby:0 < bytes)
  (hnil:∀ w:World,Calls P f #[.slice none 0 0] w fun e w'=>e = .returned (.slice none 0 0) ∧ Below w.heap.size w w')
  (hsome:∀ (ad:Addr) (n c:Nat) (w:World) (news:List Value),news.length = n * size->(∀ u ∈ news,u.oneCell' = true)->n * bytes <= 140737488355328->(∀ j u,news[j]? = some u->w.cell? (ad.add j) = some u) ->
   Calls P f #[.slice (some ad) n c] w fun e w'=>∃ v,e = .returned v ∧ w'.ownsRow w.heap.size E size v n news ∧ Below w.heap.size w w')
  : ∀ ds x,VX E size bytes ds = some x->CF P f ds x:=by
 intro ds x e
 unfold VX at e
 split at e
 ·rename_i rows
  split at e
  ·rename_i q
   cases e
   exact aHt hg hsz hby hnil hsome rows q.1 q.2.1 q.2.2
  ·cases e
 ·cases e
end Vm
end Go.Proofs.Ytgjcnbgfaimepaa
