/- The small machine. -/
import Derived.Test.YtoefdnkjcfoccaaDoorVmG
import Derived.Test.YtoefdnkjcfoccaaDoorCalK
import Derived.Test.YtoefdnkjcfoccaaDoorVmF
import Derived.Laws.AppendOwnNone
import Derived.Lib.LazyBuf
import Derived.KernelRfl
namespace Go.Proofs.YtoefdnkjcfoccaaDoor
section
open Go.RowKit
namespace Vm
theorem aTD {vs:Array Value} {d0:D} (h:vs.size = [d0].length):∃ v0,vs = #[v0]:=by
 obtain ⟨l⟩:=vs
 match l,h with
 | [a],_=>exact ⟨a,rfl⟩
end Vm
end
section
open Go.RowKit Vm
def Src (w:World) (x:Value) (m:Nat) (news:List Value):Prop :=
 ∃ ao c,x = .slice ao m c ∧ (ao = none->m = 0 ∧ c = 0) ∧ ∀ ad,ao = some ad->∀ j u,news[j]? = some u->w.cell? (ad.add j) = some u
theorem YU (w:World) (row:Option Nat):w.grownBy w row:=⟨rfl,rfl,rfl,Õ _,fun _ _ _=>rfl⟩
theorem EL {P:Program} {w:World} {ops:Array Oper} {rest:List Oper} {o:Oper} {a:Act} {Q:Exit->Act->World->Prop} (hgd:o.guard = none) (s x:Operand) (t:TypeId)
  (ho:o.op = .call { callee:=.builtin .append,args:=#[s,x],argTypes:=#[t,t] })
  (base:Nat) (e:TypeId) (i:TypeInfo) (z:Value) (size bytes:Nat) (ht:P.underlying t = some (.slice e)) (hi:P.info? e = some i) (hz:i.zero = some z)
  (hsize:i.size = size) (hby:i.bytes = bytes) (hzs:z.cells.size = size) (hsz:0 < size)
  (v:Value) (n:Nat) (xs:List Value) (hs:a.eval s = v) (hown:w.ownsRow base e size v n xs)
  (vx:Value) (m:Nat) (news:List Value) (hx:a.eval x = vx) (hsrc:Src w vx m news) (hl:news.length = m * size) (h1:∀ u ∈ news,u.oneCell' = true)
  (hbytes:(n + m) * bytes <= 140737488355328) (hb0:0 < bytes) (hbase:base <= w.heap.size)
  (h:∀ v' w',w'.ownsRow base e size v' (n + m) (xs ++ news)->w.grownBy w' v.ownBlock->wpList P ops Q rest (a.put o.dst v') w'):wpList P ops Q (o :: rest) a w:=by
 obtain ⟨ao,c,rfl,h0,hc⟩:=hsrc
 have h63:n + m <= maxLen:=by
  have:n + m <= (n + m) * bytes:=õ _ hb0
  unfold maxLen; omega
 cases ao with
 | some ad=>exact wpList_append_own _ hgd s x t ho base e i z size bytes ht hi hz hsize hby hzs hsz v n xs hs hown ad m c news hx hl (hc ad rfl) h1 h63 hbytes hbase fun v' w' g1 g2 _=>h v' w' g1 g2
 | none =>
  obtain ⟨rfl,rfl⟩:=h0 rfl
  have hn:news = []:=Í (by simpa using hl)
  subst hn
  exact wpList_append_own_none hgd s x t ho base e i size ht hi v n xs hs hown hx (h v w (by simpa using hown) (YU _ _))
theorem aBA {w:World} {base:Nat} {e:TypeId} {size:Nat} {v:Value} {n:Nat} {xs:List Value} (h:w.ownsRow base e size v n xs):∀ k,v.ownBlock = some k->base <= k:=by
 intro k hk
 rcases h.2 with ⟨rfl,_⟩ | ⟨g,cap,cur,rfl,hg,_⟩
 ·simp [Value.ownBlock] at hk
 ·simp [Value.ownBlock] at hk; omega
theorem V4 (w:World) (base:Nat) (e:TypeId) (size:Nat) (hb:base <= w.heap.size):(w.alloc (.cells #[] e)).ownsRow base e size (.slice (some ⟨w.heap.size,0,none⟩) 0 0) 0 [] :=
 ⟨by simp,.inr ⟨w.heap.size,0,#[],rfl,hb,World.alloc_heap_new _ _,Õ _,by simp [maxLen],by simp,by simp⟩⟩
theorem aJT (w:World) (o:Obj) {a:Addr} {u:Value} (h:w.cell? a = some u):(w.alloc o).cell? a = some u:=by
 have:=Ġ w a h
 exact (((Below.refl _ w).alloc (Õ _) o).cell (p:=a) this).trans h
namespace Vm
theorem aKP {h:Hp} {b off k:Nat} {rows:List (List D)} {cv:Nat->Nat->Value} (hk:∀ (i:Nat) (row:List D),rows[i]? = some row->row.length = k)
  (hm:∀ (i:Nat) (row:List D) (j:Nat) (x:D),rows[i]? = some row->row[j]? = some x->h.cell b (off + i * k + j) = some (cv i j))
  (hr:∀ (i:Nat) (row:List D) (j:Nat) (x:D),rows[i]? = some row->row[j]? = some x->a6 h (cv i j) x)
  (ho:∀ (i:Nat) (row:List D) (j:Nat) (x:D),rows[i]? = some row->row[j]? = some x->(cv i j).oneCell' = true) (hk0:0 < k) :
  ∃ news:List Value,news.length = rows.length * k ∧ (∀ u ∈ news,u.oneCell' = true) ∧ (∀ j u,news[j]? = some u->h.cell b (off + j) = some u) ∧
   ∀ i row,rows[i]? = some row->∀ j x,row[j]? = some x->∃ u,news[i * k + j]? = some u ∧ a6 h u x:=by
 have key:∀ q,q < rows.length * k->∃ row x,rows[q / k]? = some row ∧ row[q % k]? = some x:=by
  intro q hq
  have h1:q / k < rows.length:=(Nat.div_lt_iff_lt_mul hk0).2 hq
  have h2:=hk _ _ (Ü h1)
  have h3:q % k < (rows[q / k]).length:=by rw [h2]; exact Nat.mod_lt _ hk0
  exact ⟨_,_,Ü h1,Ü h3⟩
 have hdm:∀ i j,j < k->(i * k + j) / k = i ∧ (i * k + j) % k = j:=by
  intro i j hj
  constructor
  ·rw [ļ,Nat.add_mul_div_right _ _ hk0,Nat.div_eq_of_lt hj]; simp
  ·rw [ļ,Nat.add_mul_mod_self_right,İ hj]
 refine ⟨(List.range (rows.length * k)).map fun q=>cv (q / k) (q % k),by simp,?_,?_,?_⟩
 ·intro u hu
  obtain ⟨q,hq,rfl⟩:=Þ.1 hu
  obtain ⟨row,x,q1,q2⟩:=key q (by simpa using hq)
  exact ho _ _ _ _ q1 q2
 ·intro j u hj
  rw [Ç] at hj
  by_cases hjl:j < rows.length * k
  ·rw [ā hjl] at hj
   simp only [Ù,Ä] at hj
   subst hj
   obtain ⟨row,x,q1,q2⟩:=key j hjl
   have:=hm _ _ _ _ q1 q2
   rwa [show off + j / k * k + j % k = off + j by have:=Nat.div_add_mod j k; rw [Ĭ] at this; omega] at this
  ·rw [Ď (by simp; omega)] at hj
   cases hj
 ·intro i row h1 j x h2
  have hi:i < rows.length:=(Å.1 h1).1
  have hj:j < k:=by rw [← hk i row h1]; exact (Å.1 h2).1
  have hlt:i * k + j < rows.length * k:=by
   have:(i + 1) * k <= rows.length * k:=Ð _ hi
   rw [Nat.succ_mul] at this; omega
  obtain ⟨e1,e2⟩:=hdm i j hj
  refine ⟨cv i j,?_,hr i row j x h1 h2⟩
  rw [Ç,ā hlt]
  simp only [Ù,e1,e2]
theorem WG {h:Hp} {size:Nat} {rows:List (List D)} {news:List Value} (hs:sized size rows = true) (ha:NQ rows = true)
  (hn:∀ i row,rows[i]? = some row->∀ j x,row[j]? = some x->∃ u,news[i * size + j]? = some u ∧ a6 h u x):jE h size rows news:=by
 intro i row h1
 have hm:=Ê h1
 refine ⟨by simpa using Ì.1 hs row hm,fun j x h2=>?_⟩
 exact ⟨Ì.1 (Ì.1 ha row hm) x (Ê h2),hn i row h1 j x h2⟩
theorem aIT {base:Nat} {w:World} {e size n:Nat} {v:Value} {xs:List Value} (h:w.ownsRow base e size v n xs):v.oneCell' = true:=aEJ h
theorem aA5 {base:cF} {b0:Nat} (hb0:base.heap.size <= b0) {w:World} {h:Hp} {v:Value} {E size:Nat} {rows:List (List D)} {news:List Value} (hsz:0 < size) (hl:rows.length <= maxLen) (hown:w.ownsRow b0 E size v rows.length news) (hin:jE h size rows news)
  (hfree:∀ g,e9 v = some g->h g = none):AB base w h v (.own (.ref 0) [(E,size)] [rows]):=by
 intro site
 have hnb:B7 E size rows = .rows 0 E size rows:=Ã (by omega)
 have hb:R4 site [(E,size)] [rows] (E3 site 0) = some (.rows 0 E size rows):=by simp [R4,gY,bQ,lk,hnb]
 have hb' : ∀ i b,R4 site [(E,size)] [rows] i = some b->i = E3 site 0 ∧ b = .rows 0 E size rows:=by
  intro i b hi
  simp only [R4,gY,bQ,lk] at hi
  split at hi
  ·rename_i e; cases hi; exact ⟨e,hnb⟩
  ·cases hi
 refine ⟨fun _=>v,⟨.rows 0 E size rows,0,hb,rfl,Õ _,aIT hown,fun _=>rfl⟩,?_,?_⟩
 ·intro id b hi
  obtain ⟨rfl,rfl⟩:=hb' id b hi
  exact ⟨hsz,hl,⟨news,w9 hown,hin⟩,fun g hg=>⟨hfree g hg,.inl (ó hb0 (hown.lt g ((CT hown) ▸ hg)).1)⟩⟩
 ·intro i j bi bj g hi hj _ _
  rw [(hb' i bi hi).1,(hb' j bj hj).1]
theorem aIm {P:Program} {f E size bytes:Nat} (hg:aQf P f) (hsz:0 < size) (hby:0 < bytes)
  (hnil:∀ w:World,Calls P f #[.slice none 0 0] w fun e w'=>e = .returned (.slice none 0 0) ∧ Below w.heap.size w w')
  (hsome:∀ (ad:Addr) (n c:Nat) (w:World) (news:List Value),news.length = n * size->(∀ u ∈ news,u.oneCell' = true)->n * bytes <= 140737488355328->(∀ j u,news[j]? = some u->w.cell? (ad.add j) = some u) ->
   Calls P f #[.slice (some ad) n c] w fun e w'=>∃ v,e = .returned v ∧ w'.ownsRow w.heap.size E size v n news ∧ Below w.heap.size w w')
  (rows:List (List D)) (hs:sized size rows = true) (ha:NQ rows = true) (hb:rows.length * bytes <= 140737488355328):uJ P f [.sl rows] (.own (.ref 0) [(E,size)] [rows]):=by
 refine ⟨hg,fun w h vs hle hvs hr _=>?_⟩
 obtain ⟨v0,rfl⟩:=aTD hvs
 have r0:a6 h v0 (.sl rows):=hr 0 _ rfl
 have hml:rows.length <= maxLen:=by
  have:rows.length <= rows.length * bytes:=õ _ hby
  unfold maxLen; omega
 have done:∀ (w' : World) (v:Value) (news:List Value),w'.ownsRow w.heap.size E size v rows.length news->Below w.heap.size w w'->jE h size rows news ->
   AB (cF.of w) w' h v (.own (.ref 0) [(E,size)] [rows]) ∧ h.le (hw w'):=by
  intro w' v news hown hbel hin
  refine ⟨aA5 (Õ _) hsz hml hown hin fun g hg=>?_,fun b o e=>aK8 hbel (hle b o e)⟩
  rw [CT hown] at hg
  have h1:=(hown.lt _ hg).1
  cases e:h g with
  | none=>rfl
  | some o=>have:=hle g o e; unfold hw at this; rw [Array.getElem?_eq_none (by omega)] at this; cases this
 cases r0 with
 | sl0 a c h0 =>
  cases a with
  | none =>
   obtain rfl:=h0 rfl
   refine (hnil w).mono ?_
   rintro e w' ⟨rfl,hbel⟩
   obtain ⟨q1,q2⟩:=done w' (.slice none 0 0) [] (Ĉ _ _ _ _) hbel (fun i row e=>by simp at e)
   exact ⟨_,h,rfl,q1,Hp.le.refl _,q2,fun _ _=>rfl,hbel⟩
  | some ad =>
   refine (hsome ad 0 c w [] (by simp) (by simp) (by simp) (by simp)).mono ?_
   rintro e w' ⟨v,rfl,hown,hbel⟩
   obtain ⟨q1,q2⟩:=done w' v [] hown hbel (fun i row e=>by simp at e)
   exact ⟨_,h,rfl,q1,Hp.le.refl _,q2,fun _ _=>rfl,hbel⟩
 | sl b off c k n rows cv hn hc hk hm hr ho =>
  by_cases hne:rows = []
  ·subst hne
   simp only [List.length_nil] at hn
   subst hn
   refine (hsome _ 0 c w [] (by simp) (by simp) (by simp) (by simp)).mono ?_
   rintro e w' ⟨v,rfl,hown,hbel⟩
   obtain ⟨q1,q2⟩:=done w' v [] hown hbel (fun i row e=>by simp at e)
   exact ⟨_,h,rfl,q1,Hp.le.refl _,q2,fun _ _=>rfl,hbel⟩
  ·obtain ⟨row0,hrow0⟩ : ∃ row,rows[0]? = some row:=by
    cases rows with
    | nil=>exact absurd rfl hne
    | cons a l=>exact ⟨a,rfl⟩
   have hks:k = size:=by
    rw [← hk 0 row0 hrow0]
    simpa using Ì.1 hs row0 (Ê hrow0)
   subst hks
   obtain ⟨news,n1,n2,n3,n4⟩:=aKP hk hm hr ho hsz
   subst hn
   refine (hsome ⟨b,off,none⟩ rows.length c w news n1 n2 hb (fun j u hj=>?_)).mono ?_
   ·rw [PL]
    rw [GU]
    exact Hp.cell_le hle (n3 j u hj)
   ·rintro e w' ⟨v,rfl,hown,hbel⟩
    obtain ⟨q1,q2⟩:=done w' v news hown hbel (WG hs ha n4)
    exact ⟨_,h,rfl,q1,Hp.le.refl _,q2,fun _ _=>rfl,hbel⟩
theorem aAF {P:Program} {f E size bytes:Nat} (hg:aQf P f) (hsz:0 < size) (hby:0 < bytes)
  (hnil:∀ w:World,Calls P f #[.slice none 0 0] w fun e w'=>e = .returned (.slice none 0 0) ∧ Below w.heap.size w w')
  (hsome:∀ (ad:Addr) (n c:Nat) (w:World) (news:List Value),news.length = n * size->(∀ u ∈ news,u.oneCell' = true)->n * bytes <= 140737488355328->(∀ j u,news[j]? = some u->w.cell? (ad.add j) = some u) ->
   Calls P f #[.slice (some ad) n c] w fun e w'=>∃ v,e = .returned v ∧ w'.ownsRow w.heap.size E size v n news ∧ Below w.heap.size w w')
  : ∀ ds x,Y5 E size bytes ds = some x->uJ P f ds x:=by
 intro ds x e
 unfold Y5 at e
 split at e
 ·rename_i rows
  split at e
  ·rename_i q
   cases e
   exact aIm hg hsz hby hnil hsome rows q.1 q.2.1 q.2.2
  ·cases e
 ·cases e
end Vm
end
end Go.Proofs.YtoefdnkjcfoccaaDoor
