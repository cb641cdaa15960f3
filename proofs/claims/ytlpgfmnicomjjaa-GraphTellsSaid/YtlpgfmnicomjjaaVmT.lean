/- Functions of which it is told what they answer: how a contract over memory becomes the small machine's. What an append gives, and a slice that is asked whether it is nil: parts of the walk of slices.Clone. -/
import Derived.Test.YtlpgfmnicomjjaaVmG
import Derived.Test.YtlpgfmnicomjjaaCalK
import Derived.Laws.AppendOwnNone
import Derived.Lib.LazyBuf
import Derived.KernelRfl
set_option linter.unusedVariables false
set_option linter.unusedSimpArgs false
namespace Go.Proofs.Ytlpgfmnicomjjaa
open Go.RowKit
namespace Vm
theorem arr2 {vs:Array Value} {d0 d1:D} (h:vs.size = [d0,d1].length):∃ v0 v1,vs = #[v0,v1]:=by
 obtain ⟨l⟩:=vs
 match l,h with
 | [a,b],_=>exact ⟨a,b,rfl⟩
end Vm
end Go.Proofs.Ytlpgfmnicomjjaa
set_option linter.unusedVariables false
set_option linter.unusedSimpArgs false
namespace Go.Proofs.Ytlpgfmnicomjjaa
open Go.RowKit Vm
def Src (w:World) (x:Value) (m:Nat) (news:List Value):Prop :=
 ∃ ao c,x = .slice ao m c ∧ (ao = none→m = 0 ∧ c = 0) ∧ ∀ ad,ao = some ad→∀ j u,news[j]? = some u→w.cell? (ad.add j) = some u
theorem grownBy_same (w:World) (row:Option Nat):w.grownBy w row:=⟨rfl,rfl,rfl,Nat.le_refl _,fun _ _ _=>rfl⟩
theorem wpList_append_src {P:Program} {w:World} {ops:Array Oper} {rest:List Oper} {o:Oper} {a:Act} {Q:Exit→Act→World→Prop} (hgd:o.guard = none) (s x:Operand) (t:TypeId)
  (ho:o.op = .call { callee:=.builtin .append,args:=#[s,x],argTypes:=#[t,t] })
  (base:Nat) (e:TypeId) (i:TypeInfo) (z:Value) (size bytes:Nat) (ht:P.underlying t = some (.slice e)) (hi:P.info? e = some i) (hz:i.zero = some z)
  (hsize:i.size = size) (hby:i.bytes = bytes) (hzs:z.cells.size = size) (hsz:0 < size)
  (v:Value) (n:Nat) (xs:List Value) (hs:a.eval s = v) (hown:w.ownsRow base e size v n xs)
  (vx:Value) (m:Nat) (news:List Value) (hx:a.eval x = vx) (hsrc:Src w vx m news) (hl:news.length = m * size) (h1:∀ u ∈ news,u.oneCell' = true)
  (hbytes:(n + m) * bytes ≤ 140737488355328) (hb0:0 < bytes) (hbase:base ≤ w.heap.size)
  (h:∀ v' w',w'.ownsRow base e size v' (n + m) (xs ++ news)→w.grownBy w' v.ownBlock→wpList P ops Q rest (a.put o.dst v') w'):wpList P ops Q (o :: rest) a w:=by
 obtain ⟨ao,c,rfl,h0,hc⟩:=hsrc
 have h63:n + m ≤ maxLen:=by
  have:n + m ≤ (n + m) * bytes:=Nat.le_mul_of_pos_right _ hb0
  unfold maxLen; omega
 cases ao with
 | some ad=>exact wpList_append_own _ hgd s x t ho base e i z size bytes ht hi hz hsize hby hzs hsz v n xs hs hown ad m c news hx hl (hc ad rfl) h1 h63 hbytes hbase fun v' w' g1 g2 _=>h v' w' g1 g2
 | none =>
  obtain ⟨rfl,rfl⟩:=h0 rfl
  have hn:news = []:=List.eq_nil_of_length_eq_zero (by simpa using hl)
  subst hn
  exact wpList_append_own_none hgd s x t ho base e i size ht hi v n xs hs hown hx (h v w (by simpa using hown) (grownBy_same _ _))
theorem own_base {w:World} {base:Nat} {e:TypeId} {size:Nat} {v:Value} {n:Nat} {xs:List Value} (h:w.ownsRow base e size v n xs):∀ k,v.ownBlock = some k→base ≤ k:=by
 intro k hk
 rcases h.2 with ⟨rfl,_⟩ | ⟨g,cap,cur,rfl,hg,_⟩
 ·simp [Value.ownBlock] at hk
 ·simp [Value.ownBlock] at hk; omega
theorem own_empty (w:World) (base:Nat) (e:TypeId) (size:Nat) (hb:base ≤ w.heap.size):(w.alloc (.cells #[] e)).ownsRow base e size (.slice (some ⟨w.heap.size,0,none⟩) 0 0) 0 [] :=
 ⟨by simp,.inr ⟨w.heap.size,0,#[],rfl,hb,World.alloc_heap_new _ _,Nat.le_refl _,by simp [maxLen],by simp,by simp⟩⟩
theorem blk_cell (w:World) (o:Obj) {a:Addr} {u:Value} (h:w.cell? a = some u):(w.alloc o).cell? a = some u:=by
 have:=World.block_lt_of_cell? w a h
 exact (((Below.refl _ w).alloc (Nat.le_refl _) o).cell (p:=a) this).trans h
namespace Vm
def atoms (rows:List (List D)):Bool:=rows.all fun row=>row.all D.atom
theorem own_one' {base:Nat} {w:World} {e size n:Nat} {v:Value} {xs:List Value} (h:w.ownsRow base e size v n xs):v.oneCell' = true:=own_one h
end Vm
end Go.Proofs.Ytlpgfmnicomjjaa
