/- Functions of which it is told what they answer: how a contract over memory becomes the small machine's. What an append gives, and a slice that is asked whether it is nil: parts of the walk of slices.Clone. -/
import Derived.Test.YtibhbfhelfjloaaVmG
import Derived.Test.YtibhbfhelfjloaaCalK
import Derived.Laws.AppendOwnNone
import Derived.Lib.LazyBuf
import Derived.KernelRfl
set_option linter.unusedVariables false
namespace Go.Proofs.Ytibhbfhelfjloaa
open Go.RowKit
namespace Vm
theorem Reads.of_flat {P:Program} {f:Nat} {ds:List D} {x:D} (hg:Goes P f)
  (hc:∀ (w:World) (vs:Array Value),vs.size = ds.length→(∀ (i:Nat) (d:D),ds[i]? = some d→Reads (hw w) (vs.getD i undef) d) →
   Calls P f vs w fun e w'=>(∃ v,e = .returned v ∧ ∀ h,ReadsF w.heap.size w' h v x) ∧ Below w.heap.size w w'):Sound P f ds x:=by
 refine ⟨hg,fun w h vs hle hsz hr=>(hc w vs hsz fun i d hd=>(hr i d hd).mono hle).mono ?_⟩
 rintro e w' ⟨⟨v,rfl,hv⟩,hb⟩
 refine ⟨v,h,rfl,hv h,Hp.le.refl _,fun b o hbo=>?_,fun b hb'=>rfl,hb⟩
 have h1:w.heap[b]? = some o:=hle b o hbo
 exact blk_to hb h1
theorem arr2 {vs:Array Value} {d0 d1:D} (h:vs.size = [d0,d1].length):∃ v0 v1,vs = #[v0,v1]:=by
 obtain ⟨l⟩:=vs
 match l,h with
 | [a,b],_=>exact ⟨a,b,rfl⟩
theorem rd2 {b:Nat} {w:World} {h:Hp} {u v:Value} {x y:D} (hu:Reads h u x) (hv:Reads h v y) (hx:x.noTup = true) (hy:y.noTup = true):ReadsF b w h (.tuple #[u,v]) (.tup [x,y]):=by
 refine Reads.tup _ _ rfl ?_ ?_
 ·intro j z hz
  match j,hz with
  | 0,hz=>cases hz; exact hu
  | 1,hz=>cases hz; exact hv
  | n + 2,hz=>simp at hz
 ·intro j z hz
  match j,hz with
  | 0,hz=>cases hz; exact hx
  | 1,hz=>cases hz; exact hy
  | n + 2,hz=>simp at hz
def dInts:List (List D)→Option (List Int)
 | []=>some []
 | [.int .i64 n] :: r=>(dInts r).map fun l=>n :: l
 | _=>none
theorem dInts_cM:∀ l:List Int,dInts (cM cI l) = some l
 | []=>rfl
 | n :: l=>by
  show dInts ([.int .i64 n] :: cM cI l) = _
  simp [dInts,dInts_cM l]
theorem dInts_at:∀ {rows:List (List D)} {l:List Int},dInts rows = some l→rows.length = l.length ∧ ∀ j,j < l.length→rows[j]? = some [.int .i64 (at0 l j)]
 | [],l,e=>by
  simp only [dInts,Option.some.injEq] at e
  subst e
  exact ⟨rfl,fun j hj=>by simp at hj⟩
 | row :: r,l,e=>by
  unfold dInts at e
  split at e
  ·rename_i h; cases h
  ·rename_i n r' h
   cases h
   obtain ⟨l',h1,rfl⟩:=Option.map_eq_some_iff.1 e
   obtain ⟨q1,q2⟩:=dInts_at h1
   refine ⟨by simp [q1],fun j hj=>?_⟩
   cases j with
   | zero=>simp [at0]
   | succ j =>
    have:=q2 j (by simpa using hj)
    simpa [at0] using this
  ·cases e
theorem ints_of {w:World} {v:Value} {rows:List (List D)} {l:List Int} (r:Reads (hw w) v (.sl rows)) (e:dInts rows = some l) (hl:l.length ≤ 140737488355328):Ints w v l:=by
 obtain ⟨h1,h2⟩:=dInts_at e
 cases r with
 | sl0 a c h0 =>
  have:l = []:=List.eq_nil_of_length_eq_zero h1.symm
  subst this
  exact Ints.nil w a c
 | sl b off c k n rows cv hn hc hk hm hr ho =>
  refine ⟨hl,.inr ⟨b,off,c,by rw [hn,h1],fun j hj=>?_⟩⟩
  have hrow:=h2 j hj
  obtain rfl:k = 1:=(hk j _ hrow).symm
  have hcell:=hm j _ 0 _ hrow rfl
  have hread:=hr j _ 0 _ hrow rfl
  rw [cell_hw]
  simp only [Nat.mul_one,Nat.add_zero] at hcell
  rw [hcell]
  generalize cv j 0 = u at hread
  cases hread
  rfl
theorem agg_at {h:Hp} {v:Value} {cs:List D} (r:Reads h v (.agg cs)):∃ arr:Array Value,v = .agg arr ∧ arr.size = cs.length ∧ ∀ (j:Nat) (x:D),cs[j]? = some x→Reads h (arr.getD j undef) x:=by
 cases r with
 | agg arr cs hl hr ho=>exact ⟨arr,rfl,hl,hr⟩
end Vm
end Go.Proofs.Ytibhbfhelfjloaa
set_option linter.unusedVariables false
namespace Go.Proofs.Ytibhbfhelfjloaa
open Go.RowKit Vm
namespace Vm
def atoms (rows:List (List D)):Bool:=rows.all fun row=>row.all D.atom
end Vm
end Go.Proofs.Ytibhbfhelfjloaa
