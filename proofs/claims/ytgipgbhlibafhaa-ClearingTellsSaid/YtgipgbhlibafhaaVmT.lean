/- Functions of which it is told what they answer: how a contract over memory becomes the small machine's. What an append gives, and a slice that is asked whether it is nil: parts of the walk of slices.Clone. -/
import Derived.Test.YtgipgbhlibafhaaVmG
import Derived.Test.YtgipgbhlibafhaaCalK
import Derived.Laws.AppendOwnNone
import Derived.Lib.LazyBuf
import Derived.KernelRfl
set_option linter.unusedVariables false
set_option linter.unusedSimpArgs false
namespace Go.Proofs.Ytgipgbhlibafhaa
open Go.RowKit
namespace Vm
theorem arr2 {vs:Array Value} {d0 d1:D} (h:vs.size = [d0,d1].length):∃ v0 v1,vs = #[v0,v1]:=by
 obtain ⟨l⟩:=vs
 match l,h with
 | [a,b],_=>exact ⟨a,b,rfl⟩
end Vm
end Go.Proofs.Ytgipgbhlibafhaa
set_option linter.unusedVariables false
set_option linter.unusedSimpArgs false
namespace Go.Proofs.Ytgipgbhlibafhaa
open Go.RowKit Vm
namespace Vm
def atoms (rows:List (List D)):Bool:=rows.all fun row=>row.all D.atom
theorem own_one' {base:Nat} {w:World} {e size n:Nat} {v:Value} {xs:List Value} (h:w.ownsRow base e size v n xs):v.oneCell' = true:=own_one h
theorem readsF_own1 {base:Base} {b0:Nat} (hb0:base.heap.size ≤ b0) {w:World} {h:Hp} {v:Value} {E size:Nat} {rows:List (List D)} {news:List Value} (hsz:0 < size) (hl:rows.length ≤ maxLen) (hown:w.ownsRow b0 E size v rows.length news) (hin:RowsIn h size rows news)
  (hfree:∀ g,numOf v = some g→h g = none):ReadsF base w h v (.own (.ref 0) [(E,size)] [rows]):=by
 intro site
 have hb:newB site [(E,size)] [rows] (frId site 0) = some (.rows 0 E size rows):=by simp [newB,newBlks,updB,lk]
 have hb' : ∀ i b,newB site [(E,size)] [rows] i = some b→i = frId site 0 ∧ b = .rows 0 E size rows:=by
  intro i b hi
  simp only [newB,newBlks,updB,lk] at hi
  split at hi
  ·rename_i e; cases hi; exact ⟨e,rfl⟩
  ·cases hi
 refine ⟨fun _=>v,⟨.rows 0 E size rows,0,hb,rfl,Nat.le_refl _,own_one' hown,fun _=>rfl⟩,?_,?_⟩
 ·intro id b hi
  obtain ⟨rfl,rfl⟩:=hb' id b hi
  exact ⟨hsz,hl,⟨news,ownsOff_of hown,hin⟩,fun g hg=>⟨hfree g hg,.inl (Nat.le_trans hb0 (hown.lt g ((num_own hown) ▸ hg)).1)⟩⟩
 ·intro i j bi bj g hi hj _ _
  rw [(hb' i bi hi).1,(hb' j bj hj).1]
end Vm
end Go.Proofs.Ytgipgbhlibafhaa
