/- Functions of which it is told what they answer: how a contract over memory becomes the small machine's. What an append gives, and a slice that is asked whether it is nil: parts of the walk of slices.Clone. -/
import Derived.Test.YtiimibimkpimbaaVmG
import Derived.Test.YtiimibimkpimbaaCalK
import Derived.Laws.AppendOwnNone
import Derived.Lib.LazyBuf
import Derived.KernelRfl
set_option linter.unusedVariables false
set_option linter.unusedSimpArgs false
namespace Go.Proofs.Ytiimibimkpimbaa
open Go.RowKit
namespace Vm
theorem aL4 {vs:Array Value} {d0 d1:D} (h:vs.size = [d0,d1].length):∃ v0 v1,vs = #[v0,v1]:=by
 obtain ⟨l⟩:=vs
 match l,h with
 | [a,b],_=>exact ⟨a,b,rfl⟩
end Vm
end Go.Proofs.Ytiimibimkpimbaa
set_option linter.unusedVariables false
set_option linter.unusedSimpArgs false
namespace Go.Proofs.Ytiimibimkpimbaa
open Go.RowKit Vm
namespace Vm
def aCy (rows:List (List D)):Bool:=rows.all fun row=>row.all D.atom
theorem aDk {base:Nat} {w:World} {e size n:Nat} {v:Value} {xs:List Value} (h:w.ownsRow base e size v n xs):v.oneCell' = true:=X4 h
theorem RB {base:fD} {b0:Nat} (hb0:base.heap.size ≤ b0) {w:World} {h:Hp} {v:Value} {E size:Nat} {rows:List (List D)} {news:List Value} (hsz:0 < size) (hl:rows.length ≤ maxLen) (hown:w.ownsRow b0 E size v rows.length news) (hin:j5 h size rows news)
  (hfree:∀ g,gR v = some g→h g = none):GR base w h v (.own (.ref 0) [(E,size)] [rows]):=by
 intro site
 have hnb:wJ E size rows = .rows 0 E size rows:=if_neg (by omega)
 have hb:K6 site [(E,size)] [rows] (yF site 0) = some (.rows 0 E size rows):=by simp [K6,gJ,cP,lk,hnb]
 have hb' : ∀ i b,K6 site [(E,size)] [rows] i = some b→i = yF site 0 ∧ b = .rows 0 E size rows:=by
  intro i b hi
  simp only [K6,gJ,cP,lk] at hi
  split at hi
  ·rename_i e; cases hi; exact ⟨e,hnb⟩
  ·cases hi
 refine ⟨fun _=>v,⟨.rows 0 E size rows,0,hb,rfl,Nat.le_refl _,aDk hown,fun _=>rfl⟩,?_,?_⟩
 ·intro id b hi
  obtain ⟨rfl,rfl⟩:=hb' id b hi
  exact ⟨hsz,hl,⟨news,tU hown,hin⟩,fun g hg=>⟨hfree g hg,.inl (Nat.le_trans hb0 (hown.lt g ((DT hown) ▸ hg)).1)⟩⟩
 ·intro i j bi bj g hi hj _ _
  rw [(hb' i bi hi).1,(hb' j bj hj).1]
end Vm
end Go.Proofs.Ytiimibimkpimbaa
