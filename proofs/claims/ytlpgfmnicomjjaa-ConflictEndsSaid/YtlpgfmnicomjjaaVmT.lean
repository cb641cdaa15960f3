/- Functions of which it is told what they answer: how a contract over memory becomes the small machine's. What an append gives, and a slice that is asked whether it is nil: parts of the walk of slices.Clone. -/
import Derived.Test.YtlpgfmnicomjjaaVmG
import Derived.Test.YtlpgfmnicomjjaaCalK
import Derived.Laws.AppendOwnNone
import Derived.Lib.LazyBuf
import Derived.KernelRfl
set_option linter.unusedVariables false
set_option linter.unusedSimpArgs false
namespace Go.Proofs.Ytlpgfmnicomjjaa
open Go.RowKit
namespace Vm
theorem arr2 {vs:Array Value} {d0 d1:D} (h:vs.size = [d0,d1].length):∃ v0 v1,vs = #[v0,v1]:=by
 obtain ⟨l⟩:=vs
 match l,h with
 | [a,b],_=>exact ⟨a,b,rfl⟩
end Vm
end Go.Proofs.Ytlpgfmnicomjjaa
set_option linter.unusedVariables false
set_option linter.unusedSimpArgs false
namespace Go.Proofs.Ytlpgfmnicomjjaa
open Go.RowKit Vm
theorem grownBy_same (w:World) (row:Option Nat):w.grownBy w row:=⟨rfl,rfl,rfl,Nat.le_refl _,fun _ _ _=>rfl⟩
namespace Vm
def atoms (rows:List (List D)):Bool:=rows.all fun row=>row.all D.atom
theorem own_one' {base:Nat} {w:World} {e size n:Nat} {v:Value} {xs:List Value} (h:w.ownsRow base e size v n xs):v.oneCell' = true:=own_one h
end Vm
end Go.Proofs.Ytlpgfmnicomjjaa
