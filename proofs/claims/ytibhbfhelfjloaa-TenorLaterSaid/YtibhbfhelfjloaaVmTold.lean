/- Cities as the told functions take them. -/
import Derived.Test.YtibhbfhelfjloaaVmT
import Derived.Test.YtibhbfhelfjloaaCalP
set_option linter.unusedVariables false
namespace Go.Proofs.Ytibhbfhelfjloaa
open Go.RowKit
namespace Vm
def dTown:D→Option Town
 | .agg [.str _,.int .i64 _,.int .i64 _,.sl r,.sl f,.sl s]=>match dInts r,dInts f,dInts s with
  | some a,some b,some c=>if a.length ≤ 140737488355328 ∧ b.length ≤ 140737488355328 ∧ c.length ≤ 140737488355328 then some ⟨a,b,c⟩ else none
  | _,_,_=>none
 | _=>none
theorem dTown_city {w:World} {v:Value} {d:D} {t:Town} (r:Reads (hw w) v d) (e:dTown d = some t):∃ cv,v = .agg cv ∧ CityV w (.agg cv) t:=by
 unfold dTown at e
 split at e
 ·rename_i nm o cu rr ff ss
  split at e
  ·rename_i a b c ha hb hc
   split at e
   ·rename_i hl
    cases e
    obtain ⟨arr,rfl,hsz,hr⟩:=agg_at r
    refine ⟨arr,rfl,?_⟩
    obtain ⟨l⟩:=arr
    match l,hsz with
    | [v0,v1,v2,v3,v4,v5],_ =>
     have r0:Reads (hw w) v0 (.str nm):=hr 0 _ rfl
     have r1:Reads (hw w) v1 (.int .i64 o):=hr 1 _ rfl
     have r2:Reads (hw w) v2 (.int .i64 cu):=hr 2 _ rfl
     have r3:Reads (hw w) v3 (.sl rr):=hr 3 _ rfl
     have r4:Reads (hw w) v4 (.sl ff):=hr 4 _ rfl
     have r5:Reads (hw w) v5 (.sl ss):=hr 5 _ rfl
     cases r0
     cases r1
     cases r2
     exact ⟨nm,o,cu,v3,v4,v5,rfl,ints_of r3 ha hl.1,ints_of r4 hb hl.2.1,ints_of r5 hc hl.2.2⟩
   ·cases e
  ·cases e
 ·cases e
theorem dTown_mk (nm:ByteArray) (o cu:Int) (r f s:List Int):dTown (.agg [.str nm,.int .i64 o,.int .i64 cu,.sl (cM cI r),.sl (cM cI f),.sl (cM cI s)]) = if r.length ≤ 140737488355328 ∧ f.length ≤ 140737488355328 ∧ s.length ≤ 140737488355328 then some ⟨r,f,s⟩ else none:=by
 simp only [dTown,dInts_cM]
end Vm
end Go.Proofs.Ytibhbfhelfjloaa
