/- The small machine. -/
import Derived.Test.YtoefdnkjcfoccaaDoorVmF
namespace Go.Proofs.YtoefdnkjcfoccaaDoor
namespace Vm
variable {P:Program}
noncomputable def U5 (T:wF) (sf:bY) (ds:List D):Option D:=if ds.length = sf.np ∧ kG 0 ds = none then bM T sf.body ⟨mZ 0 ds,[]⟩ (aUE sf) else none
theorem X9 {T:wF} {np nt:Nat} {res:List kT} {body:aP} (ds:List D) (hl:ds.length = np) (hlt:kG 0 ds = none):U5 T ⟨np,nt,res,body,false,false⟩ ds = bM T body ⟨mZ 0 ds,[]⟩ (aL5 res):=by
 unfold U5
 refine (Â ⟨hl,hlt⟩).trans ?_
 unfold bM
 cases Vm.ev T body ⟨mZ 0 ds,[]⟩ with
 | none=>rfl
 | some q =>
  obtain ⟨e,s⟩:=q
  cases e <;> rfl
theorem L2 {T:wF} (hT:∀ f sf,T f = some (.code sf)->∃ fn,P.funcs[f]? = some fn ∧ RB P fn sf) (hO:∀ f d,T f = some d->X4 P f d) (hm:P.follows .mixedOrders = true)
  {f:Nat} {sf:bY} {fn:Func} (hfn:P.funcs[f]? = some fn) (hl:RB P fn sf) {ds:List D} {x:D} (e:U5 T sf ds = some x):uJ P f ds x:=by
 unfold U5 at e
 split at e
 ·rename_i hq
  obtain ⟨l1,l2,l3,l4,l5,c,l6,l7,l8⟩:=hl
  unfold bM at e
  rw [ô] at e
  obtain ⟨⟨ex,s⟩,h1,h2⟩:=e
  obtain ⟨n,hn⟩:=gK.1 h1
  cases ex with
  | normal=>exact SE (JH T hT hO hm n) hm hfn l1 l2 l3 l4 l5 l6 l7 hq.1 hn h2 (.inl rfl)
  | ret=>exact SE (JH T hT hO hm n) hm hfn l1 l2 l3 l4 l5 l6 l7 hq.1 hn h2 (.inr rfl)
  | exit id=>cases h2
 ·cases e
end Vm
end Go.Proofs.YtoefdnkjcfoccaaDoor
