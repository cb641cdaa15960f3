/- A function that calls itself and is lent a slice: what its body answers, where the calls of itself are told. -/
import Derived.Test.YtmekbfccmnjdcaaVmF
namespace Go.Proofs.Ytmekbfccmnjdcaa
namespace Vm
variable {P:Program}
noncomputable def runL (T:Tbl) (sf:SFunc) (ds:List D):Option D:=match lentAt 0 ds with
 | none=>none
 | some t=>if ds.length = sf.np ∧ sf.lend = true ∧ noDst t sf.body = true then evK T sf.body (initL t ds) (finL sf.results t) else none
theorem runL_eq {T:Tbl} {np nt t:Nat} {res:List SRes} {body:SCode} {fs:Bool} (ds:List D) (hl:ds.length = np) (hlt:lentAt 0 ds = some t) (hnd:noDst t body = true):runL T ⟨np,nt,res,body,fs,true⟩ ds = evK T body (initL t ds) (finL res t):=by
 unfold runL
 rw [hlt]
 exact if_pos ⟨hl,rfl,hnd⟩
theorem runL_sound {T:Tbl} (hT:∀ f sf,T f = some (.code sf)→∃ fn,P.funcs[f]? = some fn ∧ LowsG P fn sf) (hO:∀ f d,T f = some d→ToldOk P f d) (hm:P.follows .mixedOrders = true)
  {f t:Nat} {sf:SFunc} {fn:Func} (hfn:P.funcs[f]? = some fn) (hl:LowsG P fn sf) {ds:List D} {x:D} (e:runL T sf ds = some x) (hlt:lentAt 0 ds = some t):SoundL P f ds t x:=by
 unfold runL at e
 rw [hlt] at e
 simp only at e
 split at e
 ·rename_i hq
  obtain ⟨l1,l2,l3,l4,l5,c,l6,l7,l8⟩:=hl
  unfold evK at e
  rw [Option.bind_eq_some_iff] at e
  obtain ⟨⟨ex,s⟩,h1,h2⟩:=e
  obtain ⟨n,hn⟩:=ev_iff.1 h1
  cases ex with
  | normal=>exact lent_ok (call_ok T hT hO hm n) hm hfn l2 l3 l4 l5 l6 (l8 hq.2.1) hq.1 hq.2.2 hn h2 (.inl rfl)
  | ret=>exact lent_ok (call_ok T hT hO hm n) hm hfn l2 l3 l4 l5 l6 (l8 hq.2.1) hq.1 hq.2.2 hn h2 (.inr rfl)
  | exit id=>cases h2
 ·cases e
end Vm
end Go.Proofs.Ytmekbfccmnjdcaa
