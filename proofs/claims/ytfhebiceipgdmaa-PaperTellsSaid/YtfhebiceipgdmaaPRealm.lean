/- What the functions of package realm answer: always something; and what it means if Check says that a realm is right. -/
import Derived.Test.YtfhebiceipgdmaaFn
import Derived.Test.YtfhebiceipgdmaaTy
import Derived.Test.YtfhebiceipgdmaaVmG
set_option linter.unusedVariables false
set_option linter.unusedSimpArgs false
namespace Go.Proofs.Ytfhebiceipgdmaa
open Go.RowKit Vm
theorem OH (a b:Int):gN a b = some (decide (0 ≤ a ∧ a < b)):=by
 unfold gN
 by_cases h:0 ≤ a <;> simp [h]
def Ris (l:List Int) (lo hi:Int):Prop:=∀ i,i < l.length→lo ≤ el l i ∧ el l i ≤ hi ∧ (0 < i→el l (i - 1) < el l i)
structure aNE (r:aA):Prop where
 cur:r.Currencies.length < 50
 cit:r.Cities.length < 50
 grp:r.Groups.length < 50
 frm:r.Firms.length < 210
 ord:r.Orders.length < 50
 usa:r.Usances.length < 110
 rat:r.Rates.length < 110
 hal:r.Halts.length < 50
 cityL:∀ i,i < r.Cities.length→(el r.Cities i).Feasts.length ≤ 70 ∧ (el r.Cities i).Shut.length ≤ 210 ∧ (el r.Cities i).Rest.length ≤ 8
 orderL:∀ i,i < r.Orders.length→(el r.Orders i).Choices.length ≤ 40 ∧ (el r.Orders i).Rules.length ≤ 40
structure wT (r:aA):Prop where
 cur:r.Currencies.length < 100000000000000
 cit:r.Cities.length < 6000000000000
 grp:r.Groups.length < 100000000000000
 frm:r.Firms.length < 6000000000000
 ord:r.Orders.length < 6000000000000
 usa:r.Usances.length < 100000000000000
 rat:r.Rates.length < 100000000000000
 hal:r.Halts.length < 100000000000000
 cityL:∀ i,i < r.Cities.length→(el r.Cities i).Feasts.length < 100000000000000 ∧ (el r.Cities i).Shut.length < 100000000000000 ∧ (el r.Cities i).Rest.length < 100000000000000
 orderL:∀ i,i < r.Orders.length→(el r.Orders i).Choices.length < 6000000000000 ∧ (el r.Orders i).Rules.length < 6000000000000
theorem aGy {r:aA} (h:aA.fit r):wT r:=by
 obtain ⟨h1,h2,h3,h4,h5,h6,h7,h8⟩:=h
 have a1:=h1.1
 have a2:=h2.1
 have a3:=h3.1
 have a4:=h4.1
 have a5:=h5.1
 have a6:=h6.1
 have a7:=h7.1
 have a8:=h8.1
 refine ⟨by omega,by omega,by omega,by omega,by omega,by omega,by omega,by omega,fun i hi=>?_,fun i hi=>?_⟩
 ·obtain ⟨q1,q2,q3⟩:=h2.2 _ (GT _ i hi)
  have b1:=q1.1
  have b2:=q2.1
  have b3:=q3.1
  exact ⟨by omega,by omega,by omega⟩
 ·obtain ⟨q1,q2⟩:=h5.2 _ (GT _ i hi)
  have b1:=q1.1
  have b2:=q2.1
  exact ⟨by omega,by omega⟩
structure aKD (r:aA) (c:bL):Prop where
 feasts:c.Feasts.length ≤ 60
 shut:c.Shut.length ≤ 200
 order:0 ≤ c.Order ∧ c.Order < r.Orders.length
 cur:0 ≤ c.Currency ∧ c.Currency < r.Currencies.length
 rest:Ris c.Rest 0 6
 feastsR:Ris c.Feasts 101 1231
 shutR:Ris c.Shut 0 100000
 days:∀ i,i < c.Feasts.length→1 ≤ (el c.Feasts i).tmod 100 ∧ (el c.Feasts i).tmod 100 ≤ 31
structure aKS (o:bD):Prop where
 by_:∀ i,i < o.Choices.length→0 ≤ (el o.Choices i).By ∧ (el o.Choices i).By < 5
 ask:Ris (o.Choices.map (·.Ask)) 0 21
 rules:Ris (o.Rules.map (·.Ask)) 0 21
theorem R4 {α β:Type} [Inhabited α] (f:α→β) (l:List α) (i:Nat) (h:i < l.length):(l.take i).map f ++ [f (el l i)] = (l.take (i + 1)).map f:=by
 rw [vV l i h,← List.map_singleton (f:=f),← List.map_append,List.take_append_getElem h]
theorem aDQ (r:aA) (f:wT r):sQ r = some (r.Cities.map (·.Name),r.Firms.map (·.Name),r.Orders.map (·.Name)):=by
 have h1:=f.cit
 have h2:=f.frm
 have h3:=f.ord
 have l1:uK r 0 [] = some (r.Cities.map (·.Name)):=by
  refine (dB (step:=fun w=>jH r w.1 w.2) (fun i=>((i:Int),(r.Cities.take i).map (·.Name))) r.Cities.length _ ?_ ?_)
  ·intro i hi
   have hc:(((r.Cities.take i).map (·.Name)).length + 1) * 16 ≤ 140737488355328:=by simp; omega
   simp only [jH,i8 hi,if_true,cY _ _ hi,Option.bind_some,b9 (show i < 9223372036854775807 by omega)]
   rw [if_pos hc,← R4 (·.Name) r.Cities i hi]
  ·simp only [jH,kH,if_false,List.take_length]
 have l2:∀ z,uI r z 0 [] = some (r.Firms.map (·.Name)):=by
  intro z
  refine (dB (step:=fun w=>i5 r z w.1 w.2) (fun i=>((i:Int),(r.Firms.take i).map (·.Name))) r.Firms.length _ ?_ ?_)
  ·intro i hi
   have hc:(((r.Firms.take i).map (·.Name)).length + 1) * 16 ≤ 140737488355328:=by simp; omega
   simp only [i5,i8 hi,if_true,cY _ _ hi,Option.bind_some,b9 (show i < 9223372036854775807 by omega)]
   rw [if_pos hc,← R4 (·.Name) r.Firms i hi]
  ·simp only [i5,kH,if_false,List.take_length]
 have l3:∀ z z',uD r z z' 0 [] = some (r.Orders.map (·.Name)):=by
  intro z z'
  refine (dB (step:=fun w=>jY r z z' w.1 w.2) (fun i=>((i:Int),(r.Orders.take i).map (·.Name))) r.Orders.length _ ?_ ?_)
  ·intro i hi
   have hc:(((r.Orders.take i).map (·.Name)).length + 1) * 16 ≤ 140737488355328:=by simp; omega
   simp only [jY,i8 hi,if_true,cY _ _ hi,Option.bind_some,b9 (show i < 9223372036854775807 by omega)]
   rw [if_pos hc,← R4 (·.Name) r.Orders i hi]
  ·simp only [jY,kH,if_false,List.take_length]
 unfold sQ
 simp only [l1,l2,l3,Option.bind_some]
def aLj (r:aA):Prop:=∀ i,i < r.Usances.length→(0 ≤ (el r.Usances i).From ∧ (el r.Usances i).From < r.Cities.length) ∧ (0 ≤ (el r.Usances i).To ∧ (el r.Usances i).To < r.Cities.length) ∧ 1 ≤ (el r.Usances i).Days ∧ (el r.Usances i).Days ≤ 20000
def aKJ (r:aA):Prop:=∀ i,i < r.Halts.length→(0 ≤ (el r.Halts i).Order ∧ (el r.Halts i).Order < r.Orders.length) ∧ 0 ≤ (el r.Halts i).From ∧ (el r.Halts i).From ≤ (el r.Halts i).To ∧ (el r.Halts i).To ≤ 100000
structure aNv (r:aA):Prop where
 cities:r.Cities.length ≤ 40 ∧ ∀ i,i < r.Cities.length→aKD r (el r.Cities i)
 groups:r.Groups.length ≤ 20 ∧ ∀ i,i < r.Groups.length→0 ≤ (el r.Groups i).Grade ∧ (el r.Groups i).Grade < 10
 firms:r.Firms.length ≤ 200 ∧ ∀ i,i < r.Firms.length→(0 ≤ (el r.Firms i).City ∧ (el r.Firms i).City < r.Cities.length) ∧ 0 ≤ (el r.Firms i).Group ∧ (el r.Firms i).Group < r.Groups.length
 orders:r.Orders.length ≤ 20 ∧ ∀ i,i < r.Orders.length→aKS (el r.Orders i)
 usances:aLj r
 halts:r.Halts.length ≤ 20 ∧ aKJ r
end Go.Proofs.Ytfhebiceipgdmaa
