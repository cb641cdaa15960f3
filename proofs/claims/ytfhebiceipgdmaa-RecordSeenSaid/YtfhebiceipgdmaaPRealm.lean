/- What the functions of package realm answer: always something; and what it means if Check says that a realm is right. -/
import Derived.Test.YtfhebiceipgdmaaFn
import Derived.Test.YtfhebiceipgdmaaTy
import Derived.Test.YtfhebiceipgdmaaVmG
set_option linter.unusedVariables false
set_option linter.unusedSimpArgs false
namespace Go.Proofs.Ytfhebiceipgdmaa
open Go.RowKit Vm
theorem KR (a b:Int):fI a b = some (decide (0 ≤ a ∧ a < b)):=by
 unfold fI
 by_cases h:0 ≤ a <;> simp [h]
def Ris (l:List Int) (lo hi:Int):Prop:=∀ i,i < l.length→lo ≤ el l i ∧ el l i ≤ hi ∧ (0 < i→el l (i - 1) < el l i)
structure aIS (r:aA):Prop where
 cur:r.Currencies.length < 50
 cit:r.Cities.length < 50
 grp:r.Groups.length < 50
 frm:r.Firms.length < 210
 ord:r.Orders.length < 50
 usa:r.Usances.length < 110
 rat:r.Rates.length < 110
 hal:r.Halts.length < 50
 cityL:∀ i,i < r.Cities.length→(el r.Cities i).Feasts.length ≤ 70 ∧ (el r.Cities i).Shut.length ≤ 210 ∧ (el r.Cities i).Rest.length ≤ 8
 orderL:∀ i,i < r.Orders.length→(el r.Orders i).Choices.length ≤ 40 ∧ (el r.Orders i).Rules.length ≤ 40
structure IG (r:aA):Prop where
 cur:r.Currencies.length < 100000000000000
 cit:r.Cities.length < 6000000000000
 grp:r.Groups.length < 100000000000000
 frm:r.Firms.length < 6000000000000
 ord:r.Orders.length < 6000000000000
 usa:r.Usances.length < 100000000000000
 rat:r.Rates.length < 100000000000000
 hal:r.Halts.length < 100000000000000
 cityL:∀ i,i < r.Cities.length→(el r.Cities i).Feasts.length < 100000000000000 ∧ (el r.Cities i).Shut.length < 100000000000000 ∧ (el r.Cities i).Rest.length < 100000000000000
 orderL:∀ i,i < r.Orders.length→(el r.Orders i).Choices.length < 6000000000000 ∧ (el r.Orders i).Rules.length < 6000000000000
theorem aIS.big {r:aA} (f:aIS r):IG r where
 cur:=by have:=f.cur; omega
 cit:=by have:=f.cit; omega
 grp:=by have:=f.grp; omega
 frm:=by have:=f.frm; omega
 ord:=by have:=f.ord; omega
 usa:=by have:=f.usa; omega
 rat:=by have:=f.rat; omega
 hal:=by have:=f.hal; omega
 cityL:=fun i hi=>by have:=f.cityL i hi; omega
 orderL:=fun i hi=>by have:=f.orderL i hi; omega
theorem PX (r:aA):∃ b,gU r = some b ∧ (b = true→aIS r):=by
 have l1:∃ x,lA r 0 = some x ∧ (x = .inl ()→∀ i,i < r.Cities.length→i < 50→(el r.Cities i).Feasts.length ≤ 70 ∧ (el r.Cities i).Shut.length ≤ 210 ∧ (el r.Cities i).Rest.length ≤ 8):=by
  obtain ⟨x,hx,hq⟩:=M4 (step:=fun w=>eX r w) (fun i=>(i:Int)) (min r.Cities.length 50) (fun i=>(el r.Cities i).Feasts.length ≤ 70 ∧ (el r.Cities i).Shut.length ≤ 210 ∧ (el r.Cities i).Rest.length ≤ 8) (fun x=>x = .inl ()→∀ i,i < r.Cities.length→i < 50→(el r.Cities i).Feasts.length ≤ 70 ∧ (el r.Cities i).Shut.length ≤ 210 ∧ (el r.Cities i).Rest.length ≤ 8) (by
   intro i hi
   have hi1:i < r.Cities.length:=by omega
   have hi2:i < 50:=by omega
   have hi3:(i:Int) < 50:=by omega
   simp only [eX,mN hi1,if_true,eQ _ _ hi1,Option.bind_some,b9 (show i < 9223372036854775807 by omega),decide_eq_true_eq,hi3]
   by_cases h1:((el r.Cities i).Feasts.length:Int) > 70
   ·exact .inr ⟨.inr (),by simp [h1],fun _ h=>by cases h⟩
   by_cases h2:((el r.Cities i).Shut.length:Int) > 210
   ·exact .inr ⟨.inr (),by simp [h1,h2],fun _ h=>by cases h⟩
   by_cases h3:((el r.Cities i).Rest.length:Int) > 8
   ·exact .inr ⟨.inr (),by simp [h1,h2,h3],fun _ h=>by cases h⟩
   ·exact .inl ⟨by simp [h1,h2,h3],by omega,by omega,by omega⟩) (by
   refine ⟨.inl (),?_,fun h _ i h1 h2=>h i (by omega)⟩
   simp only [eX,decide_eq_true_eq]
   by_cases h:((min r.Cities.length 50:Nat):Int) < (r.Cities.length:Int)
   ·rw [if_pos h,if_neg (by omega)]
   ·rw [if_neg h])
  exact ⟨x,hx,hq⟩
 have l2:∃ x,k7 r 0 = some x ∧ (x = .inl ()→∀ i,i < r.Orders.length→i < 50→(el r.Orders i).Choices.length ≤ 40 ∧ (el r.Orders i).Rules.length ≤ 40):=by
  obtain ⟨x,hx,hq⟩:=M4 (step:=fun w=>eY r w) (fun i=>(i:Int)) (min r.Orders.length 50) (fun i=>(el r.Orders i).Choices.length ≤ 40 ∧ (el r.Orders i).Rules.length ≤ 40) (fun x=>x = .inl ()→∀ i,i < r.Orders.length→i < 50→(el r.Orders i).Choices.length ≤ 40 ∧ (el r.Orders i).Rules.length ≤ 40) (by
   intro i hi
   have hi1:i < r.Orders.length:=by omega
   have hi2:i < 50:=by omega
   have hi3:(i:Int) < 50:=by omega
   simp only [eY,mN hi1,if_true,eQ _ _ hi1,Option.bind_some,b9 (show i < 9223372036854775807 by omega),decide_eq_true_eq,hi3]
   by_cases h1:((el r.Orders i).Choices.length:Int) > 40
   ·exact .inr ⟨.inr (),by simp [h1],fun _ h=>by cases h⟩
   by_cases h2:((el r.Orders i).Rules.length:Int) > 40
   ·exact .inr ⟨.inr (),by simp [h1,h2],fun _ h=>by cases h⟩
   ·exact .inl ⟨by simp [h1,h2],by omega,by omega⟩) (by
   refine ⟨.inl (),?_,fun h _ i h1 h2=>h i (by omega)⟩
   simp only [eY,decide_eq_true_eq]
   by_cases h:((min r.Orders.length 50:Nat):Int) < (r.Orders.length:Int)
   ·rw [if_pos h,if_neg (by omega)]
   ·rw [if_neg h])
  exact ⟨x,hx,hq⟩
 obtain ⟨x,hx,qx⟩:=l1
 obtain ⟨y,hy,qy⟩:=l2
 unfold gU
 rw [hx,hy]
 cases x with
 | inr u=>exact ⟨false,rfl,fun h=>by cases h⟩
 | inl u =>
  cases y with
  | inr u=>exact ⟨false,rfl,fun h=>by cases h⟩
  | inl v =>
   simp only [Option.bind_some,Sum.elim_inl,decide_eq_true_eq]
   by_cases h1:(r.Currencies.length:Int) < 50
   ·by_cases h2:(r.Cities.length:Int) < 50
    ·by_cases h3:(r.Groups.length:Int) < 50
     ·by_cases h4:(r.Firms.length:Int) < 210
      ·by_cases h5:(r.Orders.length:Int) < 50
       ·by_cases h6:(r.Usances.length:Int) < 110
        ·by_cases h7:(r.Rates.length:Int) < 110
         ·refine ⟨decide ((r.Halts.length:Int) < 50),by simp [h1,h2,h3,h4,h5,h6,h7],fun h=>?_⟩
          simp only [decide_eq_true_eq] at h
          exact ⟨by omega,by omega,by omega,by omega,by omega,by omega,by omega,by omega,fun i hi=>qx rfl i hi (by omega),fun i hi=>qy rfl i hi (by omega)⟩
         ·exact ⟨false,by simp [h1,h2,h3,h4,h5,h6,h7],fun h=>by cases h⟩
        ·exact ⟨false,by simp [h1,h2,h3,h4,h5,h6],fun h=>by cases h⟩
       ·exact ⟨false,by simp [h1,h2,h3,h4,h5],fun h=>by cases h⟩
      ·exact ⟨false,by simp [h1,h2,h3,h4],fun h=>by cases h⟩
     ·exact ⟨false,by simp [h1,h2,h3],fun h=>by cases h⟩
    ·exact ⟨false,by simp [h1,h2],fun h=>by cases h⟩
   ·exact ⟨false,by simp [h1],fun h=>by cases h⟩
structure aJR (r:aA) (c:bJ):Prop where
 feasts:c.Feasts.length ≤ 60
 shut:c.Shut.length ≤ 200
 order:0 ≤ c.Order ∧ c.Order < r.Orders.length
 cur:0 ≤ c.Currency ∧ c.Currency < r.Currencies.length
 rest:Ris c.Rest 0 6
 feastsR:Ris c.Feasts 101 1231
 shutR:Ris c.Shut 0 100000
 days:∀ i,i < c.Feasts.length→1 ≤ (el c.Feasts i).tmod 100 ∧ (el c.Feasts i).tmod 100 ≤ 31
structure aJs (o:bC):Prop where
 by_:∀ i,i < o.Choices.length→0 ≤ (el o.Choices i).By ∧ (el o.Choices i).By < 5
 ask:Ris (o.Choices.map (·.Ask)) 0 21
 rules:Ris (o.Rules.map (·.Ask)) 0 21
theorem NS {α β:Type} [Inhabited α] (f:α→β) (l:List α) (i:Nat) (h:i < l.length):(l.take i).map f ++ [f (el l i)] = (l.take (i + 1)).map f:=by
 rw [vL l i h,← List.map_singleton (f:=f),← List.map_append,List.take_append_getElem h]
theorem aBf (r:aA) (f:IG r):pC r = some (r.Cities.map (·.Name),r.Firms.map (·.Name),r.Orders.map (·.Name)):=by
 have h1:=f.cit
 have h2:=f.frm
 have h3:=f.ord
 have l1:qC r 0 [] = some (r.Cities.map (·.Name)):=by
  refine (fB (step:=fun w=>iE r w.1 w.2) (fun i=>((i:Int),(r.Cities.take i).map (·.Name))) r.Cities.length _ ?_ ?_)
  ·intro i hi
   have hc:(((r.Cities.take i).map (·.Name)).length + 1) * 16 ≤ 140737488355328:=by simp; omega
   simp only [iE,mN hi,if_true,eQ _ _ hi,Option.bind_some,b9 (show i < 9223372036854775807 by omega)]
   rw [if_pos hc,← NS (·.Name) r.Cities i hi]
  ·simp only [iE,oF,if_false,List.take_length]
 have l2:∀ z,pS r z 0 [] = some (r.Firms.map (·.Name)):=by
  intro z
  refine (fB (step:=fun w=>iB r z w.1 w.2) (fun i=>((i:Int),(r.Firms.take i).map (·.Name))) r.Firms.length _ ?_ ?_)
  ·intro i hi
   have hc:(((r.Firms.take i).map (·.Name)).length + 1) * 16 ≤ 140737488355328:=by simp; omega
   simp only [iB,mN hi,if_true,eQ _ _ hi,Option.bind_some,b9 (show i < 9223372036854775807 by omega)]
   rw [if_pos hc,← NS (·.Name) r.Firms i hi]
  ·simp only [iB,oF,if_false,List.take_length]
 have l3:∀ z z',qF r z z' 0 [] = some (r.Orders.map (·.Name)):=by
  intro z z'
  refine (fB (step:=fun w=>gT r z z' w.1 w.2) (fun i=>((i:Int),(r.Orders.take i).map (·.Name))) r.Orders.length _ ?_ ?_)
  ·intro i hi
   have hc:(((r.Orders.take i).map (·.Name)).length + 1) * 16 ≤ 140737488355328:=by simp; omega
   simp only [gT,mN hi,if_true,eQ _ _ hi,Option.bind_some,b9 (show i < 9223372036854775807 by omega)]
   rw [if_pos hc,← NS (·.Name) r.Orders i hi]
  ·simp only [gT,oF,if_false,List.take_length]
 unfold pC
 simp only [l1,l2,l3,Option.bind_some]
def aJT (r:aA):Prop:=∀ i,i < r.Usances.length→(0 ≤ (el r.Usances i).From ∧ (el r.Usances i).From < r.Cities.length) ∧ (0 ≤ (el r.Usances i).To ∧ (el r.Usances i).To < r.Cities.length) ∧ 1 ≤ (el r.Usances i).Days ∧ (el r.Usances i).Days ≤ 20000
def aJx (r:aA):Prop:=∀ i,i < r.Halts.length→(0 ≤ (el r.Halts i).Order ∧ (el r.Halts i).Order < r.Orders.length) ∧ 0 ≤ (el r.Halts i).From ∧ (el r.Halts i).From ≤ (el r.Halts i).To ∧ (el r.Halts i).To ≤ 100000
structure aK8 (r:aA):Prop where
 cities:r.Cities.length ≤ 40 ∧ ∀ i,i < r.Cities.length→aJR r (el r.Cities i)
 groups:r.Groups.length ≤ 20 ∧ ∀ i,i < r.Groups.length→0 ≤ (el r.Groups i).Grade ∧ (el r.Groups i).Grade < 10
 firms:r.Firms.length ≤ 200 ∧ ∀ i,i < r.Firms.length→(0 ≤ (el r.Firms i).City ∧ (el r.Firms i).City < r.Cities.length) ∧ 0 ≤ (el r.Firms i).Group ∧ (el r.Firms i).Group < r.Groups.length
 orders:r.Orders.length ≤ 20 ∧ ∀ i,i < r.Orders.length→aJs (el r.Orders i)
 usances:aJT r
 halts:r.Halts.length ≤ 20 ∧ aJx r
end Go.Proofs.Ytfhebiceipgdmaa
