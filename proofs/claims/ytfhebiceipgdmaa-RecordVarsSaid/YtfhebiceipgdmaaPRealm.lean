/- What the functions of package realm answer: always something; and what it means if Check says that a realm is right. -/
import Derived.Test.YtfhebiceipgdmaaFn
import Derived.Test.YtfhebiceipgdmaaTy
import Derived.Test.YtfhebiceipgdmaaVmG
set_option linter.unusedVariables false
set_option linter.unusedSimpArgs false
namespace Go.Proofs.Ytfhebiceipgdmaa
open Go.RowKit Vm
def Ris (l:List Int) (lo hi:Int):Prop:=∀ i,i < l.length→lo ≤ el l i ∧ el l i ≤ hi ∧ (0 < i→el l (i - 1) < el l i)
structure FewL (r:GRealm):Prop where
 cur:r.Currencies.length < 50
 cit:r.Cities.length < 50
 grp:r.Groups.length < 50
 frm:r.Firms.length < 210
 ord:r.Orders.length < 50
 usa:r.Usances.length < 110
 rat:r.Rates.length < 110
 hal:r.Halts.length < 50
 cityL:∀ i,i < r.Cities.length→(el r.Cities i).Feasts.length ≤ 70 ∧ (el r.Cities i).Shut.length ≤ 210 ∧ (el r.Cities i).Rest.length ≤ 8
 orderL:∀ i,i < r.Orders.length→(el r.Orders i).Choices.length ≤ 40 ∧ (el r.Orders i).Rules.length ≤ 40
structure BigL (r:GRealm):Prop where
 cur:r.Currencies.length < 100000000000000
 cit:r.Cities.length < 6000000000000
 grp:r.Groups.length < 100000000000000
 frm:r.Firms.length < 6000000000000
 ord:r.Orders.length < 6000000000000
 usa:r.Usances.length < 100000000000000
 rat:r.Rates.length < 100000000000000
 hal:r.Halts.length < 100000000000000
 cityL:∀ i,i < r.Cities.length→(el r.Cities i).Feasts.length < 100000000000000 ∧ (el r.Cities i).Shut.length < 100000000000000 ∧ (el r.Cities i).Rest.length < 100000000000000
 orderL:∀ i,i < r.Orders.length→(el r.Orders i).Choices.length < 6000000000000 ∧ (el r.Orders i).Rules.length < 6000000000000
theorem few_spec (r:GRealm):∃ b,mallongeref09_Few r = some b ∧ (b = true→FewL r):=by
 have l1:∃ x,mallongeref09_Few_l1 r 0 = some x ∧ (x = .inl ()→∀ i,i < r.Cities.length→i < 50→(el r.Cities i).Feasts.length ≤ 70 ∧ (el r.Cities i).Shut.length ≤ 210 ∧ (el r.Cities i).Rest.length ≤ 8):=by
  obtain ⟨x,hx,hq⟩:=iter_spec (step:=fun w=>mallongeref09_Few_l1_s r w) (fun i=>(i:Int)) (min r.Cities.length 50) (fun i=>(el r.Cities i).Feasts.length ≤ 70 ∧ (el r.Cities i).Shut.length ≤ 210 ∧ (el r.Cities i).Rest.length ≤ 8) (fun x=>x = .inl ()→∀ i,i < r.Cities.length→i < 50→(el r.Cities i).Feasts.length ≤ 70 ∧ (el r.Cities i).Shut.length ≤ 210 ∧ (el r.Cities i).Rest.length ≤ 8) (by
   intro i hi
   have hi1:i < r.Cities.length:=by omega
   have hi2:i < 50:=by omega
   have hi3:(i:Int) < 50:=by omega
   simp only [mallongeref09_Few_l1_s,lt_t hi1,if_true,at_el _ _ hi1,Option.bind_some,wrap_succ (show i < 9223372036854775807 by omega),decide_eq_true_eq,hi3]
   by_cases h1:((el r.Cities i).Feasts.length:Int) > 70
   ·exact .inr ⟨.inr (),by simp [h1],fun _ h=>by cases h⟩
   by_cases h2:((el r.Cities i).Shut.length:Int) > 210
   ·exact .inr ⟨.inr (),by simp [h1,h2],fun _ h=>by cases h⟩
   by_cases h3:((el r.Cities i).Rest.length:Int) > 8
   ·exact .inr ⟨.inr (),by simp [h1,h2,h3],fun _ h=>by cases h⟩
   ·exact .inl ⟨by simp [h1,h2,h3],by omega,by omega,by omega⟩) (by
   refine ⟨.inl (),?_,fun h _ i h1 h2=>h i (by omega)⟩
   simp only [mallongeref09_Few_l1_s,decide_eq_true_eq]
   by_cases h:((min r.Cities.length 50:Nat):Int) < (r.Cities.length:Int)
   ·rw [if_pos h,if_neg (by omega)]
   ·rw [if_neg h])
  exact ⟨x,hx,hq⟩
 have l2:∃ x,mallongeref09_Few_l2 r 0 = some x ∧ (x = .inl ()→∀ i,i < r.Orders.length→i < 50→(el r.Orders i).Choices.length ≤ 40 ∧ (el r.Orders i).Rules.length ≤ 40):=by
  obtain ⟨x,hx,hq⟩:=iter_spec (step:=fun w=>mallongeref09_Few_l2_s r w) (fun i=>(i:Int)) (min r.Orders.length 50) (fun i=>(el r.Orders i).Choices.length ≤ 40 ∧ (el r.Orders i).Rules.length ≤ 40) (fun x=>x = .inl ()→∀ i,i < r.Orders.length→i < 50→(el r.Orders i).Choices.length ≤ 40 ∧ (el r.Orders i).Rules.length ≤ 40) (by
   intro i hi
   have hi1:i < r.Orders.length:=by omega
   have hi2:i < 50:=by omega
   have hi3:(i:Int) < 50:=by omega
   simp only [mallongeref09_Few_l2_s,lt_t hi1,if_true,at_el _ _ hi1,Option.bind_some,wrap_succ (show i < 9223372036854775807 by omega),decide_eq_true_eq,hi3]
   by_cases h1:((el r.Orders i).Choices.length:Int) > 40
   ·exact .inr ⟨.inr (),by simp [h1],fun _ h=>by cases h⟩
   by_cases h2:((el r.Orders i).Rules.length:Int) > 40
   ·exact .inr ⟨.inr (),by simp [h1,h2],fun _ h=>by cases h⟩
   ·exact .inl ⟨by simp [h1,h2],by omega,by omega⟩) (by
   refine ⟨.inl (),?_,fun h _ i h1 h2=>h i (by omega)⟩
   simp only [mallongeref09_Few_l2_s,decide_eq_true_eq]
   by_cases h:((min r.Orders.length 50:Nat):Int) < (r.Orders.length:Int)
   ·rw [if_pos h,if_neg (by omega)]
   ·rw [if_neg h])
  exact ⟨x,hx,hq⟩
 obtain ⟨x,hx,qx⟩:=l1
 obtain ⟨y,hy,qy⟩:=l2
 unfold mallongeref09_Few
 rw [hx,hy]
 cases x with
 | inr u=>exact ⟨false,rfl,fun h=>by cases h⟩
 | inl u =>
  cases y with
  | inr u=>exact ⟨false,rfl,fun h=>by cases h⟩
  | inl v =>
   simp only [Option.bind_some,Sum.elim_inl,decide_eq_true_eq]
   by_cases h1:(r.Currencies.length:Int) < 50
   ·by_cases h2:(r.Cities.length:Int) < 50
    ·by_cases h3:(r.Groups.length:Int) < 50
     ·by_cases h4:(r.Firms.length:Int) < 210
      ·by_cases h5:(r.Orders.length:Int) < 50
       ·by_cases h6:(r.Usances.length:Int) < 110
        ·by_cases h7:(r.Rates.length:Int) < 110
         ·refine ⟨decide ((r.Halts.length:Int) < 50),by simp [h1,h2,h3,h4,h5,h6,h7],fun h=>?_⟩
          simp only [decide_eq_true_eq] at h
          exact ⟨by omega,by omega,by omega,by omega,by omega,by omega,by omega,by omega,fun i hi=>qx rfl i hi (by omega),fun i hi=>qy rfl i hi (by omega)⟩
         ·exact ⟨false,by simp [h1,h2,h3,h4,h5,h6,h7],fun h=>by cases h⟩
        ·exact ⟨false,by simp [h1,h2,h3,h4,h5,h6],fun h=>by cases h⟩
       ·exact ⟨false,by simp [h1,h2,h3,h4,h5],fun h=>by cases h⟩
      ·exact ⟨false,by simp [h1,h2,h3,h4],fun h=>by cases h⟩
     ·exact ⟨false,by simp [h1,h2,h3],fun h=>by cases h⟩
    ·exact ⟨false,by simp [h1,h2],fun h=>by cases h⟩
   ·exact ⟨false,by simp [h1],fun h=>by cases h⟩
structure FineC (r:GRealm) (c:GCity):Prop where
 feasts:c.Feasts.length ≤ 60
 shut:c.Shut.length ≤ 200
 order:0 ≤ c.Order ∧ c.Order < r.Orders.length
 cur:0 ≤ c.Currency ∧ c.Currency < r.Currencies.length
 rest:Ris c.Rest 0 6
 feastsR:Ris c.Feasts 101 1231
 shutR:Ris c.Shut 0 100000
 days:∀ i,i < c.Feasts.length→1 ≤ (el c.Feasts i).tmod 100 ∧ (el c.Feasts i).tmod 100 ≤ 31
structure FineO (o:GOrder):Prop where
 by_:∀ i,i < o.Choices.length→0 ≤ (el o.Choices i).By ∧ (el o.Choices i).By < 5
 ask:Ris (o.Choices.map (·.Ask)) 0 21
 rules:Ris (o.Rules.map (·.Ask)) 0 21
def FineU (r:GRealm):Prop:=∀ i,i < r.Usances.length→(0 ≤ (el r.Usances i).From ∧ (el r.Usances i).From < r.Cities.length) ∧ (0 ≤ (el r.Usances i).To ∧ (el r.Usances i).To < r.Cities.length) ∧ 1 ≤ (el r.Usances i).Days ∧ (el r.Usances i).Days ≤ 20000
def FineH (r:GRealm):Prop:=∀ i,i < r.Halts.length→(0 ≤ (el r.Halts i).Order ∧ (el r.Halts i).Order < r.Orders.length) ∧ 0 ≤ (el r.Halts i).From ∧ (el r.Halts i).From ≤ (el r.Halts i).To ∧ (el r.Halts i).To ≤ 100000
structure RightR (r:GRealm):Prop where
 cities:r.Cities.length ≤ 40 ∧ ∀ i,i < r.Cities.length→FineC r (el r.Cities i)
 groups:r.Groups.length ≤ 20 ∧ ∀ i,i < r.Groups.length→0 ≤ (el r.Groups i).Grade ∧ (el r.Groups i).Grade < 10
 firms:r.Firms.length ≤ 200 ∧ ∀ i,i < r.Firms.length→(0 ≤ (el r.Firms i).City ∧ (el r.Firms i).City < r.Cities.length) ∧ 0 ≤ (el r.Firms i).Group ∧ (el r.Firms i).Group < r.Groups.length
 orders:r.Orders.length ≤ 20 ∧ ∀ i,i < r.Orders.length→FineO (el r.Orders i)
 usances:FineU r
 halts:r.Halts.length ≤ 20 ∧ FineH r
end Go.Proofs.Ytfhebiceipgdmaa
