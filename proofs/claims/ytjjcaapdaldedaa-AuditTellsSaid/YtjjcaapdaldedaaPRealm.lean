/- What the functions of package realm answer: always something; and what it means if Check says that a realm is right. -/
import Derived.Test.YtjjcaapdaldedaaFn
import Derived.Test.YtjjcaapdaldedaaTy
import Derived.Test.YtjjcaapdaldedaaVmG
set_option linter.unusedVariables false
set_option linter.unusedSimpArgs false
namespace Go.Proofs.Ytjjcaapdaldedaa
open Go.RowKit Vm
theorem EF (a b:Int):iO a b = some (decide (0 <= a ∧ a < b)):=by
 unfold iO
 by_cases h:0 <= a <;> simp [h]
theorem CV (s:ByteArray) (p x:Int) (b:Bool):∃ r,fI s p x b = some r:=by
 unfold fI
 repeat' split
 all_goals exact ⟨_,rfl⟩
theorem ZQ (s:ByteArray) (hs:Ws s):∃ b,oK s = some b:=by
 unfold oK
 split
 ·exact ⟨_,rfl⟩
 split
 ·exact ⟨_,rfl⟩
 rename_i h20
 have hl:(jL s).length = s.size:=by simp [jL]
 obtain ⟨x,hx,_⟩:=lD (step:=fun w=>eF s w) (fun i=>(i:Int)) (jL s).length (fun _=>True) (fun _=>True) (by
  intro i hi
  simp only [eF,hZ hi,if_true,bQ _ _ hi,Option.bind_some,aS (show i < 9223372036854775807 by rw [hl] at hi; unfold Ws at hs; omega)]
  repeat' split
  all_goals
   first
   | (obtain ⟨r,hr⟩:=CV s i (el (jL s) i) true; rw [hr]; cases r <;> simp; done)
   | (obtain ⟨r,hr⟩:=CV s i (el (jL s) i) (decide (el (jL s) i <= 90)); rw [hr]; cases r <;> simp; done)
   | (obtain ⟨r,hr⟩:=CV s i (el (jL s) i) false; rw [hr]; cases r <;> simp; done)) (by
  refine ⟨.inl (),?_,fun _=>trivial⟩
  simp only [eF,jG,if_false])
 have hx' : rU s 0 = some x:=hx
 rw [hx']
 cases x <;> exact ⟨_,rfl⟩
theorem YX (l:List ByteArray) (s:ByteArray) (hl:l.length < 9223372036854775807):∃ b,bX l s = some b:=by
 unfold bX
 obtain ⟨x,hx,_⟩:=lD (step:=fun w=>bA l s w) (fun i=>(i:Int)) l.length (fun _=>True) (fun _=>True) (by
  intro i hi
  simp only [bA,hZ hi,if_true,bQ _ _ hi,Option.bind_some,aS (show i < 9223372036854775807 by omega)]
  split <;> simp) (by
  refine ⟨.inl (),?_,fun _=>trivial⟩
  simp only [bA,jG,if_false])
 have hx' : fK l s 0 = some x:=hx
 rw [hx']
 cases x <;> exact ⟨_,rfl⟩
theorem TW (l:List ByteArray) (s:ByteArray) (hl:l.length < 9223372036854775807):∃ b,bP l s = some b:=by
 unfold bP
 obtain ⟨b,hb⟩:=YX l s hl
 rw [hb]
 exact ⟨_,rfl⟩
theorem aAu (l:List ByteArray) (i:Nat) (hi:i < l.length) (hl:l.length < 9223372036854775807) (hw:∀ x ∈ l,Ws x):∃ e,iN l i = some e:=by
 unfold iN
 rw [bQ l i hi]
 obtain ⟨b,hb⟩:=ZQ (el l i) (hw _ (JG l i hi))
 simp only [Option.bind_some,hb]
 split
 ·exact ⟨_,rfl⟩
 ·rw [if_pos ⟨Int.le_refl _,by omega,by omega⟩]
  obtain ⟨c,hc⟩:=TW (n7 l 0 i) (el l i) (by simp [n7]; omega)
  rw [hc]
  simp only [Option.bind_some]
  split <;> exact ⟨_,rfl⟩
def Ris (l:List Int) (lo hi:Int):Prop:=∀ i,i < l.length->lo <= el l i ∧ el l i <= hi ∧ (0 < i->el l (i - 1) < el l i)
theorem CQ (l:List Int) (lo hi:Int) (hl:l.length < 9223372036854775807):∃ b,iI l lo hi = some b ∧ (b = true->Ris l lo hi):=by
 unfold iI
 obtain ⟨x,hx,hq⟩:=lD (step:=fun w=>eE l lo hi w) (fun i=>(i:Int)) l.length (fun i=>lo <= el l i ∧ el l i <= hi ∧ (0 < i->el l (i - 1) < el l i)) (fun x=>x = .inl ()->Ris l lo hi) (by
  intro i hi'
  simp only [eE,hZ hi',if_true,bQ _ _ hi',Option.bind_some,aS (show i < 9223372036854775807 by omega)]
  by_cases h1:el l i < lo
  ·exact .inr ⟨.inr (),by simp [h1],fun _ h=>by cases h⟩
  by_cases h2:el l i > hi
  ·exact .inr ⟨.inr (),by simp [h1,h2],fun _ h=>by cases h⟩
  by_cases h3:0 < i
  ·have e1:IntKind.wrap .i64 ((i:Int) - 1) = ((i - 1:Nat):Int):=by rw [iA (by omega) (by omega)]; omega
   rw [e1,bQ l (i - 1) (by omega)]
   by_cases h4:el l i <= el l (i - 1)
   ·exact .inr ⟨.inr (),by simp [h1,h2,h4]; omega,fun _ h=>by cases h⟩
   ·refine .inl ⟨by simp [h1,h2,h4],by omega,by omega,fun _=>by omega⟩
  ·refine .inl ⟨by simp [h1,h2]; omega,by omega,by omega,fun h=>absurd h h3⟩) (by
  refine ⟨.inl (),?_,fun h _=>fun i hi=>h i hi⟩
  simp only [eE,jG,if_false])
 have hx' : rR l lo hi 0 = some x:=hx
 rw [hx']
 cases x with
 | inl u=>exact ⟨true,rfl,fun _=>hq rfl⟩
 | inr u=>exact ⟨false,rfl,fun h=>by cases h⟩
structure UV (r:aA):Prop where
 cur:r.Currencies.length < 50
 cit:r.Cities.length < 50
 grp:r.Groups.length < 50
 frm:r.Firms.length < 210
 ord:r.Orders.length < 50
 usa:r.Usances.length < 110
 rat:r.Rates.length < 110
 hal:r.Halts.length < 50
 cityL:∀ i,i < r.Cities.length->(el r.Cities i).Feasts.length <= 70 ∧ (el r.Cities i).Shut.length <= 210 ∧ (el r.Cities i).Rest.length <= 8
 orderL:∀ i,i < r.Orders.length->(el r.Orders i).Choices.length <= 40 ∧ (el r.Orders i).Rules.length <= 40
structure aDp (r:aA):Prop where
 cur:r.Currencies.length < 100000000000000
 cit:r.Cities.length < 6000000000000
 grp:r.Groups.length < 100000000000000
 frm:r.Firms.length < 6000000000000
 ord:r.Orders.length < 6000000000000
 usa:r.Usances.length < 100000000000000
 rat:r.Rates.length < 100000000000000
 hal:r.Halts.length < 100000000000000
 cityL:∀ i,i < r.Cities.length->(el r.Cities i).Feasts.length < 100000000000000 ∧ (el r.Cities i).Shut.length < 100000000000000 ∧ (el r.Cities i).Rest.length < 100000000000000
 orderL:∀ i,i < r.Orders.length->(el r.Orders i).Choices.length < 6000000000000 ∧ (el r.Orders i).Rules.length < 6000000000000
theorem UV.big {r:aA} (f:UV r):aDp r where
 cur:=by have:=f.cur; omega
 cit:=by have:=f.cit; omega
 grp:=by have:=f.grp; omega
 frm:=by have:=f.frm; omega
 ord:=by have:=f.ord; omega
 usa:=by have:=f.usa; omega
 rat:=by have:=f.rat; omega
 hal:=by have:=f.hal; omega
 cityL:=fun i hi=>by have:=f.cityL i hi; omega
 orderL:=fun i hi=>by have:=f.orderL i hi; omega
theorem aHE (r:aA):∃ b,m7 r = some b ∧ (b = true->UV r):=by
 have l1:∃ x,qC r 0 = some x ∧ (x = .inl ()->∀ i,i < r.Cities.length->i < 50->(el r.Cities i).Feasts.length <= 70 ∧ (el r.Cities i).Shut.length <= 210 ∧ (el r.Cities i).Rest.length <= 8):=by
  obtain ⟨x,hx,hq⟩:=lD (step:=fun w=>fY r w) (fun i=>(i:Int)) (min r.Cities.length 50) (fun i=>(el r.Cities i).Feasts.length <= 70 ∧ (el r.Cities i).Shut.length <= 210 ∧ (el r.Cities i).Rest.length <= 8) (fun x=>x = .inl ()->∀ i,i < r.Cities.length->i < 50->(el r.Cities i).Feasts.length <= 70 ∧ (el r.Cities i).Shut.length <= 210 ∧ (el r.Cities i).Rest.length <= 8) (by
   intro i hi
   have hi1:i < r.Cities.length:=by omega
   have hi2:i < 50:=by omega
   have hi3:(i:Int) < 50:=by omega
   simp only [fY,hZ hi1,if_true,bQ _ _ hi1,Option.bind_some,aS (show i < 9223372036854775807 by omega),decide_eq_true_eq,hi3]
   by_cases h1:((el r.Cities i).Feasts.length:Int) > 70
   ·exact .inr ⟨.inr (),by simp [h1],fun _ h=>by cases h⟩
   by_cases h2:((el r.Cities i).Shut.length:Int) > 210
   ·exact .inr ⟨.inr (),by simp [h1,h2],fun _ h=>by cases h⟩
   by_cases h3:((el r.Cities i).Rest.length:Int) > 8
   ·exact .inr ⟨.inr (),by simp [h1,h2,h3],fun _ h=>by cases h⟩
   ·exact .inl ⟨by simp [h1,h2,h3],by omega,by omega,by omega⟩) (by
   refine ⟨.inl (),?_,fun h _ i h1 h2=>h i (by omega)⟩
   simp only [fY,decide_eq_true_eq]
   by_cases h:((min r.Cities.length 50:Nat):Int) < (r.Cities.length:Int)
   ·rw [if_pos h,if_neg (by omega)]
   ·rw [if_neg h])
  exact ⟨x,hx,hq⟩
 have l2:∃ x,pQ r 0 = some x ∧ (x = .inl ()->∀ i,i < r.Orders.length->i < 50->(el r.Orders i).Choices.length <= 40 ∧ (el r.Orders i).Rules.length <= 40):=by
  obtain ⟨x,hx,hq⟩:=lD (step:=fun w=>fZ r w) (fun i=>(i:Int)) (min r.Orders.length 50) (fun i=>(el r.Orders i).Choices.length <= 40 ∧ (el r.Orders i).Rules.length <= 40) (fun x=>x = .inl ()->∀ i,i < r.Orders.length->i < 50->(el r.Orders i).Choices.length <= 40 ∧ (el r.Orders i).Rules.length <= 40) (by
   intro i hi
   have hi1:i < r.Orders.length:=by omega
   have hi2:i < 50:=by omega
   have hi3:(i:Int) < 50:=by omega
   simp only [fZ,hZ hi1,if_true,bQ _ _ hi1,Option.bind_some,aS (show i < 9223372036854775807 by omega),decide_eq_true_eq,hi3]
   by_cases h1:((el r.Orders i).Choices.length:Int) > 40
   ·exact .inr ⟨.inr (),by simp [h1],fun _ h=>by cases h⟩
   by_cases h2:((el r.Orders i).Rules.length:Int) > 40
   ·exact .inr ⟨.inr (),by simp [h1,h2],fun _ h=>by cases h⟩
   ·exact .inl ⟨by simp [h1,h2],by omega,by omega⟩) (by
   refine ⟨.inl (),?_,fun h _ i h1 h2=>h i (by omega)⟩
   simp only [fZ,decide_eq_true_eq]
   by_cases h:((min r.Orders.length 50:Nat):Int) < (r.Orders.length:Int)
   ·rw [if_pos h,if_neg (by omega)]
   ·rw [if_neg h])
  exact ⟨x,hx,hq⟩
 obtain ⟨x,hx,qx⟩:=l1
 obtain ⟨y,hy,qy⟩:=l2
 unfold m7
 rw [hx,hy]
 cases x with
 | inr u=>exact ⟨false,rfl,fun h=>by cases h⟩
 | inl u =>
  cases y with
  | inr u=>exact ⟨false,rfl,fun h=>by cases h⟩
  | inl v =>
   simp only [Option.bind_some,Sum.elim_inl,decide_eq_true_eq]
   by_cases h1:(r.Currencies.length:Int) < 50
   ·by_cases h2:(r.Cities.length:Int) < 50
    ·by_cases h3:(r.Groups.length:Int) < 50
     ·by_cases h4:(r.Firms.length:Int) < 210
      ·by_cases h5:(r.Orders.length:Int) < 50
       ·by_cases h6:(r.Usances.length:Int) < 110
        ·by_cases h7:(r.Rates.length:Int) < 110
         ·refine ⟨decide ((r.Halts.length:Int) < 50),by simp [h1,h2,h3,h4,h5,h6,h7],fun h=>?_⟩
          simp only [decide_eq_true_eq] at h
          exact ⟨by omega,by omega,by omega,by omega,by omega,by omega,by omega,by omega,fun i hi=>qx rfl i hi (by omega),fun i hi=>qy rfl i hi (by omega)⟩
         ·exact ⟨false,by simp [h1,h2,h3,h4,h5,h6,h7],fun h=>by cases h⟩
        ·exact ⟨false,by simp [h1,h2,h3,h4,h5,h6],fun h=>by cases h⟩
       ·exact ⟨false,by simp [h1,h2,h3,h4,h5],fun h=>by cases h⟩
      ·exact ⟨false,by simp [h1,h2,h3,h4],fun h=>by cases h⟩
     ·exact ⟨false,by simp [h1,h2,h3],fun h=>by cases h⟩
    ·exact ⟨false,by simp [h1,h2],fun h=>by cases h⟩
   ·exact ⟨false,by simp [h1],fun h=>by cases h⟩
theorem WX (r:aA) (c:a7) (h:c.Feasts.length < 9223372036854775807):∃ x,vE r c 0 = some x ∧ (x = .inl ()->∀ i,i < c.Feasts.length->1 <= (el c.Feasts i).tmod 100 ∧ (el c.Feasts i).tmod 100 <= 31):=by
 obtain ⟨x,hx,hq⟩:=lD (step:=fun w=>gM r c w) (fun i=>(i:Int)) c.Feasts.length (fun i=>1 <= (el c.Feasts i).tmod 100 ∧ (el c.Feasts i).tmod 100 <= 31) (fun x=>x = .inl ()->∀ i,i < c.Feasts.length->1 <= (el c.Feasts i).tmod 100 ∧ (el c.Feasts i).tmod 100 <= 31) (by
  intro i hi
  simp only [gM,hZ hi,if_true,bQ _ _ hi,Option.bind_some,aS (show i < 9223372036854775807 by omega),decide_eq_true_eq]
  by_cases h1:(el c.Feasts i).tmod 100 < 1
  ·exact .inr ⟨.inr (),by simp [h1],fun _ h=>by cases h⟩
  by_cases h2:(el c.Feasts i).tmod 100 > 31
  ·exact .inr ⟨.inr (),by simp [h1,h2],fun _ h=>by cases h⟩
  ·exact .inl ⟨by simp [h1,h2],by omega,by omega⟩) (by
  refine ⟨.inl (),?_,fun h _=>h⟩
  simp only [gM,jG,if_false])
 exact ⟨x,hx,hq⟩
structure aI0 (r:aA) (c:a7):Prop where
 feasts:c.Feasts.length <= 60
 shut:c.Shut.length <= 200
 order:0 <= c.Order ∧ c.Order < r.Orders.length
 cur:0 <= c.Currency ∧ c.Currency < r.Currencies.length
 rest:Ris c.Rest 0 6
 feastsR:Ris c.Feasts 101 1231
 shutR:Ris c.Shut 0 100000
 days:∀ i,i < c.Feasts.length->1 <= (el c.Feasts i).tmod 100 ∧ (el c.Feasts i).tmod 100 <= 31
theorem aGu (r:aA) (c:a7) (h1:c.Feasts.length < 9223372036854775807) (h2:c.Shut.length < 9223372036854775807) (h3:c.Rest.length < 9223372036854775807):∃ b,sK r c = some b ∧ (b = true->aI0 r c):=by
 unfold sK
 obtain ⟨x,hx,hq⟩:=WX r c h1
 rw [hx]
 obtain ⟨b1,e1,q1⟩:=CQ c.Rest 0 6 h3
 obtain ⟨b2,e2,q2⟩:=CQ c.Feasts 101 1231 h1
 obtain ⟨b3,e3,q3⟩:=CQ c.Shut 0 100000 h2
 cases x with
 | inr u=>exact ⟨false,rfl,fun h=>by cases h⟩
 | inl u =>
  simp only [Option.bind_some,Sum.elim_inl,EF,e1,e2,e3,decide_eq_true_eq]
  by_cases g1:(c.Feasts.length:Int) > 60
  ·exact ⟨false,by simp [g1],fun h=>by cases h⟩
  by_cases g2:(c.Shut.length:Int) > 200
  ·exact ⟨false,by simp [g1,g2],fun h=>by cases h⟩
  by_cases g3:0 <= c.Order ∧ c.Order < (r.Orders.length:Int)
  ·by_cases g4:0 <= c.Currency ∧ c.Currency < (r.Currencies.length:Int)
   ·cases b1 with
    | false=>exact ⟨false,by simp [g1,g2,g3,g4],fun h=>by cases h⟩
    | true=>cases b2 with
     | false=>exact ⟨false,by simp [g1,g2,g3,g4],fun h=>by cases h⟩
     | true =>
      refine ⟨b3,by simp [g1,g2,g3,g4],fun h=>⟨by omega,by omega,g3,g4,q1 rfl,q2 rfl,q3 h,hq rfl⟩⟩
   ·exact ⟨false,by simp [g1,g2,g3,g4],fun h=>by cases h⟩
  ·exact ⟨false,by simp [g1,g2,g3],fun h=>by cases h⟩
structure aJO (o:aG):Prop where
 by_:∀ i,i < o.Choices.length->0 <= (el o.Choices i).By ∧ (el o.Choices i).By < 5
 ask:Ris (o.Choices.map (·.Ask)) 0 21
 rules:Ris (o.Rules.map (·.Ask)) 0 21
theorem QF {α β:Type} [Inhabited α] (f:α->β) (l:List α) (i:Nat) (h:i < l.length):(l.take i).map f ++ [f (el l i)] = (l.take (i + 1)).map f:=by
 rw [oO l i h,← List.map_singleton (f:=f),← List.map_append,List.take_append_getElem h]
theorem aB2 (o:aG) (h1:o.Choices.length <= 40) (h2:o.Rules.length <= 40):∃ b,qD o = some b ∧ (b = true->aJO o):=by
 have l1:∃ x,tN o 0 [] = some x ∧ (∀ l,x = .inl l->l = o.Choices.map (·.Ask) ∧ ∀ i,i < o.Choices.length->0 <= (el o.Choices i).By ∧ (el o.Choices i).By < 5):=by
  obtain ⟨x,hx,hq⟩:=lD (step:=fun w=>fM o w.1 w.2) (fun i=>((i:Int),(o.Choices.take i).map (·.Ask))) o.Choices.length (fun i=>0 <= (el o.Choices i).By ∧ (el o.Choices i).By < 5) (fun x=>∀ l,x = .inl l->l = o.Choices.map (·.Ask) ∧ ∀ i,i < o.Choices.length->0 <= (el o.Choices i).By ∧ (el o.Choices i).By < 5) (by
   intro i hi
   have hc:(((o.Choices.take i).map (·.Ask)).length + 1) * 8 <= 140737488355328:=by simp; omega
   simp only [fM,hZ hi,if_true,bQ _ _ hi,Option.bind_some,aS (show i < 9223372036854775807 by omega),EF]
   rw [if_pos hc]
   by_cases g:0 <= (el o.Choices i).By ∧ (el o.Choices i).By < 5
   ·refine .inl ⟨?_,g⟩
    rw [← QF (·.Ask) o.Choices i hi]
    simp [g]
   ·exact .inr ⟨.inr (),by simp [g],fun _ l h=>by cases h⟩) (by
   refine ⟨.inl (o.Choices.map (·.Ask)),?_,fun h l e=>⟨by cases e; rfl,h⟩⟩
   simp only [fM,jG,if_false,List.take_length])
  exact ⟨x,hx,hq⟩
 have l2:∀ z,tM o z 0 [] = some (o.Rules.map (·.Ask)):=by
  intro z
  refine (g8 (step:=fun w=>fN o z w.1 w.2) (fun i=>((i:Int),(o.Rules.take i).map (·.Ask))) o.Rules.length (o.Rules.map (·.Ask)) ?_ ?_)
  ·intro i hi
   have hc:(((o.Rules.take i).map (·.Ask)).length + 1) * 8 <= 140737488355328:=by simp; omega
   simp only [fN,hZ hi,if_true,bQ _ _ hi,Option.bind_some,aS (show i < 9223372036854775807 by omega)]
   rw [if_pos hc,← QF (·.Ask) o.Rules i hi]
  ·simp only [fN,jG,if_false,List.take_length]
 unfold qD
 obtain ⟨x,hx,hq⟩:=l1
 rw [hx]
 cases x with
 | inr u=>exact ⟨false,rfl,fun h=>by cases h⟩
 | inl l =>
  obtain ⟨rfl,hb⟩:=hq l rfl
  obtain ⟨b1,e1,q1⟩:=CQ (o.Choices.map (·.Ask)) 0 21 (by simp; omega)
  obtain ⟨b2,e2,q2⟩:=CQ (o.Rules.map (·.Ask)) 0 21 (by simp; omega)
  simp only [Option.bind_some,Sum.elim_inl,l2,e1,e2]
  cases b1 with
  | false=>exact ⟨false,by simp,fun h=>by cases h⟩
  | true=>exact ⟨b2,by simp,fun h=>⟨hb,q1 rfl,q2 h⟩⟩
theorem aBE (r:aA) (f:aDp r):vN r = some (r.Cities.map (·.Name),r.Firms.map (·.Name),r.Orders.map (·.Name)):=by
 have h1:=f.cit
 have h2:=f.frm
 have h3:=f.ord
 have l1:xX r 0 [] = some (r.Cities.map (·.Name)):=by
  refine (g8 (step:=fun w=>j9 r w.1 w.2) (fun i=>((i:Int),(r.Cities.take i).map (·.Name))) r.Cities.length _ ?_ ?_)
  ·intro i hi
   have hc:(((r.Cities.take i).map (·.Name)).length + 1) * 16 <= 140737488355328:=by simp; omega
   simp only [j9,hZ hi,if_true,bQ _ _ hi,Option.bind_some,aS (show i < 9223372036854775807 by omega)]
   rw [if_pos hc,← QF (·.Name) r.Cities i hi]
  ·simp only [j9,jG,if_false,List.take_length]
 have l2:∀ z,yB r z 0 [] = some (r.Firms.map (·.Name)):=by
  intro z
  refine (g8 (step:=fun w=>kS r z w.1 w.2) (fun i=>((i:Int),(r.Firms.take i).map (·.Name))) r.Firms.length _ ?_ ?_)
  ·intro i hi
   have hc:(((r.Firms.take i).map (·.Name)).length + 1) * 16 <= 140737488355328:=by simp; omega
   simp only [kS,hZ hi,if_true,bQ _ _ hi,Option.bind_some,aS (show i < 9223372036854775807 by omega)]
   rw [if_pos hc,← QF (·.Name) r.Firms i hi]
  ·simp only [kS,jG,if_false,List.take_length]
 have l3:∀ z z',xZ r z z' 0 [] = some (r.Orders.map (·.Name)):=by
  intro z z'
  refine (g8 (step:=fun w=>kY r z z' w.1 w.2) (fun i=>((i:Int),(r.Orders.take i).map (·.Name))) r.Orders.length _ ?_ ?_)
  ·intro i hi
   have hc:(((r.Orders.take i).map (·.Name)).length + 1) * 16 <= 140737488355328:=by simp; omega
   simp only [kY,hZ hi,if_true,bQ _ _ hi,Option.bind_some,aS (show i < 9223372036854775807 by omega)]
   rw [if_pos hc,← QF (·.Name) r.Orders i hi]
  ·simp only [kY,jG,if_false,List.take_length]
 unfold vN
 simp only [l1,l2,l3,Option.bind_some]
theorem LS (l:List ByteArray) (hl:l.length < 9223372036854775807) (hw:∀ x ∈ l,Ws x) (step:Int->Option (Int ⊕ (Unit ⊕ Int))) (fine:Int->Option Bool)
  (hs:∀ p,step p = if decide (p < (l.length:Int)) = true then (iN l p).bind fun (r2:Int)=>if (r2 != 0) = true then some (.inr (.inr (r2))) else (fine p).bind fun (r3:Bool)=>if (!(r3)) = true then some (.inr (.inr (1))) else some (.inl (IntKind.wrap .i64 (p + 1))) else some (.inr (.inl ())))
  (F:Nat->Prop) (hf:∀ i,i < l.length->∃ b,fine (i:Int) = some b ∧ (b = true->F i)):∃ x,b8 step 0 = some x ∧ (x = .inl ()->∀ i,i < l.length->F i) ∧ ∀ e,x = .inr e->e ≠ 0:=by
 refine lD (step:=step) (fun i=>(i:Int)) l.length F (fun x=>(x = .inl ()->∀ i,i < l.length->F i) ∧ ∀ e,x = .inr e->e ≠ 0) ?_ ?_
 ·intro i hi
  obtain ⟨e,he⟩:=aAu l i hi hl hw
  obtain ⟨b,hb,hF⟩:=hf i hi
  rw [hs]
  simp only [hZ hi,if_true,he,hb,Option.bind_some,aS (show i < 9223372036854775807 by omega)]
  by_cases h0:e = 0
  ·cases b with
   | true=>exact .inl ⟨by simp [h0],hF rfl⟩
   | false=>exact .inr ⟨.inr 1,by simp [h0],fun _=>⟨(fun h=>nomatch h),fun e h=>by cases h; decide⟩⟩
  ·exact .inr ⟨.inr e,by simp [h0],fun _=>⟨(fun h=>nomatch h),fun e' h=>by cases h; exact h0⟩⟩
 ·refine ⟨.inl (),?_,fun h=>⟨fun _=>h,fun e h=>nomatch h⟩⟩
  rw [hs]
  simp only [jG,if_false]
theorem QK (l:List ByteArray) (most:Int) (F:Nat->Prop) {o:Option (Unit ⊕ Int)} (h:∃ x,o = some x ∧ (x = .inl ()->∀ i,i < l.length->F i) ∧ ∀ e,x = .inr e->e ≠ 0) :
  ∃ e,(if decide ((l.length:Int) > most) = true then some 6 else o.bind fun (r5:Unit ⊕ Int)=>Sum.elim (fun z6=>some (0:Int)) (fun z7=>some z7) r5) = some e ∧ (e = 0->(l.length:Int) <= most ∧ ∀ i,i < l.length->F i):=by
 obtain ⟨x,hx,h1,h2⟩:=h
 by_cases g:(l.length:Int) > most
 ·exact ⟨6,by simp [g],fun h=>by cases h⟩
 ·cases x with
  | inl u=>exact ⟨0,by simp [g,hx],fun _=>⟨by omega,h1 rfl⟩⟩
  | inr e=>exact ⟨e,by simp [g,hx],fun h=>absurd h (h2 e rfl)⟩
theorem aCd {α:Type} (f:α->ByteArray) (l:List α) (h:∀ x ∈ l,Ws (f x)):∀ s ∈ l.map f,Ws s:=by
 intro s hs
 obtain ⟨x,hx,rfl⟩:=List.mem_map.1 hs
 exact h x hx
theorem SF (r:aA) (p:Int) (x:aW) (h:r.Usances.length < 110):∃ z,pS r p x 0 = some z:=by
 obtain ⟨z,hz,_⟩:=lD (step:=fun w=>dR r p x w) (fun i=>(i:Int)) (n7 r.Usances 0 p).length (fun _=>True) (fun _=>True) (by
  intro i hi
  have:(n7 r.Usances 0 p).length <= r.Usances.length:=by simp [n7]; omega
  simp only [dR,hZ hi,if_true,bQ _ _ hi,Option.bind_some,aS (show i < 9223372036854775807 by omega)]
  repeat' split
  all_goals simp) (by
  refine ⟨.inl (),?_,fun _=>trivial⟩
  simp only [dR,jG,if_false])
 exact ⟨z,hz⟩
def aDS (r:aA):Prop:=∀ i,i < r.Usances.length->(0 <= (el r.Usances i).From ∧ (el r.Usances i).From < r.Cities.length) ∧ (0 <= (el r.Usances i).To ∧ (el r.Usances i).To < r.Cities.length) ∧ 1 <= (el r.Usances i).Days ∧ (el r.Usances i).Days <= 20000
theorem YR (r:aA) (h:r.Usances.length < 110):∃ e,mY r = some e ∧ (e = 0->aDS r):=by
 have l2:∃ x,uT r 0 = some x ∧ (x = .inl ()->aDS r) ∧ ∀ e,x = .inr e->e ≠ 0:=by
  obtain ⟨x,hx,hq⟩:=lD (step:=fun w=>dQ r w) (fun i=>(i:Int)) r.Usances.length (fun i=>(0 <= (el r.Usances i).From ∧ (el r.Usances i).From < r.Cities.length) ∧ (0 <= (el r.Usances i).To ∧ (el r.Usances i).To < r.Cities.length) ∧ 1 <= (el r.Usances i).Days ∧ (el r.Usances i).Days <= 20000) (fun x=>(x = .inl ()->aDS r) ∧ ∀ e,x = .inr e->e ≠ 0) (by
   intro i hi
   simp only [dQ,hZ hi,if_true,bQ _ _ hi,Option.bind_some,aS (show i < 9223372036854775807 by omega),EF,decide_eq_true_eq]
   by_cases g1:0 <= (el r.Usances i).From ∧ (el r.Usances i).From < r.Cities.length
   ·by_cases g2:0 <= (el r.Usances i).To ∧ (el r.Usances i).To < r.Cities.length
    ·by_cases g3:(el r.Usances i).Days < 1
     ·exact .inr ⟨.inr 1,by simp [g1,g2,g3],fun _=>⟨(fun h=>nomatch h),fun e h=>by cases h; decide⟩⟩
     by_cases g4:(el r.Usances i).Days > 20000
     ·exact .inr ⟨.inr 1,by simp [g1,g2,g3,g4],fun _=>⟨(fun h=>nomatch h),fun e h=>by cases h; decide⟩⟩
     obtain ⟨z,hz⟩:=SF r i (el r.Usances i) h
     have hok:B6 r.Usances.length 0 (i:Int):=⟨Int.le_refl _,by omega,by omega⟩
     cases z with
     | inl u=>exact .inl ⟨by simp [g1,g2,g3,g4,hok,hz],g1,g2,by omega,by omega⟩
     | inr u=>exact .inr ⟨.inr 5,by simp [g1,g2,g3,g4,hok,hz],fun _=>⟨(fun h=>nomatch h),fun e h=>by cases h; decide⟩⟩
    ·exact .inr ⟨.inr 1,by simp [g1,g2],fun _=>⟨(fun h=>nomatch h),fun e h=>by cases h; decide⟩⟩
   ·exact .inr ⟨.inr 1,by simp [g1],fun _=>⟨(fun h=>nomatch h),fun e h=>by cases h; decide⟩⟩) (by
   refine ⟨.inl (),?_,fun h=>⟨fun _=>h,fun e h=>nomatch h⟩⟩
   simp only [dQ,jG,if_false])
  exact ⟨x,hx,hq⟩
 obtain ⟨x,hx,h1,h2⟩:=l2
 unfold mY
 by_cases g:(r.Usances.length:Int) > 100
 ·exact ⟨6,by simp [g],fun h=>by cases h⟩
 ·cases x with
  | inl u=>exact ⟨0,by simp [g,hx],fun _=>h1 rfl⟩
  | inr e=>exact ⟨e,by simp [g,hx],fun h=>absurd h (h2 e rfl)⟩
def aEf (r:aA):Prop:=∀ i,i < r.Halts.length->(0 <= (el r.Halts i).Order ∧ (el r.Halts i).Order < r.Orders.length) ∧ 0 <= (el r.Halts i).From ∧ (el r.Halts i).From <= (el r.Halts i).To ∧ (el r.Halts i).To <= 100000
theorem aER (r:aA) (hr:r.Rates.length < 110) (hh:r.Halts.length < 50):∃ e,sL r = some e ∧ (e = 0->r.Halts.length <= 20 ∧ aEf r):=by
 have l1:∃ x,vI r 0 = some x:=by
  obtain ⟨x,hx,hq⟩:=lD (step:=fun w=>gO r w) (fun i=>(i:Int)) r.Rates.length (fun i=>True) (fun _=>True) (by
   intro i hi
   simp only [gO,hZ hi,if_true,bQ _ _ hi,Option.bind_some,aS (show i < 9223372036854775807 by omega),EF]
   repeat' split
   all_goals simp) (by
   refine ⟨.inl (),?_,fun _=>trivial⟩
   simp only [gO,jG,if_false])
  exact ⟨x,hx⟩
 have l2:∃ x,vA r 0 = some x ∧ (x = .inl ()->aEf r):=by
  obtain ⟨x,hx,hq⟩:=lD (step:=fun w=>gL r w) (fun i=>(i:Int)) r.Halts.length (fun i=>(0 <= (el r.Halts i).Order ∧ (el r.Halts i).Order < r.Orders.length) ∧ 0 <= (el r.Halts i).From ∧ (el r.Halts i).From <= (el r.Halts i).To ∧ (el r.Halts i).To <= 100000) (fun x=>x = .inl ()->aEf r) (by
   intro i hi
   simp only [gL,hZ hi,if_true,bQ _ _ hi,Option.bind_some,aS (show i < 9223372036854775807 by omega),EF,decide_eq_true_eq]
   by_cases g1:0 <= (el r.Halts i).Order ∧ (el r.Halts i).Order < r.Orders.length
   ·by_cases g2:(el r.Halts i).From < 0
    ·exact .inr ⟨.inr (),by simp [g1,g2],fun _ h=>by cases h⟩
    by_cases g3:(el r.Halts i).From > (el r.Halts i).To
    ·exact .inr ⟨.inr (),by simp [g1,g2,g3],fun _ h=>by cases h⟩
    by_cases g4:(el r.Halts i).To > 100000
    ·exact .inr ⟨.inr (),by simp [g1,g2,g3,g4],fun _ h=>by cases h⟩
    ·exact .inl ⟨by simp [g1,g2,g3,g4],g1,by omega,by omega,by omega⟩
   ·exact .inr ⟨.inr (),by simp [g1],fun _ h=>by cases h⟩) (by
   refine ⟨.inl (),?_,fun h _=>h⟩
   simp only [gL,jG,if_false])
  exact ⟨x,hx,hq⟩
 obtain ⟨x,hx⟩:=l1
 obtain ⟨y,hy,q⟩:=l2
 unfold sL
 by_cases g:(r.Rates.length:Int) > 100
 ·exact ⟨6,by simp [g],fun h=>by cases h⟩
 ·cases x with
  | inr u=>exact ⟨1,by simp [g,hx],fun h=>by cases h⟩
  | inl u =>
   by_cases g2:(r.Halts.length:Int) > 20
   ·exact ⟨6,by simp [g,hx,g2],fun h=>by cases h⟩
   ·cases y with
    | inr u=>exact ⟨1,by simp [g,hx,g2,hy],fun h=>by cases h⟩
    | inl u=>exact ⟨0,by simp [g,hx,g2,hy],fun _=>⟨by omega,q rfl⟩⟩
structure VB (r:aA):Prop where
 cities:r.Cities.length <= 40 ∧ ∀ i,i < r.Cities.length->aI0 r (el r.Cities i)
 groups:r.Groups.length <= 20 ∧ ∀ i,i < r.Groups.length->0 <= (el r.Groups i).Grade ∧ (el r.Groups i).Grade < 10
 firms:r.Firms.length <= 200 ∧ ∀ i,i < r.Firms.length->(0 <= (el r.Firms i).City ∧ (el r.Firms i).City < r.Cities.length) ∧ 0 <= (el r.Firms i).Group ∧ (el r.Firms i).Group < r.Groups.length
 orders:r.Orders.length <= 20 ∧ ∀ i,i < r.Orders.length->aJO (el r.Orders i)
 usances:aDS r
 halts:r.Halts.length <= 20 ∧ aEf r
theorem aDF (r:aA) (f:UV r) (w:aA.wf r):∃ e,iL r = some e ∧ (e = 0->VB r):=by
 obtain ⟨w1,w2,w3,w4,w5,w6,w7,w8⟩:=w
 have a1:∃ e,mQ r.Currencies 8 = some e ∧ (e = 0->(r.Currencies.length:Int) <= 8 ∧ ∀ i,i < r.Currencies.length->True):=by
  unfold mQ
  refine QK r.Currencies 8 (fun _=>True) ?_
  exact LS r.Currencies (by have:=f.cur; omega) w1.2 (fun w=>k9 r.Currencies w) sD (fun p=>rfl) (fun _=>True) (fun i hi=>⟨true,rfl,fun _=>trivial⟩)
 have hcl:(r.Cities.map (·.Name)).length = r.Cities.length:=by simp
 have hfl:(r.Firms.map (·.Name)).length = r.Firms.length:=by simp
 have hol:(r.Orders.map (·.Name)).length = r.Orders.length:=by simp
 have a2:∃ e,mR (r.Cities.map (·.Name)) 40 r = some e ∧ (e = 0->((r.Cities.map (·.Name)).length:Int) <= 40 ∧ ∀ i,i < (r.Cities.map (·.Name)).length->aI0 r (el r.Cities i)):=by
  unfold mR
  refine QK (r.Cities.map (·.Name)) 40 _ ?_
  refine LS (r.Cities.map (·.Name)) (by have:=f.cit; omega) (aCd _ _ fun x hx=>(w2.2 x hx).1) (fun w=>lC (r.Cities.map (·.Name)) r w) (fun p=>iY p r) (fun p=>rfl) _ (fun i hi=>?_)
  rw [hcl] at hi
  obtain ⟨q1,q2,q3⟩:=f.cityL i hi
  obtain ⟨b,e1,e2⟩:=aGu r (el r.Cities i) (by omega) (by omega) (by omega)
  exact ⟨b,by simp only [iY,bQ _ _ hi,Option.bind_some,e1],e2⟩
 have a3:∃ e,mX (r.Firms.map (·.Name)) 200 r = some e ∧ (e = 0->((r.Firms.map (·.Name)).length:Int) <= 200 ∧ ∀ i,i < (r.Firms.map (·.Name)).length->(0 <= (el r.Firms i).City ∧ (el r.Firms i).City < r.Cities.length) ∧ 0 <= (el r.Firms i).Group ∧ (el r.Firms i).Group < r.Groups.length):=by
  unfold mX
  refine QK (r.Firms.map (·.Name)) 200 _ ?_
  refine LS (r.Firms.map (·.Name)) (by have:=f.frm; omega) (aCd _ _ fun x hx=>(w4.2 x hx).1) (fun w=>lA (r.Firms.map (·.Name)) r w) (fun p=>hH p r) (fun p=>rfl) _ (fun i hi=>?_)
  rw [hfl] at hi
  by_cases g:0 <= (el r.Firms i).City ∧ (el r.Firms i).City < r.Cities.length
  ·exact ⟨_,by simp only [hH,bQ _ _ hi,Option.bind_some,EF,decide_eq_true_eq]; rw [if_pos g],fun h=>⟨g,by simpa using h⟩⟩
  ·exact ⟨_,by simp only [hH,bQ _ _ hi,Option.bind_some,EF,decide_eq_true_eq]; rw [if_neg g],fun h=>by cases h⟩
 have a4:∃ e,mU (r.Orders.map (·.Name)) 20 r = some e ∧ (e = 0->((r.Orders.map (·.Name)).length:Int) <= 20 ∧ ∀ i,i < (r.Orders.map (·.Name)).length->aJO (el r.Orders i)):=by
  unfold mU
  refine QK (r.Orders.map (·.Name)) 20 _ ?_
  refine LS (r.Orders.map (·.Name)) (by have:=f.ord; omega) (aCd _ _ fun x hx=>(w5.2 x hx).1) (fun w=>lB (r.Orders.map (·.Name)) r w) (fun p=>i7 p r) (fun p=>rfl) _ (fun i hi=>?_)
  rw [hol] at hi
  obtain ⟨q1,q2⟩:=f.orderL i hi
  obtain ⟨b,e1,e2⟩:=aB2 (el r.Orders i) (by omega) (by omega)
  exact ⟨b,by simp only [i7,bQ _ _ hi,Option.bind_some,e1],e2⟩
 have a5:∀ z,∃ x,tP r z 0 = some x ∧ (x = .inl ()->∀ i,i < r.Groups.length->0 <= (el r.Groups i).Grade ∧ (el r.Groups i).Grade < 10):=by
  intro z
  obtain ⟨x,hx,hq⟩:=lD (step:=fun w=>fO r z w) (fun i=>(i:Int)) r.Groups.length (fun i=>0 <= (el r.Groups i).Grade ∧ (el r.Groups i).Grade < 10) (fun x=>x = .inl ()->∀ i,i < r.Groups.length->0 <= (el r.Groups i).Grade ∧ (el r.Groups i).Grade < 10) (by
   intro i hi
   have:=f.grp
   simp only [fO,hZ hi,if_true,bQ _ _ hi,Option.bind_some,aS (show i < 9223372036854775807 by omega),EF]
   by_cases g:0 <= (el r.Groups i).Grade ∧ (el r.Groups i).Grade < 10
   ·exact .inl ⟨by simp [g],g⟩
   ·exact .inr ⟨.inr (),by simp [g],fun _ h=>by cases h⟩) (by
   refine ⟨.inl (),?_,fun h _=>h⟩
   simp only [fO,jG,if_false])
  exact ⟨x,hx,hq⟩
 obtain ⟨e1,g1,q1⟩:=a1
 obtain ⟨e2,g2,q2⟩:=a2
 obtain ⟨e3,g3,q3⟩:=a3
 obtain ⟨e4,g4,q4⟩:=a4
 obtain ⟨x,hx,qx⟩:=a5 (r.Cities.map (·.Name),r.Firms.map (·.Name),r.Orders.map (·.Name))
 obtain ⟨e5,g5,q5⟩:=YR r f.usa
 obtain ⟨e6,g6,q6⟩:=aER r f.rat f.hal
 unfold iL
 simp only [aBE r f.big,Option.bind_some,g1,g2,g3,g4,g5,g6,hx]
 by_cases z1:e1 = 0
 ·by_cases z2:e2 = 0
  ·by_cases gg:(r.Groups.length:Int) > 20
   ·exact ⟨6,by simp [z1,z2,gg],fun h=>by cases h⟩
   ·cases x with
    | inr u=>exact ⟨1,by simp [z1,z2,gg],fun h=>by cases h⟩
    | inl u =>
     by_cases z3:e3 = 0
     ·by_cases z4:e4 = 0
      ·by_cases z5:e5 = 0
       ·refine ⟨e6,by simp [z1,z2,gg,z3,z4,z5],fun z6=>?_⟩
        rw [hcl] at q2
        rw [hfl] at q3
        rw [hol] at q4
        exact ⟨⟨by have:=(q2 z2).1; omega,(q2 z2).2⟩,⟨by omega,qx rfl⟩,⟨by have:=(q3 z3).1; omega,(q3 z3).2⟩,⟨by have:=(q4 z4).1; omega,(q4 z4).2⟩,q5 z5,q6 z6⟩
       ·exact ⟨e5,by simp [z1,z2,gg,z3,z4,z5],fun h=>absurd h z5⟩
      ·exact ⟨e4,by simp [z1,z2,gg,z3,z4],fun h=>absurd h z4⟩
     ·exact ⟨e3,by simp [z1,z2,gg,z3],fun h=>absurd h z3⟩
  ·exact ⟨e2,by simp [z1,z2],fun h=>absurd h z2⟩
 ·exact ⟨e1,by simp [z1],fun h=>absurd h z1⟩
end Go.Proofs.Ytjjcaapdaldedaa
