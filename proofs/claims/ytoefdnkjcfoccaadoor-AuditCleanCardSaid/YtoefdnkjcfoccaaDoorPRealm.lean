/- Lemmas on the answers. -/
import Derived.Test.YtoefdnkjcfoccaaDoorFn
import Derived.Test.YtoefdnkjcfoccaaDoorTy
import Derived.Test.YtoefdnkjcfoccaaDoorVmG
namespace Go.Proofs.YtoefdnkjcfoccaaDoor
open Go.RowKit Vm
theorem QY (a b:Int):gG a b = some (decide (0 <= a ∧ a < b)):=by
 unfold gG
 by_cases h:0 <= a <;> simp [h]
theorem B4 (s:ByteArray) (p x:Int) (b:Bool):∃ r,gE s p x b = some r:=by
 unfold gE
 repeat' split
 all_goals exact ⟨_,rfl⟩
theorem XY (s:ByteArray) (hs:Ws s):∃ b,rU s = some b:=by
 unfold rU
 split
 ·exact ⟨_,rfl⟩
 split
 ·exact ⟨_,rfl⟩
 rename_i h20
 have hl:(rH s).length = s.size:=by simp [rH]
 obtain ⟨x,hx,_⟩:=kI (step:=fun w=>iG s w) (fun i=>(i:Int)) (rH s).length (fun _=>True) (fun _=>True) (by
  intro i hi
  simp only [iG,tN hi,Ë,fW _ _ hi,À,b5 (show i < 9223372036854775807 by rw [hl] at hi; unfold Ws at hs; omega)]
  repeat' split
  all_goals
   first
   | (obtain ⟨r,hr⟩:=B4 s i (el (rH s) i) true; rw [hr]; cases r <;> simp; done)
   | (obtain ⟨r,hr⟩:=B4 s i (el (rH s) i) (decide (el (rH s) i <= 90)); rw [hr]; cases r <;> simp; done)
   | (obtain ⟨r,hr⟩:=B4 s i (el (rH s) i) false; rw [hr]; cases r <;> simp; done)) (by
  refine ⟨.inl (),?_,fun _=>trivial⟩
  simp only [iG,wR,È])
 have hx' : uC s 0 = some x:=hx
 rw [hx']
 cases x <;> exact ⟨_,rfl⟩
theorem XW (l:List ByteArray) (s:ByteArray) (hl:l.length < 9223372036854775807):∃ b,dS l s = some b:=by
 unfold dS
 obtain ⟨x,hx,_⟩:=kI (step:=fun w=>cC l s w) (fun i=>(i:Int)) l.length (fun _=>True) (fun _=>True) (by
  intro i hi
  simp only [cC,tN hi,Ë,fW _ _ hi,À,b5 (show i < 9223372036854775807 by omega)]
  split <;> simp) (by
  refine ⟨.inl (),?_,fun _=>trivial⟩
  simp only [cC,wR,È])
 have hx' : gH l s 0 = some x:=hx
 rw [hx']
 cases x <;> exact ⟨_,rfl⟩
theorem RS (l:List ByteArray) (s:ByteArray) (hl:l.length < 9223372036854775807):∃ b,dD l s = some b:=by
 unfold dD
 obtain ⟨b,hb⟩:=XW l s hl
 rw [hb]
 exact ⟨_,rfl⟩
theorem aAO (l:List ByteArray) (i:Nat) (hi:i < l.length) (hl:l.length < 9223372036854775807) (hw:∀ x ∈ l,Ws x):∃ e,kS l i = some e:=by
 unfold kS
 rw [fW l i hi]
 obtain ⟨b,hb⟩:=XY (el l i) (hw _ (GK l i hi))
 simp only [À,hb]
 split
 ·exact ⟨_,rfl⟩
 ·rw [Â ⟨Int.le_refl _,by omega,by omega⟩]
  obtain ⟨c,hc⟩:=RS (iI l 0 i) (el l i) (by simp [iI]; omega)
  rw [hc]
  simp only [À]
  split <;> exact ⟨_,rfl⟩
def Ris (l:List Int) (lo hi:Int):Prop:=∀ i,i < l.length->lo <= el l i ∧ el l i <= hi ∧ (0 < i->el l (i - 1) < el l i)
theorem BS (l:List Int) (lo hi:Int) (hl:l.length < 9223372036854775807):∃ b,iY l lo hi = some b ∧ (b = true->Ris l lo hi):=by
 unfold iY
 obtain ⟨x,hx,hq⟩:=kI (step:=fun w=>iH l lo hi w) (fun i=>(i:Int)) l.length (fun i=>lo <= el l i ∧ el l i <= hi ∧ (0 < i->el l (i - 1) < el l i)) (fun x=>x = .inl ()->Ris l lo hi) (by
  intro i hi'
  simp only [iH,tN hi',Ë,fW _ _ hi',À,b5 (show i < 9223372036854775807 by omega)]
  by_cases h1:el l i < lo
  ·exact .inr ⟨.inr (),by simp [h1],fun _ h=>by cases h⟩
  by_cases h2:el l i > hi
  ·exact .inr ⟨.inr (),by simp [h1,h2],fun _ h=>by cases h⟩
  by_cases h3:0 < i
  ·have e1:IntKind.wrap .i64 ((i:Int) - 1) = ((i - 1:Nat):Int):=by rw [CQ (by omega) (by omega)]; omega
   rw [e1,fW l (i - 1) (by omega)]
   by_cases h4:el l i <= el l (i - 1)
   ·exact .inr ⟨.inr (),by simp [h1,h2,h4]; omega,fun _ h=>by cases h⟩
   ·refine .inl ⟨by simp [h1,h2,h4],by omega,by omega,fun _=>by omega⟩
  ·refine .inl ⟨by simp [h1,h2]; omega,by omega,by omega,fun h=>absurd h h3⟩) (by
  refine ⟨.inl (),?_,fun h _=>fun i hi=>h i hi⟩
  simp only [iH,wR,È])
 have hx' : uG l lo hi 0 = some x:=hx
 rw [hx']
 cases x with
 | inl u=>exact ⟨true,rfl,fun _=>hq rfl⟩
 | inr u=>exact ⟨false,rfl,fun h=>by cases h⟩
structure XN (r:aB):Prop where
 cur:r.Currencies.length < 50
 cit:r.Cities.length < 50
 grp:r.Groups.length < 50
 frm:r.Firms.length < 210
 ord:r.Orders.length < 50
 usa:r.Usances.length < 110
 rat:r.Rates.length < 110
 hal:r.Halts.length < 50
 cityL:∀ i,i < r.Cities.length->(el r.Cities i).Feasts.length <= 70 ∧ (el r.Cities i).Shut.length <= 210 ∧ (el r.Cities i).Rest.length <= 8
 orderL:∀ i,i < r.Orders.length->(el r.Orders i).Choices.length <= 40 ∧ (el r.Orders i).Rules.length <= 40
structure aTW (r:aB):Prop where
 cur:r.Currencies.length < 100000000000000
 cit:r.Cities.length < 6000000000000
 grp:r.Groups.length < 100000000000000
 frm:r.Firms.length < 6000000000000
 ord:r.Orders.length < 6000000000000
 usa:r.Usances.length < 100000000000000
 rat:r.Rates.length < 100000000000000
 hal:r.Halts.length < 100000000000000
 cityL:∀ i,i < r.Cities.length->(el r.Cities i).Feasts.length < 100000000000000 ∧ (el r.Cities i).Shut.length < 100000000000000 ∧ (el r.Cities i).Rest.length < 100000000000000
 orderL:∀ i,i < r.Orders.length->(el r.Orders i).Choices.length < 6000000000000 ∧ (el r.Orders i).Rules.length < 6000000000000
theorem XN.big {r:aB} (f:XN r):aTW r where
 cur:=by have:=f.cur; omega
 cit:=by have:=f.cit; omega
 grp:=by have:=f.grp; omega
 frm:=by have:=f.frm; omega
 ord:=by have:=f.ord; omega
 usa:=by have:=f.usa; omega
 rat:=by have:=f.rat; omega
 hal:=by have:=f.hal; omega
 cityL:=fun i hi=>by have:=f.cityL i hi; omega
 orderL:=fun i hi=>by have:=f.orderL i hi; omega
theorem aLj (r:aB):∃ b,lE r = some b ∧ (b = true->XN r):=by
 have l1:∃ x,nR r 0 = some x ∧ (x = .inl ()->∀ i,i < r.Cities.length->i < 50->(el r.Cities i).Feasts.length <= 70 ∧ (el r.Cities i).Shut.length <= 210 ∧ (el r.Cities i).Rest.length <= 8):=by
  obtain ⟨x,hx,hq⟩:=kI (step:=fun w=>e8 r w) (fun i=>(i:Int)) (min r.Cities.length 50) (fun i=>(el r.Cities i).Feasts.length <= 70 ∧ (el r.Cities i).Shut.length <= 210 ∧ (el r.Cities i).Rest.length <= 8) (fun x=>x = .inl ()->∀ i,i < r.Cities.length->i < 50->(el r.Cities i).Feasts.length <= 70 ∧ (el r.Cities i).Shut.length <= 210 ∧ (el r.Cities i).Rest.length <= 8) (by
   intro i hi
   have hi1:i < r.Cities.length:=by omega
   have hi2:i < 50:=by omega
   have hi3:(i:Int) < 50:=by omega
   simp only [e8,tN hi1,Ë,fW _ _ hi1,À,b5 (show i < 9223372036854775807 by omega),Ñ,hi3]
   by_cases h1:((el r.Cities i).Feasts.length:Int) > 70
   ·exact .inr ⟨.inr (),by simp [h1],fun _ h=>by cases h⟩
   by_cases h2:((el r.Cities i).Shut.length:Int) > 210
   ·exact .inr ⟨.inr (),by simp [h1,h2],fun _ h=>by cases h⟩
   by_cases h3:((el r.Cities i).Rest.length:Int) > 8
   ·exact .inr ⟨.inr (),by simp [h1,h2,h3],fun _ h=>by cases h⟩
   ·exact .inl ⟨by simp [h1,h2,h3],by omega,by omega,by omega⟩) (by
   refine ⟨.inl (),?_,fun h _ i h1 h2=>h i (by omega)⟩
   simp only [e8,Ñ]
   by_cases h:((min r.Cities.length 50:Nat):Int) < (r.Cities.length:Int)
   ·rw [Â h,Ã (by omega)]
   ·rw [Ã h])
  exact ⟨x,hx,hq⟩
 have l2:∃ x,nY r 0 = some x ∧ (x = .inl ()->∀ i,i < r.Orders.length->i < 50->(el r.Orders i).Choices.length <= 40 ∧ (el r.Orders i).Rules.length <= 40):=by
  obtain ⟨x,hx,hq⟩:=kI (step:=fun w=>eR r w) (fun i=>(i:Int)) (min r.Orders.length 50) (fun i=>(el r.Orders i).Choices.length <= 40 ∧ (el r.Orders i).Rules.length <= 40) (fun x=>x = .inl ()->∀ i,i < r.Orders.length->i < 50->(el r.Orders i).Choices.length <= 40 ∧ (el r.Orders i).Rules.length <= 40) (by
   intro i hi
   have hi1:i < r.Orders.length:=by omega
   have hi2:i < 50:=by omega
   have hi3:(i:Int) < 50:=by omega
   simp only [eR,tN hi1,Ë,fW _ _ hi1,À,b5 (show i < 9223372036854775807 by omega),Ñ,hi3]
   by_cases h1:((el r.Orders i).Choices.length:Int) > 40
   ·exact .inr ⟨.inr (),by simp [h1],fun _ h=>by cases h⟩
   by_cases h2:((el r.Orders i).Rules.length:Int) > 40
   ·exact .inr ⟨.inr (),by simp [h1,h2],fun _ h=>by cases h⟩
   ·exact .inl ⟨by simp [h1,h2],by omega,by omega⟩) (by
   refine ⟨.inl (),?_,fun h _ i h1 h2=>h i (by omega)⟩
   simp only [eR,Ñ]
   by_cases h:((min r.Orders.length 50:Nat):Int) < (r.Orders.length:Int)
   ·rw [Â h,Ã (by omega)]
   ·rw [Ã h])
  exact ⟨x,hx,hq⟩
 obtain ⟨x,hx,qx⟩:=l1
 obtain ⟨y,hy,qy⟩:=l2
 unfold lE
 rw [hx,hy]
 cases x with
 | inr u=>exact ⟨false,rfl,fun h=>by cases h⟩
 | inl u =>
  cases y with
  | inr u=>exact ⟨false,rfl,fun h=>by cases h⟩
  | inl v =>
   simp only [À,û,Ñ]
   by_cases h1:(r.Currencies.length:Int) < 50
   ·by_cases h2:(r.Cities.length:Int) < 50
    ·by_cases h3:(r.Groups.length:Int) < 50
     ·by_cases h4:(r.Firms.length:Int) < 210
      ·by_cases h5:(r.Orders.length:Int) < 50
       ·by_cases h6:(r.Usances.length:Int) < 110
        ·by_cases h7:(r.Rates.length:Int) < 110
         ·refine ⟨decide ((r.Halts.length:Int) < 50),by simp [h1,h2,h3,h4,h5,h6,h7],fun h=>?_⟩
          simp only [Ñ] at h
          exact ⟨by omega,by omega,by omega,by omega,by omega,by omega,by omega,by omega,fun i hi=>qx rfl i hi (by omega),fun i hi=>qy rfl i hi (by omega)⟩
         ·exact ⟨false,by simp [h1,h2,h3,h4,h5,h6,h7],fun h=>by cases h⟩
        ·exact ⟨false,by simp [h1,h2,h3,h4,h5,h6],fun h=>by cases h⟩
       ·exact ⟨false,by simp [h1,h2,h3,h4,h5],fun h=>by cases h⟩
      ·exact ⟨false,by simp [h1,h2,h3,h4],fun h=>by cases h⟩
     ·exact ⟨false,by simp [h1,h2,h3],fun h=>by cases h⟩
    ·exact ⟨false,by simp [h1,h2],fun h=>by cases h⟩
   ·exact ⟨false,by simp [h1],fun h=>by cases h⟩
theorem VN (r:aB) (c:aX) (h:c.Feasts.length < 9223372036854775807):∃ x,yP r c 0 = some x ∧ (x = .inl ()->∀ i,i < c.Feasts.length->1 <= (el c.Feasts i).tmod 100 ∧ (el c.Feasts i).tmod 100 <= 31):=by
 obtain ⟨x,hx,hq⟩:=kI (step:=fun w=>kJ r c w) (fun i=>(i:Int)) c.Feasts.length (fun i=>1 <= (el c.Feasts i).tmod 100 ∧ (el c.Feasts i).tmod 100 <= 31) (fun x=>x = .inl ()->∀ i,i < c.Feasts.length->1 <= (el c.Feasts i).tmod 100 ∧ (el c.Feasts i).tmod 100 <= 31) (by
  intro i hi
  simp only [kJ,tN hi,Ë,fW _ _ hi,À,b5 (show i < 9223372036854775807 by omega),Ñ]
  by_cases h1:(el c.Feasts i).tmod 100 < 1
  ·exact .inr ⟨.inr (),by simp [h1],fun _ h=>by cases h⟩
  by_cases h2:(el c.Feasts i).tmod 100 > 31
  ·exact .inr ⟨.inr (),by simp [h1,h2],fun _ h=>by cases h⟩
  ·exact .inl ⟨by simp [h1,h2],by omega,by omega⟩) (by
  refine ⟨.inl (),?_,fun h _=>h⟩
  simp only [kJ,wR,È])
 exact ⟨x,hx,hq⟩
structure aKp (r:aB) (c:aX):Prop where
 feasts:c.Feasts.length <= 60
 shut:c.Shut.length <= 200
 order:0 <= c.Order ∧ c.Order < r.Orders.length
 cur:0 <= c.Currency ∧ c.Currency < r.Currencies.length
 rest:Ris c.Rest 0 6
 feastsR:Ris c.Feasts 101 1231
 shutR:Ris c.Shut 0 100000
 days:∀ i,i < c.Feasts.length->1 <= (el c.Feasts i).tmod 100 ∧ (el c.Feasts i).tmod 100 <= 31
theorem aH3 (r:aB) (c:aX) (h1:c.Feasts.length < 9223372036854775807) (h2:c.Shut.length < 9223372036854775807) (h3:c.Rest.length < 9223372036854775807):∃ b,xU r c = some b ∧ (b = true->aKp r c):=by
 unfold xU
 obtain ⟨x,hx,hq⟩:=VN r c h1
 rw [hx]
 obtain ⟨b1,e1,q1⟩:=BS c.Rest 0 6 h3
 obtain ⟨b2,e2,q2⟩:=BS c.Feasts 101 1231 h1
 obtain ⟨b3,e3,q3⟩:=BS c.Shut 0 100000 h2
 cases x with
 | inr u=>exact ⟨false,rfl,fun h=>by cases h⟩
 | inl u =>
  simp only [À,û,QY,e1,e2,e3,Ñ]
  by_cases g1:(c.Feasts.length:Int) > 60
  ·exact ⟨false,by simp [g1],fun h=>by cases h⟩
  by_cases g2:(c.Shut.length:Int) > 200
  ·exact ⟨false,by simp [g1,g2],fun h=>by cases h⟩
  by_cases g3:0 <= c.Order ∧ c.Order < (r.Orders.length:Int)
  ·by_cases g4:0 <= c.Currency ∧ c.Currency < (r.Currencies.length:Int)
   ·cases b1 with
    | false=>exact ⟨false,by simp [g1,g2,g3,g4],fun h=>by cases h⟩
    | true=>cases b2 with
     | false=>exact ⟨false,by simp [g1,g2,g3,g4],fun h=>by cases h⟩
     | true =>
      refine ⟨b3,by simp [g1,g2,g3,g4],fun h=>⟨by omega,by omega,g3,g4,q1 rfl,q2 rfl,q3 h,hq rfl⟩⟩
   ·exact ⟨false,by simp [g1,g2,g3,g4],fun h=>by cases h⟩
  ·exact ⟨false,by simp [g1,g2,g3],fun h=>by cases h⟩
structure aKn (o:aJ):Prop where
 by_:∀ i,i < o.Choices.length->0 <= (el o.Choices i).By ∧ (el o.Choices i).By < 5
 ask:Ris (o.Choices.map (·.Ask)) 0 21
 rules:Ris (o.Rules.map (·.Ask)) 0 21
theorem N9 {α β:Type} [Inhabited α] (f:α->β) (l:List α) (i:Nat) (h:i < l.length):(l.take i).map f ++ [f (el l i)] = (l.take (i + 1)).map f:=by
 rw [C4 l i h,← List.map_singleton (f:=f),← Ă,List.take_append_getElem h]
theorem aB0 (o:aJ) (h1:o.Choices.length <= 40) (h2:o.Rules.length <= 40):∃ b,tV o = some b ∧ (b = true->aKn o):=by
 have l1:∃ x,wI o 0 [] = some x ∧ (∀ l,x = .inl l->l = o.Choices.map (·.Ask) ∧ ∀ i,i < o.Choices.length->0 <= (el o.Choices i).By ∧ (el o.Choices i).By < 5):=by
  obtain ⟨x,hx,hq⟩:=kI (step:=fun w=>i8 o w.1 w.2) (fun i=>((i:Int),(o.Choices.take i).map (·.Ask))) o.Choices.length (fun i=>0 <= (el o.Choices i).By ∧ (el o.Choices i).By < 5) (fun x=>∀ l,x = .inl l->l = o.Choices.map (·.Ask) ∧ ∀ i,i < o.Choices.length->0 <= (el o.Choices i).By ∧ (el o.Choices i).By < 5) (by
   intro i hi
   have hc:(((o.Choices.take i).map (·.Ask)).length + 1) * 8 <= 140737488355328:=by simp; omega
   simp only [i8,tN hi,Ë,fW _ _ hi,À,b5 (show i < 9223372036854775807 by omega),QY]
   rw [Â hc]
   by_cases g:0 <= (el o.Choices i).By ∧ (el o.Choices i).By < 5
   ·refine .inl ⟨?_,g⟩
    rw [← N9 (·.Ask) o.Choices i hi]
    simp [g]
   ·exact .inr ⟨.inr (),by simp [g],fun _ l h=>by cases h⟩) (by
   refine ⟨.inl (o.Choices.map (·.Ask)),?_,fun h l e=>⟨by cases e; rfl,h⟩⟩
   simp only [i8,wR,È,ÿ])
  exact ⟨x,hx,hq⟩
 have l2:∀ z,v9 o z 0 [] = some (o.Rules.map (·.Ask)):=by
  intro z
  refine (OJ (step:=fun w=>jJ o z w.1 w.2) (fun i=>((i:Int),(o.Rules.take i).map (·.Ask))) o.Rules.length (o.Rules.map (·.Ask)) ?_ ?_)
  ·intro i hi
   have hc:(((o.Rules.take i).map (·.Ask)).length + 1) * 8 <= 140737488355328:=by simp; omega
   simp only [jJ,tN hi,Ë,fW _ _ hi,À,b5 (show i < 9223372036854775807 by omega)]
   rw [Â hc,← N9 (·.Ask) o.Rules i hi]
  ·simp only [jJ,wR,È,ÿ]
 unfold tV
 obtain ⟨x,hx,hq⟩:=l1
 rw [hx]
 cases x with
 | inr u=>exact ⟨false,rfl,fun h=>by cases h⟩
 | inl l =>
  obtain ⟨rfl,hb⟩:=hq l rfl
  obtain ⟨b1,e1,q1⟩:=BS (o.Choices.map (·.Ask)) 0 21 (by simp; omega)
  obtain ⟨b2,e2,q2⟩:=BS (o.Rules.map (·.Ask)) 0 21 (by simp; omega)
  simp only [À,û,l2,e1,e2]
  cases b1 with
  | false=>exact ⟨false,by simp,fun h=>by cases h⟩
  | true=>exact ⟨b2,by simp,fun h=>⟨hb,q1 rfl,q2 h⟩⟩
theorem aI9 (r:aB) (f:aTW r):uH r = some (r.Cities.map (·.Name),r.Firms.map (·.Name),r.Orders.map (·.Name)):=by
 have h1:=f.cit
 have h2:=f.frm
 have h3:=f.ord
 have l1:wJ r 0 [] = some (r.Cities.map (·.Name)):=by
  refine (OJ (step:=fun w=>jI r w.1 w.2) (fun i=>((i:Int),(r.Cities.take i).map (·.Name))) r.Cities.length _ ?_ ?_)
  ·intro i hi
   have hc:(((r.Cities.take i).map (·.Name)).length + 1) * 16 <= 140737488355328:=by simp; omega
   simp only [jI,tN hi,Ë,fW _ _ hi,À,b5 (show i < 9223372036854775807 by omega)]
   rw [Â hc,← N9 (·.Name) r.Cities i hi]
  ·simp only [jI,wR,È,ÿ]
 have l2:∀ z,wB r z 0 [] = some (r.Firms.map (·.Name)):=by
  intro z
  refine (OJ (step:=fun w=>jF r z w.1 w.2) (fun i=>((i:Int),(r.Firms.take i).map (·.Name))) r.Firms.length _ ?_ ?_)
  ·intro i hi
   have hc:(((r.Firms.take i).map (·.Name)).length + 1) * 16 <= 140737488355328:=by simp; omega
   simp only [jF,tN hi,Ë,fW _ _ hi,À,b5 (show i < 9223372036854775807 by omega)]
   rw [Â hc,← N9 (·.Name) r.Firms i hi]
  ·simp only [jF,wR,È,ÿ]
 have l3:∀ z z',wD r z z' 0 [] = some (r.Orders.map (·.Name)):=by
  intro z z'
  refine (OJ (step:=fun w=>i6 r z z' w.1 w.2) (fun i=>((i:Int),(r.Orders.take i).map (·.Name))) r.Orders.length _ ?_ ?_)
  ·intro i hi
   have hc:(((r.Orders.take i).map (·.Name)).length + 1) * 16 <= 140737488355328:=by simp; omega
   simp only [i6,tN hi,Ë,fW _ _ hi,À,b5 (show i < 9223372036854775807 by omega)]
   rw [Â hc,← N9 (·.Name) r.Orders i hi]
  ·simp only [i6,wR,È,ÿ]
 unfold uH
 simp only [l1,l2,l3,À]
theorem JD (l:List ByteArray) (hl:l.length < 9223372036854775807) (hw:∀ x ∈ l,Ws x) (step:Int->Option (Int ⊕ (Unit ⊕ Int))) (fine:Int->Option Bool)
  (hs:∀ p,step p = if decide (p < (l.length:Int)) = true then (kS l p).bind fun (r2:Int)=>if (r2 != 0) = true then some (.inr (.inr (r2))) else (fine p).bind fun (r3:Bool)=>if (!(r3)) = true then some (.inr (.inr (1))) else some (.inl (IntKind.wrap .i64 (p + 1))) else some (.inr (.inl ())))
  (F:Nat->Prop) (hf:∀ i,i < l.length->∃ b,fine (i:Int) = some b ∧ (b = true->F i)):∃ x,eJ step 0 = some x ∧ (x = .inl ()->∀ i,i < l.length->F i) ∧ ∀ e,x = .inr e->e ≠ 0:=by
 refine kI (step:=step) (fun i=>(i:Int)) l.length F (fun x=>(x = .inl ()->∀ i,i < l.length->F i) ∧ ∀ e,x = .inr e->e ≠ 0) ?_ ?_
 ·intro i hi
  obtain ⟨e,he⟩:=aAO l i hi hl hw
  obtain ⟨b,hb,hF⟩:=hf i hi
  rw [hs]
  simp only [tN hi,Ë,he,hb,À,b5 (show i < 9223372036854775807 by omega)]
  by_cases h0:e = 0
  ·cases b with
   | true=>exact .inl ⟨by simp [h0],hF rfl⟩
   | false=>exact .inr ⟨.inr 1,by simp [h0],fun _=>⟨(fun h=>nomatch h),fun e h=>by cases h; decide⟩⟩
  ·exact .inr ⟨.inr e,by simp [h0],fun _=>⟨(fun h=>nomatch h),fun e' h=>by cases h; exact h0⟩⟩
 ·refine ⟨.inl (),?_,fun h=>⟨fun _=>h,fun e h=>nomatch h⟩⟩
  rw [hs]
  simp only [wR,È]
theorem O1 (l:List ByteArray) (most:Int) (F:Nat->Prop) {o:Option (Unit ⊕ Int)} (h:∃ x,o = some x ∧ (x = .inl ()->∀ i,i < l.length->F i) ∧ ∀ e,x = .inr e->e ≠ 0) :
  ∃ e,(if decide ((l.length:Int) > most) = true then some 6 else o.bind fun (r5:Unit ⊕ Int)=>Sum.elim (fun z6=>some (0:Int)) (fun z7=>some z7) r5) = some e ∧ (e = 0->(l.length:Int) <= most ∧ ∀ i,i < l.length->F i):=by
 obtain ⟨x,hx,h1,h2⟩:=h
 by_cases g:(l.length:Int) > most
 ·exact ⟨6,by simp [g],fun h=>by cases h⟩
 ·cases x with
  | inl u=>exact ⟨0,by simp [g,hx],fun _=>⟨by omega,h1 rfl⟩⟩
  | inr e=>exact ⟨e,by simp [g,hx],fun h=>absurd h (h2 e rfl)⟩
theorem aEa {α:Type} (f:α->ByteArray) (l:List α) (h:∀ x ∈ l,Ws (f x)):∀ s ∈ l.map f,Ws s:=by
 intro s hs
 obtain ⟨x,hx,rfl⟩:=Þ.1 hs
 exact h x hx
theorem PV (r:aB) (p:Int) (x:aR) (h:r.Usances.length < 110):∃ z,sG r p x 0 = some z:=by
 obtain ⟨z,hz,_⟩:=kI (step:=fun w=>gV r p x w) (fun i=>(i:Int)) (iI r.Usances 0 p).length (fun _=>True) (fun _=>True) (by
  intro i hi
  have:(iI r.Usances 0 p).length <= r.Usances.length:=by simp [iI]; omega
  simp only [gV,tN hi,Ë,fW _ _ hi,À,b5 (show i < 9223372036854775807 by omega)]
  repeat' split
  all_goals simp) (by
  refine ⟨.inl (),?_,fun _=>trivial⟩
  simp only [gV,wR,È])
 exact ⟨z,hz⟩
def aFd (r:aB):Prop:=∀ i,i < r.Usances.length->(0 <= (el r.Usances i).From ∧ (el r.Usances i).From < r.Cities.length) ∧ (0 <= (el r.Usances i).To ∧ (el r.Usances i).To < r.Cities.length) ∧ 1 <= (el r.Usances i).Days ∧ (el r.Usances i).Days <= 20000
theorem YJ (r:aB) (h:r.Usances.length < 110):∃ e,pM r = some e ∧ (e = 0->aFd r):=by
 have l2:∃ x,sQ r 0 = some x ∧ (x = .inl ()->aFd r) ∧ ∀ e,x = .inr e->e ≠ 0:=by
  obtain ⟨x,hx,hq⟩:=kI (step:=fun w=>gN r w) (fun i=>(i:Int)) r.Usances.length (fun i=>(0 <= (el r.Usances i).From ∧ (el r.Usances i).From < r.Cities.length) ∧ (0 <= (el r.Usances i).To ∧ (el r.Usances i).To < r.Cities.length) ∧ 1 <= (el r.Usances i).Days ∧ (el r.Usances i).Days <= 20000) (fun x=>(x = .inl ()->aFd r) ∧ ∀ e,x = .inr e->e ≠ 0) (by
   intro i hi
   simp only [gN,tN hi,Ë,fW _ _ hi,À,b5 (show i < 9223372036854775807 by omega),QY,Ñ]
   by_cases g1:0 <= (el r.Usances i).From ∧ (el r.Usances i).From < r.Cities.length
   ·by_cases g2:0 <= (el r.Usances i).To ∧ (el r.Usances i).To < r.Cities.length
    ·by_cases g3:(el r.Usances i).Days < 1
     ·exact .inr ⟨.inr 1,by simp [g1,g2,g3],fun _=>⟨(fun h=>nomatch h),fun e h=>by cases h; decide⟩⟩
     by_cases g4:(el r.Usances i).Days > 20000
     ·exact .inr ⟨.inr 1,by simp [g1,g2,g3,g4],fun _=>⟨(fun h=>nomatch h),fun e h=>by cases h; decide⟩⟩
     obtain ⟨z,hz⟩:=PV r i (el r.Usances i) h
     have hok:jL r.Usances.length 0 (i:Int):=⟨Int.le_refl _,by omega,by omega⟩
     cases z with
     | inl u=>exact .inl ⟨by simp [g1,g2,g3,g4,hok,hz],g1,g2,by omega,by omega⟩
     | inr u=>exact .inr ⟨.inr 5,by simp [g1,g2,g3,g4,hok,hz],fun _=>⟨(fun h=>nomatch h),fun e h=>by cases h; decide⟩⟩
    ·exact .inr ⟨.inr 1,by simp [g1,g2],fun _=>⟨(fun h=>nomatch h),fun e h=>by cases h; decide⟩⟩
   ·exact .inr ⟨.inr 1,by simp [g1],fun _=>⟨(fun h=>nomatch h),fun e h=>by cases h; decide⟩⟩) (by
   refine ⟨.inl (),?_,fun h=>⟨fun _=>h,fun e h=>nomatch h⟩⟩
   simp only [gN,wR,È])
  exact ⟨x,hx,hq⟩
 obtain ⟨x,hx,h1,h2⟩:=l2
 unfold pM
 by_cases g:(r.Usances.length:Int) > 100
 ·exact ⟨6,by simp [g],fun h=>by cases h⟩
 ·cases x with
  | inl u=>exact ⟨0,by simp [g,hx],fun _=>h1 rfl⟩
  | inr e=>exact ⟨e,by simp [g,hx],fun h=>absurd h (h2 e rfl)⟩
def aFb (r:aB):Prop:=∀ i,i < r.Halts.length->(0 <= (el r.Halts i).Order ∧ (el r.Halts i).Order < r.Orders.length) ∧ 0 <= (el r.Halts i).From ∧ (el r.Halts i).From <= (el r.Halts i).To ∧ (el r.Halts i).To <= 100000
theorem aH1 (r:aB) (hr:r.Rates.length < 110) (hh:r.Halts.length < 50):∃ e,xY r = some e ∧ (e = 0->r.Halts.length <= 20 ∧ aFb r):=by
 have l1:∃ x,AN r 0 = some x:=by
  obtain ⟨x,hx,hq⟩:=kI (step:=fun w=>kL r w) (fun i=>(i:Int)) r.Rates.length (fun i=>True) (fun _=>True) (by
   intro i hi
   simp only [kL,tN hi,Ë,fW _ _ hi,À,b5 (show i < 9223372036854775807 by omega),QY]
   repeat' split
   all_goals simp) (by
   refine ⟨.inl (),?_,fun _=>trivial⟩
   simp only [kL,wR,È])
  exact ⟨x,hx⟩
 have l2:∃ x,AJ r 0 = some x ∧ (x = .inl ()->aFb r):=by
  obtain ⟨x,hx,hq⟩:=kI (step:=fun w=>kK r w) (fun i=>(i:Int)) r.Halts.length (fun i=>(0 <= (el r.Halts i).Order ∧ (el r.Halts i).Order < r.Orders.length) ∧ 0 <= (el r.Halts i).From ∧ (el r.Halts i).From <= (el r.Halts i).To ∧ (el r.Halts i).To <= 100000) (fun x=>x = .inl ()->aFb r) (by
   intro i hi
   simp only [kK,tN hi,Ë,fW _ _ hi,À,b5 (show i < 9223372036854775807 by omega),QY,Ñ]
   by_cases g1:0 <= (el r.Halts i).Order ∧ (el r.Halts i).Order < r.Orders.length
   ·by_cases g2:(el r.Halts i).From < 0
    ·exact .inr ⟨.inr (),by simp [g1,g2],fun _ h=>by cases h⟩
    by_cases g3:(el r.Halts i).From > (el r.Halts i).To
    ·exact .inr ⟨.inr (),by simp [g1,g2,g3],fun _ h=>by cases h⟩
    by_cases g4:(el r.Halts i).To > 100000
    ·exact .inr ⟨.inr (),by simp [g1,g2,g3,g4],fun _ h=>by cases h⟩
    ·exact .inl ⟨by simp [g1,g2,g3,g4],g1,by omega,by omega,by omega⟩
   ·exact .inr ⟨.inr (),by simp [g1],fun _ h=>by cases h⟩) (by
   refine ⟨.inl (),?_,fun h _=>h⟩
   simp only [kK,wR,È])
  exact ⟨x,hx,hq⟩
 obtain ⟨x,hx⟩:=l1
 obtain ⟨y,hy,q⟩:=l2
 unfold xY
 by_cases g:(r.Rates.length:Int) > 100
 ·exact ⟨6,by simp [g],fun h=>by cases h⟩
 ·cases x with
  | inr u=>exact ⟨1,by simp [g,hx],fun h=>by cases h⟩
  | inl u =>
   by_cases g2:(r.Halts.length:Int) > 20
   ·exact ⟨6,by simp [g,hx,g2],fun h=>by cases h⟩
   ·cases y with
    | inr u=>exact ⟨1,by simp [g,hx,g2,hy],fun h=>by cases h⟩
    | inl u=>exact ⟨0,by simp [g,hx,g2,hy],fun _=>⟨by omega,q rfl⟩⟩
structure YI (r:aB):Prop where
 cities:r.Cities.length <= 40 ∧ ∀ i,i < r.Cities.length->aKp r (el r.Cities i)
 groups:r.Groups.length <= 20 ∧ ∀ i,i < r.Groups.length->0 <= (el r.Groups i).Grade ∧ (el r.Groups i).Grade < 10
 firms:r.Firms.length <= 200 ∧ ∀ i,i < r.Firms.length->(0 <= (el r.Firms i).City ∧ (el r.Firms i).City < r.Cities.length) ∧ 0 <= (el r.Firms i).Group ∧ (el r.Firms i).Group < r.Groups.length
 orders:r.Orders.length <= 20 ∧ ∀ i,i < r.Orders.length->aKn (el r.Orders i)
 usances:aFd r
 halts:r.Halts.length <= 20 ∧ aFb r
theorem aC4 (r:aB) (f:XN r) (w:aB.wf r):∃ e,nV r = some e ∧ (e = 0->YI r):=by
 obtain ⟨w1,w2,w3,w4,w5,w6,w7,w8⟩:=w
 have a1:∃ e,pG r.Currencies 8 = some e ∧ (e = 0->(r.Currencies.length:Int) <= 8 ∧ ∀ i,i < r.Currencies.length->True):=by
  unfold pG
  refine O1 r.Currencies 8 (fun _=>True) ?_
  exact JD r.Currencies (by have:=f.cur; omega) w1.2 (fun w=>lS r.Currencies w) tJ (fun p=>rfl) (fun _=>True) (fun i hi=>⟨true,rfl,fun _=>trivial⟩)
 have hcl:(r.Cities.map (·.Name)).length = r.Cities.length:=by simp
 have hfl:(r.Firms.map (·.Name)).length = r.Firms.length:=by simp
 have hol:(r.Orders.map (·.Name)).length = r.Orders.length:=by simp
 have a2:∃ e,pA (r.Cities.map (·.Name)) 40 r = some e ∧ (e = 0->((r.Cities.map (·.Name)).length:Int) <= 40 ∧ ∀ i,i < (r.Cities.map (·.Name)).length->aKp r (el r.Cities i)):=by
  unfold pA
  refine O1 (r.Cities.map (·.Name)) 40 _ ?_
  refine JD (r.Cities.map (·.Name)) (by have:=f.cit; omega) (aEa _ _ fun x hx=>(w2.2 x hx).1) (fun w=>lR (r.Cities.map (·.Name)) r w) (fun p=>k9 p r) (fun p=>rfl) _ (fun i hi=>?_)
  rw [hcl] at hi
  obtain ⟨q1,q2,q3⟩:=f.cityL i hi
  obtain ⟨b,e1,e2⟩:=aH3 r (el r.Cities i) (by omega) (by omega) (by omega)
  exact ⟨b,by simp only [k9,fW _ _ hi,À,e1],e2⟩
 have a3:∃ e,pI (r.Firms.map (·.Name)) 200 r = some e ∧ (e = 0->((r.Firms.map (·.Name)).length:Int) <= 200 ∧ ∀ i,i < (r.Firms.map (·.Name)).length->(0 <= (el r.Firms i).City ∧ (el r.Firms i).City < r.Cities.length) ∧ 0 <= (el r.Firms i).Group ∧ (el r.Firms i).Group < r.Groups.length):=by
  unfold pI
  refine O1 (r.Firms.map (·.Name)) 200 _ ?_
  refine JD (r.Firms.map (·.Name)) (by have:=f.frm; omega) (aEa _ _ fun x hx=>(w4.2 x hx).1) (fun w=>lX (r.Firms.map (·.Name)) r w) (fun p=>i5 p r) (fun p=>rfl) _ (fun i hi=>?_)
  rw [hfl] at hi
  by_cases g:0 <= (el r.Firms i).City ∧ (el r.Firms i).City < r.Cities.length
  ·exact ⟨_,by simp only [i5,fW _ _ hi,À,QY,Ñ]; rw [Â g],fun h=>⟨g,by simpa using h⟩⟩
  ·exact ⟨_,by simp only [i5,fW _ _ hi,À,QY,Ñ]; rw [Ã g],fun h=>by cases h⟩
 have a4:∃ e,pV (r.Orders.map (·.Name)) 20 r = some e ∧ (e = 0->((r.Orders.map (·.Name)).length:Int) <= 20 ∧ ∀ i,i < (r.Orders.map (·.Name)).length->aKn (el r.Orders i)):=by
  unfold pV
  refine O1 (r.Orders.map (·.Name)) 20 _ ?_
  refine JD (r.Orders.map (·.Name)) (by have:=f.ord; omega) (aEa _ _ fun x hx=>(w5.2 x hx).1) (fun w=>lW (r.Orders.map (·.Name)) r w) (fun p=>kZ p r) (fun p=>rfl) _ (fun i hi=>?_)
  rw [hol] at hi
  obtain ⟨q1,q2⟩:=f.orderL i hi
  obtain ⟨b,e1,e2⟩:=aB0 (el r.Orders i) (by omega) (by omega)
  exact ⟨b,by simp only [kZ,fW _ _ hi,À,e1],e2⟩
 have a5:∀ z,∃ x,wA r z 0 = some x ∧ (x = .inl ()->∀ i,i < r.Groups.length->0 <= (el r.Groups i).Grade ∧ (el r.Groups i).Grade < 10):=by
  intro z
  obtain ⟨x,hx,hq⟩:=kI (step:=fun w=>jH r z w) (fun i=>(i:Int)) r.Groups.length (fun i=>0 <= (el r.Groups i).Grade ∧ (el r.Groups i).Grade < 10) (fun x=>x = .inl ()->∀ i,i < r.Groups.length->0 <= (el r.Groups i).Grade ∧ (el r.Groups i).Grade < 10) (by
   intro i hi
   have:=f.grp
   simp only [jH,tN hi,Ë,fW _ _ hi,À,b5 (show i < 9223372036854775807 by omega),QY]
   by_cases g:0 <= (el r.Groups i).Grade ∧ (el r.Groups i).Grade < 10
   ·exact .inl ⟨by simp [g],g⟩
   ·exact .inr ⟨.inr (),by simp [g],fun _ h=>by cases h⟩) (by
   refine ⟨.inl (),?_,fun h _=>h⟩
   simp only [jH,wR,È])
  exact ⟨x,hx,hq⟩
 obtain ⟨e1,g1,q1⟩:=a1
 obtain ⟨e2,g2,q2⟩:=a2
 obtain ⟨e3,g3,q3⟩:=a3
 obtain ⟨e4,g4,q4⟩:=a4
 obtain ⟨x,hx,qx⟩:=a5 (r.Cities.map (·.Name),r.Firms.map (·.Name),r.Orders.map (·.Name))
 obtain ⟨e5,g5,q5⟩:=YJ r f.usa
 obtain ⟨e6,g6,q6⟩:=aH1 r f.rat f.hal
 unfold nV
 simp only [aI9 r f.big,À,g1,g2,g3,g4,g5,g6,hx]
 by_cases z1:e1 = 0
 ·by_cases z2:e2 = 0
  ·by_cases gg:(r.Groups.length:Int) > 20
   ·exact ⟨6,by simp [z1,z2,gg],fun h=>by cases h⟩
   ·cases x with
    | inr u=>exact ⟨1,by simp [z1,z2,gg],fun h=>by cases h⟩
    | inl u =>
     by_cases z3:e3 = 0
     ·by_cases z4:e4 = 0
      ·by_cases z5:e5 = 0
       ·refine ⟨e6,by simp [z1,z2,gg,z3,z4,z5],fun z6=>?_⟩
        rw [hcl] at q2
        rw [hfl] at q3
        rw [hol] at q4
        exact ⟨⟨by have:=(q2 z2).1; omega,(q2 z2).2⟩,⟨by omega,qx rfl⟩,⟨by have:=(q3 z3).1; omega,(q3 z3).2⟩,⟨by have:=(q4 z4).1; omega,(q4 z4).2⟩,q5 z5,q6 z6⟩
       ·exact ⟨e5,by simp [z1,z2,gg,z3,z4,z5],fun h=>absurd h z5⟩
      ·exact ⟨e4,by simp [z1,z2,gg,z3,z4],fun h=>absurd h z4⟩
     ·exact ⟨e3,by simp [z1,z2,gg,z3],fun h=>absurd h z3⟩
  ·exact ⟨e2,by simp [z1,z2],fun h=>absurd h z2⟩
 ·exact ⟨e1,by simp [z1],fun h=>absurd h z1⟩
end Go.Proofs.YtoefdnkjcfoccaaDoor
