/- What the functions of package realm answer: always something; and what it means if Check says that a realm is right. -/
import Derived.Test.YtjjcaapdaldedaaFn
import Derived.Test.YtjjcaapdaldedaaTy
import Derived.Test.YtjjcaapdaldedaaVmG
set_option linter.unusedVariables false
set_option linter.unusedSimpArgs false
namespace Go.Proofs.Ytjjcaapdaldedaa
open Go.RowKit Vm
theorem BC (a b:Int):gL a b = some (decide (0 <= a ∧ a < b)):=by
 unfold gL
 by_cases h:0 <= a <;> simp [h]
theorem zX (s:ByteArray) (p x:Int) (b:Bool):∃ r,eJ s p x b = some r:=by
 unfold eJ
 repeat' split
 all_goals exact ⟨_,rfl⟩
theorem U1 (s:ByteArray) (hs:Ws s):∃ b,l9 s = some b:=by
 unfold l9
 split
 ·exact ⟨_,rfl⟩
 split
 ·exact ⟨_,rfl⟩
 rename_i h20
 have hl:(lM s).length = s.size:=by simp [lM]
 obtain ⟨x,hx,_⟩:=lD (step:=fun w=>dS s w) (fun i=>(i:Int)) (lM s).length (fun _=>True) (fun _=>True) (by
  intro i hi
  simp only [dS,nG hi,if_true,fI _ _ hi,Option.bind_some,bC (show i < 9223372036854775807 by rw [hl] at hi; unfold Ws at hs; omega)]
  repeat' split
  all_goals
   first
   | (obtain ⟨r,hr⟩:=zX s i (el (lM s) i) true; rw [hr]; cases r <;> simp; done)
   | (obtain ⟨r,hr⟩:=zX s i (el (lM s) i) (decide (el (lM s) i <= 90)); rw [hr]; cases r <;> simp; done)
   | (obtain ⟨r,hr⟩:=zX s i (el (lM s) i) false; rw [hr]; cases r <;> simp; done)) (by
  refine ⟨.inl (),?_,fun _=>trivial⟩
  simp only [dS,pA,if_false])
 have hx' : oP s 0 = some x:=hx
 rw [hx']
 cases x <;> exact ⟨_,rfl⟩
theorem TK (l:List ByteArray) (s:ByteArray) (hl:l.length < 9223372036854775807):∃ b,bV l s = some b:=by
 unfold bV
 obtain ⟨x,hx,_⟩:=lD (step:=fun w=>aX l s w) (fun i=>(i:Int)) l.length (fun _=>True) (fun _=>True) (by
  intro i hi
  simp only [aX,nG hi,if_true,fI _ _ hi,Option.bind_some,bC (show i < 9223372036854775807 by omega)]
  split <;> simp) (by
  refine ⟨.inl (),?_,fun _=>trivial⟩
  simp only [aX,pA,if_false])
 have hx' : eI l s 0 = some x:=hx
 rw [hx']
 cases x <;> exact ⟨_,rfl⟩
theorem OO (l:List ByteArray) (s:ByteArray) (hl:l.length < 9223372036854775807):∃ b,bN l s = some b:=by
 unfold bN
 obtain ⟨b,hb⟩:=TK l s hl
 rw [hb]
 exact ⟨_,rfl⟩
theorem XF (l:List ByteArray) (i:Nat) (hi:i < l.length) (hl:l.length < 9223372036854775807) (hw:∀ x ∈ l,Ws x):∃ e,gO l i = some e:=by
 unfold gO
 rw [fI l i hi]
 obtain ⟨b,hb⟩:=U1 (el l i) (hw _ (NE l i hi))
 simp only [Option.bind_some,hb]
 split
 ·exact ⟨_,rfl⟩
 ·rw [if_pos ⟨Int.le_refl _,by omega,by omega⟩]
  obtain ⟨c,hc⟩:=OO (lZ l 0 i) (el l i) (by simp [lZ]; omega)
  rw [hc]
  simp only [Option.bind_some]
  split <;> exact ⟨_,rfl⟩
def Ris (l:List Int) (lo hi:Int):Prop:=∀ i,i < l.length->lo <= el l i ∧ el l i <= hi ∧ (0 < i->el l (i - 1) < el l i)
theorem yQ (l:List Int) (lo hi:Int) (hl:l.length < 9223372036854775807):∃ b,gK l lo hi = some b ∧ (b = true->Ris l lo hi):=by
 unfold gK
 obtain ⟨x,hx,hq⟩:=lD (step:=fun w=>dQ l lo hi w) (fun i=>(i:Int)) l.length (fun i=>lo <= el l i ∧ el l i <= hi ∧ (0 < i->el l (i - 1) < el l i)) (fun x=>x = .inl ()->Ris l lo hi) (by
  intro i hi'
  simp only [dQ,nG hi',if_true,fI _ _ hi',Option.bind_some,bC (show i < 9223372036854775807 by omega)]
  by_cases h1:el l i < lo
  ·exact .inr ⟨.inr (),by simp [h1],fun _ h=>by cases h⟩
  by_cases h2:el l i > hi
  ·exact .inr ⟨.inr (),by simp [h1,h2],fun _ h=>by cases h⟩
  by_cases h3:0 < i
  ·have e1:IntKind.wrap .i64 ((i:Int) - 1) = ((i - 1:Nat):Int):=by rw [GR (by omega) (by omega)]; omega
   rw [e1,fI l (i - 1) (by omega)]
   by_cases h4:el l i <= el l (i - 1)
   ·exact .inr ⟨.inr (),by simp [h1,h2,h4]; omega,fun _ h=>by cases h⟩
   ·refine .inl ⟨by simp [h1,h2,h4],by omega,by omega,fun _=>by omega⟩
  ·refine .inl ⟨by simp [h1,h2]; omega,by omega,by omega,fun h=>absurd h h3⟩) (by
  refine ⟨.inl (),?_,fun h _=>fun i hi=>h i hi⟩
  simp only [dQ,pA,if_false])
 have hx' : oR l lo hi 0 = some x:=hx
 rw [hx']
 cases x with
 | inl u=>exact ⟨true,rfl,fun _=>hq rfl⟩
 | inr u=>exact ⟨false,rfl,fun h=>by cases h⟩
structure NK (r:aB):Prop where
 cur:r.Currencies.length < 50
 cit:r.Cities.length < 50
 grp:r.Groups.length < 50
 frm:r.Firms.length < 210
 ord:r.Orders.length < 50
 usa:r.Usances.length < 110
 rat:r.Rates.length < 110
 hal:r.Halts.length < 50
 cityL:∀ i,i < r.Cities.length->(el r.Cities i).Feasts.length <= 70 ∧ (el r.Cities i).Shut.length <= 210 ∧ (el r.Cities i).Rest.length <= 8
 orderL:∀ i,i < r.Orders.length->(el r.Orders i).Choices.length <= 40 ∧ (el r.Orders i).Rules.length <= 40
structure aK3 (r:aB):Prop where
 cur:r.Currencies.length < 100000000000000
 cit:r.Cities.length < 6000000000000
 grp:r.Groups.length < 100000000000000
 frm:r.Firms.length < 6000000000000
 ord:r.Orders.length < 6000000000000
 usa:r.Usances.length < 100000000000000
 rat:r.Rates.length < 100000000000000
 hal:r.Halts.length < 100000000000000
 cityL:∀ i,i < r.Cities.length->(el r.Cities i).Feasts.length < 100000000000000 ∧ (el r.Cities i).Shut.length < 100000000000000 ∧ (el r.Cities i).Rest.length < 100000000000000
 orderL:∀ i,i < r.Orders.length->(el r.Orders i).Choices.length < 6000000000000 ∧ (el r.Orders i).Rules.length < 6000000000000
theorem NK.big {r:aB} (f:NK r):aK3 r where
 cur:=by have:=f.cur; omega
 cit:=by have:=f.cit; omega
 grp:=by have:=f.grp; omega
 frm:=by have:=f.frm; omega
 ord:=by have:=f.ord; omega
 usa:=by have:=f.usa; omega
 rat:=by have:=f.rat; omega
 hal:=by have:=f.hal; omega
 cityL:=fun i hi=>by have:=f.cityL i hi; omega
 orderL:=fun i hi=>by have:=f.orderL i hi; omega
theorem aEz (r:aB):∃ b,k9 r = some b ∧ (b = true->NK r):=by
 have l1:∃ x,nH r 0 = some x ∧ (x = .inl ()->∀ i,i < r.Cities.length->i < 50->(el r.Cities i).Feasts.length <= 70 ∧ (el r.Cities i).Shut.length <= 210 ∧ (el r.Cities i).Rest.length <= 8):=by
  obtain ⟨x,hx,hq⟩:=lD (step:=fun w=>eU r w) (fun i=>(i:Int)) (min r.Cities.length 50) (fun i=>(el r.Cities i).Feasts.length <= 70 ∧ (el r.Cities i).Shut.length <= 210 ∧ (el r.Cities i).Rest.length <= 8) (fun x=>x = .inl ()->∀ i,i < r.Cities.length->i < 50->(el r.Cities i).Feasts.length <= 70 ∧ (el r.Cities i).Shut.length <= 210 ∧ (el r.Cities i).Rest.length <= 8) (by
   intro i hi
   have hi1:i < r.Cities.length:=by omega
   have hi2:i < 50:=by omega
   have hi3:(i:Int) < 50:=by omega
   simp only [eU,nG hi1,if_true,fI _ _ hi1,Option.bind_some,bC (show i < 9223372036854775807 by omega),decide_eq_true_eq,hi3]
   by_cases h1:((el r.Cities i).Feasts.length:Int) > 70
   ·exact .inr ⟨.inr (),by simp [h1],fun _ h=>by cases h⟩
   by_cases h2:((el r.Cities i).Shut.length:Int) > 210
   ·exact .inr ⟨.inr (),by simp [h1,h2],fun _ h=>by cases h⟩
   by_cases h3:((el r.Cities i).Rest.length:Int) > 8
   ·exact .inr ⟨.inr (),by simp [h1,h2,h3],fun _ h=>by cases h⟩
   ·exact .inl ⟨by simp [h1,h2,h3],by omega,by omega,by omega⟩) (by
   refine ⟨.inl (),?_,fun h _ i h1 h2=>h i (by omega)⟩
   simp only [eU,decide_eq_true_eq]
   by_cases h:((min r.Cities.length 50:Nat):Int) < (r.Cities.length:Int)
   ·rw [if_pos h,if_neg (by omega)]
   ·rw [if_neg h])
  exact ⟨x,hx,hq⟩
 have l2:∃ x,mY r 0 = some x ∧ (x = .inl ()->∀ i,i < r.Orders.length->i < 50->(el r.Orders i).Choices.length <= 40 ∧ (el r.Orders i).Rules.length <= 40):=by
  obtain ⟨x,hx,hq⟩:=lD (step:=fun w=>e8 r w) (fun i=>(i:Int)) (min r.Orders.length 50) (fun i=>(el r.Orders i).Choices.length <= 40 ∧ (el r.Orders i).Rules.length <= 40) (fun x=>x = .inl ()->∀ i,i < r.Orders.length->i < 50->(el r.Orders i).Choices.length <= 40 ∧ (el r.Orders i).Rules.length <= 40) (by
   intro i hi
   have hi1:i < r.Orders.length:=by omega
   have hi2:i < 50:=by omega
   have hi3:(i:Int) < 50:=by omega
   simp only [e8,nG hi1,if_true,fI _ _ hi1,Option.bind_some,bC (show i < 9223372036854775807 by omega),decide_eq_true_eq,hi3]
   by_cases h1:((el r.Orders i).Choices.length:Int) > 40
   ·exact .inr ⟨.inr (),by simp [h1],fun _ h=>by cases h⟩
   by_cases h2:((el r.Orders i).Rules.length:Int) > 40
   ·exact .inr ⟨.inr (),by simp [h1,h2],fun _ h=>by cases h⟩
   ·exact .inl ⟨by simp [h1,h2],by omega,by omega⟩) (by
   refine ⟨.inl (),?_,fun h _ i h1 h2=>h i (by omega)⟩
   simp only [e8,decide_eq_true_eq]
   by_cases h:((min r.Orders.length 50:Nat):Int) < (r.Orders.length:Int)
   ·rw [if_pos h,if_neg (by omega)]
   ·rw [if_neg h])
  exact ⟨x,hx,hq⟩
 obtain ⟨x,hx,qx⟩:=l1
 obtain ⟨y,hy,qy⟩:=l2
 unfold k9
 rw [hx,hy]
 cases x with
 | inr u=>exact ⟨false,rfl,fun h=>by cases h⟩
 | inl u =>
  cases y with
  | inr u=>exact ⟨false,rfl,fun h=>by cases h⟩
  | inl v =>
   simp only [Option.bind_some,Sum.elim_inl,decide_eq_true_eq]
   by_cases h1:(r.Currencies.length:Int) < 50
   ·by_cases h2:(r.Cities.length:Int) < 50
    ·by_cases h3:(r.Groups.length:Int) < 50
     ·by_cases h4:(r.Firms.length:Int) < 210
      ·by_cases h5:(r.Orders.length:Int) < 50
       ·by_cases h6:(r.Usances.length:Int) < 110
        ·by_cases h7:(r.Rates.length:Int) < 110
         ·refine ⟨decide ((r.Halts.length:Int) < 50),by simp [h1,h2,h3,h4,h5,h6,h7],fun h=>?_⟩
          simp only [decide_eq_true_eq] at h
          exact ⟨by omega,by omega,by omega,by omega,by omega,by omega,by omega,by omega,fun i hi=>qx rfl i hi (by omega),fun i hi=>qy rfl i hi (by omega)⟩
         ·exact ⟨false,by simp [h1,h2,h3,h4,h5,h6,h7],fun h=>by cases h⟩
        ·exact ⟨false,by simp [h1,h2,h3,h4,h5,h6],fun h=>by cases h⟩
       ·exact ⟨false,by simp [h1,h2,h3,h4,h5],fun h=>by cases h⟩
      ·exact ⟨false,by simp [h1,h2,h3,h4],fun h=>by cases h⟩
     ·exact ⟨false,by simp [h1,h2,h3],fun h=>by cases h⟩
    ·exact ⟨false,by simp [h1,h2],fun h=>by cases h⟩
   ·exact ⟨false,by simp [h1],fun h=>by cases h⟩
theorem RY (r:aB) (c:aW) (h:c.Feasts.length < 9223372036854775807):∃ x,sH r c 0 = some x ∧ (x = .inl ()->∀ i,i < c.Feasts.length->1 <= (el c.Feasts i).tmod 100 ∧ (el c.Feasts i).tmod 100 <= 31):=by
 obtain ⟨x,hx,hq⟩:=lD (step:=fun w=>fN r c w) (fun i=>(i:Int)) c.Feasts.length (fun i=>1 <= (el c.Feasts i).tmod 100 ∧ (el c.Feasts i).tmod 100 <= 31) (fun x=>x = .inl ()->∀ i,i < c.Feasts.length->1 <= (el c.Feasts i).tmod 100 ∧ (el c.Feasts i).tmod 100 <= 31) (by
  intro i hi
  simp only [fN,nG hi,if_true,fI _ _ hi,Option.bind_some,bC (show i < 9223372036854775807 by omega),decide_eq_true_eq]
  by_cases h1:(el c.Feasts i).tmod 100 < 1
  ·exact .inr ⟨.inr (),by simp [h1],fun _ h=>by cases h⟩
  by_cases h2:(el c.Feasts i).tmod 100 > 31
  ·exact .inr ⟨.inr (),by simp [h1,h2],fun _ h=>by cases h⟩
  ·exact .inl ⟨by simp [h1,h2],by omega,by omega⟩) (by
  refine ⟨.inl (),?_,fun h _=>h⟩
  simp only [fN,pA,if_false])
 exact ⟨x,hx,hq⟩
structure aFK (r:aB) (c:aW):Prop where
 feasts:c.Feasts.length <= 60
 shut:c.Shut.length <= 200
 order:0 <= c.Order ∧ c.Order < r.Orders.length
 cur:0 <= c.Currency ∧ c.Currency < r.Currencies.length
 rest:Ris c.Rest 0 6
 feastsR:Ris c.Feasts 101 1231
 shutR:Ris c.Shut 0 100000
 days:∀ i,i < c.Feasts.length->1 <= (el c.Feasts i).tmod 100 ∧ (el c.Feasts i).tmod 100 <= 31
theorem aDO (r:aB) (c:aW) (h1:c.Feasts.length < 9223372036854775807) (h2:c.Shut.length < 9223372036854775807) (h3:c.Rest.length < 9223372036854775807):∃ b,pK r c = some b ∧ (b = true->aFK r c):=by
 unfold pK
 obtain ⟨x,hx,hq⟩:=RY r c h1
 rw [hx]
 obtain ⟨b1,e1,q1⟩:=yQ c.Rest 0 6 h3
 obtain ⟨b2,e2,q2⟩:=yQ c.Feasts 101 1231 h1
 obtain ⟨b3,e3,q3⟩:=yQ c.Shut 0 100000 h2
 cases x with
 | inr u=>exact ⟨false,rfl,fun h=>by cases h⟩
 | inl u =>
  simp only [Option.bind_some,Sum.elim_inl,BC,e1,e2,e3,decide_eq_true_eq]
  by_cases g1:(c.Feasts.length:Int) > 60
  ·exact ⟨false,by simp [g1],fun h=>by cases h⟩
  by_cases g2:(c.Shut.length:Int) > 200
  ·exact ⟨false,by simp [g1,g2],fun h=>by cases h⟩
  by_cases g3:0 <= c.Order ∧ c.Order < (r.Orders.length:Int)
  ·by_cases g4:0 <= c.Currency ∧ c.Currency < (r.Currencies.length:Int)
   ·cases b1 with
    | false=>exact ⟨false,by simp [g1,g2,g3,g4],fun h=>by cases h⟩
    | true=>cases b2 with
     | false=>exact ⟨false,by simp [g1,g2,g3,g4],fun h=>by cases h⟩
     | true =>
      refine ⟨b3,by simp [g1,g2,g3,g4],fun h=>⟨by omega,by omega,g3,g4,q1 rfl,q2 rfl,q3 h,hq rfl⟩⟩
   ·exact ⟨false,by simp [g1,g2,g3,g4],fun h=>by cases h⟩
  ·exact ⟨false,by simp [g1,g2,g3],fun h=>by cases h⟩
structure aE5 (o:aC):Prop where
 by_:∀ i,i < o.Choices.length->0 <= (el o.Choices i).By ∧ (el o.Choices i).By < 5
 ask:Ris (o.Choices.map (·.Ask)) 0 21
 rules:Ris (o.Rules.map (·.Ask)) 0 21
theorem LV {α β:Type} [Inhabited α] (f:α->β) (l:List α) (i:Nat) (h:i < l.length):(l.take i).map f ++ [f (el l i)] = (l.take (i + 1)).map f:=by
 rw [uM l i h,← List.map_singleton (f:=f),← List.map_append,List.take_append_getElem h]
theorem ZI (o:aC) (h1:o.Choices.length <= 40) (h2:o.Rules.length <= 40):∃ b,nJ o = some b ∧ (b = true->aE5 o):=by
 have l1:∃ x,qQ o 0 [] = some x ∧ (∀ l,x = .inl l->l = o.Choices.map (·.Ask) ∧ ∀ i,i < o.Choices.length->0 <= (el o.Choices i).By ∧ (el o.Choices i).By < 5):=by
  obtain ⟨x,hx,hq⟩:=lD (step:=fun w=>eQ o w.1 w.2) (fun i=>((i:Int),(o.Choices.take i).map (·.Ask))) o.Choices.length (fun i=>0 <= (el o.Choices i).By ∧ (el o.Choices i).By < 5) (fun x=>∀ l,x = .inl l->l = o.Choices.map (·.Ask) ∧ ∀ i,i < o.Choices.length->0 <= (el o.Choices i).By ∧ (el o.Choices i).By < 5) (by
   intro i hi
   have hc:(((o.Choices.take i).map (·.Ask)).length + 1) * 8 <= 140737488355328:=by simp; omega
   simp only [eQ,nG hi,if_true,fI _ _ hi,Option.bind_some,bC (show i < 9223372036854775807 by omega),BC]
   rw [if_pos hc]
   by_cases g:0 <= (el o.Choices i).By ∧ (el o.Choices i).By < 5
   ·refine .inl ⟨?_,g⟩
    rw [← LV (·.Ask) o.Choices i hi]
    simp [g]
   ·exact .inr ⟨.inr (),by simp [g],fun _ l h=>by cases h⟩) (by
   refine ⟨.inl (o.Choices.map (·.Ask)),?_,fun h l e=>⟨by cases e; rfl,h⟩⟩
   simp only [eQ,pA,if_false,List.take_length])
  exact ⟨x,hx,hq⟩
 have l2:∀ z,qP o z 0 [] = some (o.Rules.map (·.Ask)):=by
  intro z
  refine (mJ (step:=fun w=>eS o z w.1 w.2) (fun i=>((i:Int),(o.Rules.take i).map (·.Ask))) o.Rules.length (o.Rules.map (·.Ask)) ?_ ?_)
  ·intro i hi
   have hc:(((o.Rules.take i).map (·.Ask)).length + 1) * 8 <= 140737488355328:=by simp; omega
   simp only [eS,nG hi,if_true,fI _ _ hi,Option.bind_some,bC (show i < 9223372036854775807 by omega)]
   rw [if_pos hc,← LV (·.Ask) o.Rules i hi]
  ·simp only [eS,pA,if_false,List.take_length]
 unfold nJ
 obtain ⟨x,hx,hq⟩:=l1
 rw [hx]
 cases x with
 | inr u=>exact ⟨false,rfl,fun h=>by cases h⟩
 | inl l =>
  obtain ⟨rfl,hb⟩:=hq l rfl
  obtain ⟨b1,e1,q1⟩:=yQ (o.Choices.map (·.Ask)) 0 21 (by simp; omega)
  obtain ⟨b2,e2,q2⟩:=yQ (o.Rules.map (·.Ask)) 0 21 (by simp; omega)
  simp only [Option.bind_some,Sum.elim_inl,l2,e1,e2]
  cases b1 with
  | false=>exact ⟨false,by simp,fun h=>by cases h⟩
  | true=>exact ⟨b2,by simp,fun h=>⟨hb,q1 rfl,q2 h⟩⟩
theorem WG (r:aB) (f:aK3 r):sP r = some (r.Cities.map (·.Name),r.Firms.map (·.Name),r.Orders.map (·.Name)):=by
 have h1:=f.cit
 have h2:=f.frm
 have h3:=f.ord
 have l1:uU r 0 [] = some (r.Cities.map (·.Name)):=by
  refine (mJ (step:=fun w=>iT r w.1 w.2) (fun i=>((i:Int),(r.Cities.take i).map (·.Name))) r.Cities.length _ ?_ ?_)
  ·intro i hi
   have hc:(((r.Cities.take i).map (·.Name)).length + 1) * 16 <= 140737488355328:=by simp; omega
   simp only [iT,nG hi,if_true,fI _ _ hi,Option.bind_some,bC (show i < 9223372036854775807 by omega)]
   rw [if_pos hc,← LV (·.Name) r.Cities i hi]
  ·simp only [iT,pA,if_false,List.take_length]
 have l2:∀ z,uO r z 0 [] = some (r.Firms.map (·.Name)):=by
  intro z
  refine (mJ (step:=fun w=>i7 r z w.1 w.2) (fun i=>((i:Int),(r.Firms.take i).map (·.Name))) r.Firms.length _ ?_ ?_)
  ·intro i hi
   have hc:(((r.Firms.take i).map (·.Name)).length + 1) * 16 <= 140737488355328:=by simp; omega
   simp only [i7,nG hi,if_true,fI _ _ hi,Option.bind_some,bC (show i < 9223372036854775807 by omega)]
   rw [if_pos hc,← LV (·.Name) r.Firms i hi]
  ·simp only [i7,pA,if_false,List.take_length]
 have l3:∀ z z',uT r z z' 0 [] = some (r.Orders.map (·.Name)):=by
  intro z z'
  refine (mJ (step:=fun w=>jE r z z' w.1 w.2) (fun i=>((i:Int),(r.Orders.take i).map (·.Name))) r.Orders.length _ ?_ ?_)
  ·intro i hi
   have hc:(((r.Orders.take i).map (·.Name)).length + 1) * 16 <= 140737488355328:=by simp; omega
   simp only [jE,nG hi,if_true,fI _ _ hi,Option.bind_some,bC (show i < 9223372036854775807 by omega)]
   rw [if_pos hc,← LV (·.Name) r.Orders i hi]
  ·simp only [jE,pA,if_false,List.take_length]
 unfold sP
 simp only [l1,l2,l3,Option.bind_some]
theorem GI (l:List ByteArray) (hl:l.length < 9223372036854775807) (hw:∀ x ∈ l,Ws x) (step:Int->Option (Int ⊕ (Unit ⊕ Int))) (fine:Int->Option Bool)
  (hs:∀ p,step p = if decide (p < (l.length:Int)) = true then (gO l p).bind fun (r2:Int)=>if (r2 != 0) = true then some (.inr (.inr (r2))) else (fine p).bind fun (r3:Bool)=>if (!(r3)) = true then some (.inr (.inr (1))) else some (.inl (IntKind.wrap .i64 (p + 1))) else some (.inr (.inl ())))
  (F:Nat->Prop) (hf:∀ i,i < l.length->∃ b,fine (i:Int) = some b ∧ (b = true->F i)):∃ x,eO step 0 = some x ∧ (x = .inl ()->∀ i,i < l.length->F i) ∧ ∀ e,x = .inr e->e ≠ 0:=by
 refine lD (step:=step) (fun i=>(i:Int)) l.length F (fun x=>(x = .inl ()->∀ i,i < l.length->F i) ∧ ∀ e,x = .inr e->e ≠ 0) ?_ ?_
 ·intro i hi
  obtain ⟨e,he⟩:=XF l i hi hl hw
  obtain ⟨b,hb,hF⟩:=hf i hi
  rw [hs]
  simp only [nG hi,if_true,he,hb,Option.bind_some,bC (show i < 9223372036854775807 by omega)]
  by_cases h0:e = 0
  ·cases b with
   | true=>exact .inl ⟨by simp [h0],hF rfl⟩
   | false=>exact .inr ⟨.inr 1,by simp [h0],fun _=>⟨(fun h=>nomatch h),fun e h=>by cases h; decide⟩⟩
  ·exact .inr ⟨.inr e,by simp [h0],fun _=>⟨(fun h=>nomatch h),fun e' h=>by cases h; exact h0⟩⟩
 ·refine ⟨.inl (),?_,fun h=>⟨fun _=>h,fun e h=>nomatch h⟩⟩
  rw [hs]
  simp only [pA,if_false]
theorem L1 (l:List ByteArray) (most:Int) (F:Nat->Prop) {o:Option (Unit ⊕ Int)} (h:∃ x,o = some x ∧ (x = .inl ()->∀ i,i < l.length->F i) ∧ ∀ e,x = .inr e->e ≠ 0) :
  ∃ e,(if decide ((l.length:Int) > most) = true then some 6 else o.bind fun (r5:Unit ⊕ Int)=>Sum.elim (fun z6=>some (0:Int)) (fun z7=>some z7) r5) = some e ∧ (e = 0->(l.length:Int) <= most ∧ ∀ i,i < l.length->F i):=by
 obtain ⟨x,hx,h1,h2⟩:=h
 by_cases g:(l.length:Int) > most
 ·exact ⟨6,by simp [g],fun h=>by cases h⟩
 ·cases x with
  | inl u=>exact ⟨0,by simp [g,hx],fun _=>⟨by omega,h1 rfl⟩⟩
  | inr e=>exact ⟨e,by simp [g,hx],fun h=>absurd h (h2 e rfl)⟩
theorem ZF {α:Type} (f:α->ByteArray) (l:List α) (h:∀ x ∈ l,Ws (f x)):∀ s ∈ l.map f,Ws s:=by
 intro s hs
 obtain ⟨x,hx,rfl⟩:=List.mem_map.1 hs
 exact h x hx
theorem L9 (r:aB) (p:Int) (x:aO) (h:r.Usances.length < 110):∃ z,mW r p x 0 = some z:=by
 obtain ⟨z,hz,_⟩:=lD (step:=fun w=>dG r p x w) (fun i=>(i:Int)) (lZ r.Usances 0 p).length (fun _=>True) (fun _=>True) (by
  intro i hi
  have:(lZ r.Usances 0 p).length <= r.Usances.length:=by simp [lZ]; omega
  simp only [dG,nG hi,if_true,fI _ _ hi,Option.bind_some,bC (show i < 9223372036854775807 by omega)]
  repeat' split
  all_goals simp) (by
  refine ⟨.inl (),?_,fun _=>trivial⟩
  simp only [dG,pA,if_false])
 exact ⟨z,hz⟩
def aA0 (r:aB):Prop:=∀ i,i < r.Usances.length->(0 <= (el r.Usances i).From ∧ (el r.Usances i).From < r.Cities.length) ∧ (0 <= (el r.Usances i).To ∧ (el r.Usances i).To < r.Cities.length) ∧ 1 <= (el r.Usances i).Days ∧ (el r.Usances i).Days <= 20000
theorem TW (r:aB) (h:r.Usances.length < 110):∃ e,kM r = some e ∧ (e = 0->aA0 r):=by
 have l2:∃ x,rZ r 0 = some x ∧ (x = .inl ()->aA0 r) ∧ ∀ e,x = .inr e->e ≠ 0:=by
  obtain ⟨x,hx,hq⟩:=lD (step:=fun w=>dF r w) (fun i=>(i:Int)) r.Usances.length (fun i=>(0 <= (el r.Usances i).From ∧ (el r.Usances i).From < r.Cities.length) ∧ (0 <= (el r.Usances i).To ∧ (el r.Usances i).To < r.Cities.length) ∧ 1 <= (el r.Usances i).Days ∧ (el r.Usances i).Days <= 20000) (fun x=>(x = .inl ()->aA0 r) ∧ ∀ e,x = .inr e->e ≠ 0) (by
   intro i hi
   simp only [dF,nG hi,if_true,fI _ _ hi,Option.bind_some,bC (show i < 9223372036854775807 by omega),BC,decide_eq_true_eq]
   by_cases g1:0 <= (el r.Usances i).From ∧ (el r.Usances i).From < r.Cities.length
   ·by_cases g2:0 <= (el r.Usances i).To ∧ (el r.Usances i).To < r.Cities.length
    ·by_cases g3:(el r.Usances i).Days < 1
     ·exact .inr ⟨.inr 1,by simp [g1,g2,g3],fun _=>⟨(fun h=>nomatch h),fun e h=>by cases h; decide⟩⟩
     by_cases g4:(el r.Usances i).Days > 20000
     ·exact .inr ⟨.inr 1,by simp [g1,g2,g3,g4],fun _=>⟨(fun h=>nomatch h),fun e h=>by cases h; decide⟩⟩
     obtain ⟨z,hz⟩:=L9 r i (el r.Usances i) h
     have hok:yF r.Usances.length 0 (i:Int):=⟨Int.le_refl _,by omega,by omega⟩
     cases z with
     | inl u=>exact .inl ⟨by simp [g1,g2,g3,g4,hok,hz],g1,g2,by omega,by omega⟩
     | inr u=>exact .inr ⟨.inr 5,by simp [g1,g2,g3,g4,hok,hz],fun _=>⟨(fun h=>nomatch h),fun e h=>by cases h; decide⟩⟩
    ·exact .inr ⟨.inr 1,by simp [g1,g2],fun _=>⟨(fun h=>nomatch h),fun e h=>by cases h; decide⟩⟩
   ·exact .inr ⟨.inr 1,by simp [g1],fun _=>⟨(fun h=>nomatch h),fun e h=>by cases h; decide⟩⟩) (by
   refine ⟨.inl (),?_,fun h=>⟨fun _=>h,fun e h=>nomatch h⟩⟩
   simp only [dF,pA,if_false])
  exact ⟨x,hx,hq⟩
 obtain ⟨x,hx,h1,h2⟩:=l2
 unfold kM
 by_cases g:(r.Usances.length:Int) > 100
 ·exact ⟨6,by simp [g],fun h=>by cases h⟩
 ·cases x with
  | inl u=>exact ⟨0,by simp [g,hx],fun _=>h1 rfl⟩
  | inr e=>exact ⟨e,by simp [g,hx],fun h=>absurd h (h2 e rfl)⟩
def aA1 (r:aB):Prop:=∀ i,i < r.Halts.length->(0 <= (el r.Halts i).Order ∧ (el r.Halts i).Order < r.Orders.length) ∧ 0 <= (el r.Halts i).From ∧ (el r.Halts i).From <= (el r.Halts i).To ∧ (el r.Halts i).To <= 100000
theorem aDw (r:aB) (hr:r.Rates.length < 110) (hh:r.Halts.length < 50):∃ e,pF r = some e ∧ (e = 0->r.Halts.length <= 20 ∧ aA1 r):=by
 have l1:∃ x,sD r 0 = some x:=by
  obtain ⟨x,hx,hq⟩:=lD (step:=fun w=>fL r w) (fun i=>(i:Int)) r.Rates.length (fun i=>True) (fun _=>True) (by
   intro i hi
   simp only [fL,nG hi,if_true,fI _ _ hi,Option.bind_some,bC (show i < 9223372036854775807 by omega),BC]
   repeat' split
   all_goals simp) (by
   refine ⟨.inl (),?_,fun _=>trivial⟩
   simp only [fL,pA,if_false])
  exact ⟨x,hx⟩
 have l2:∃ x,sF r 0 = some x ∧ (x = .inl ()->aA1 r):=by
  obtain ⟨x,hx,hq⟩:=lD (step:=fun w=>fM r w) (fun i=>(i:Int)) r.Halts.length (fun i=>(0 <= (el r.Halts i).Order ∧ (el r.Halts i).Order < r.Orders.length) ∧ 0 <= (el r.Halts i).From ∧ (el r.Halts i).From <= (el r.Halts i).To ∧ (el r.Halts i).To <= 100000) (fun x=>x = .inl ()->aA1 r) (by
   intro i hi
   simp only [fM,nG hi,if_true,fI _ _ hi,Option.bind_some,bC (show i < 9223372036854775807 by omega),BC,decide_eq_true_eq]
   by_cases g1:0 <= (el r.Halts i).Order ∧ (el r.Halts i).Order < r.Orders.length
   ·by_cases g2:(el r.Halts i).From < 0
    ·exact .inr ⟨.inr (),by simp [g1,g2],fun _ h=>by cases h⟩
    by_cases g3:(el r.Halts i).From > (el r.Halts i).To
    ·exact .inr ⟨.inr (),by simp [g1,g2,g3],fun _ h=>by cases h⟩
    by_cases g4:(el r.Halts i).To > 100000
    ·exact .inr ⟨.inr (),by simp [g1,g2,g3,g4],fun _ h=>by cases h⟩
    ·exact .inl ⟨by simp [g1,g2,g3,g4],g1,by omega,by omega,by omega⟩
   ·exact .inr ⟨.inr (),by simp [g1],fun _ h=>by cases h⟩) (by
   refine ⟨.inl (),?_,fun h _=>h⟩
   simp only [fM,pA,if_false])
  exact ⟨x,hx,hq⟩
 obtain ⟨x,hx⟩:=l1
 obtain ⟨y,hy,q⟩:=l2
 unfold pF
 by_cases g:(r.Rates.length:Int) > 100
 ·exact ⟨6,by simp [g],fun h=>by cases h⟩
 ·cases x with
  | inr u=>exact ⟨1,by simp [g,hx],fun h=>by cases h⟩
  | inl u =>
   by_cases g2:(r.Halts.length:Int) > 20
   ·exact ⟨6,by simp [g,hx,g2],fun h=>by cases h⟩
   ·cases y with
    | inr u=>exact ⟨1,by simp [g,hx,g2,hy],fun h=>by cases h⟩
    | inl u=>exact ⟨0,by simp [g,hx,g2,hy],fun _=>⟨by omega,q rfl⟩⟩
structure aAl (r:aB):Prop where
 cities:r.Cities.length <= 40 ∧ ∀ i,i < r.Cities.length->aFK r (el r.Cities i)
 groups:r.Groups.length <= 20 ∧ ∀ i,i < r.Groups.length->0 <= (el r.Groups i).Grade ∧ (el r.Groups i).Grade < 10
 firms:r.Firms.length <= 200 ∧ ∀ i,i < r.Firms.length->(0 <= (el r.Firms i).City ∧ (el r.Firms i).City < r.Cities.length) ∧ 0 <= (el r.Firms i).Group ∧ (el r.Firms i).Group < r.Groups.length
 orders:r.Orders.length <= 20 ∧ ∀ i,i < r.Orders.length->aE5 (el r.Orders i)
 usances:aA0 r
 halts:r.Halts.length <= 20 ∧ aA1 r
theorem aAa (r:aB) (f:NK r) (w:aB.wf r):∃ e,gN r = some e ∧ (e = 0->aAl r):=by
 obtain ⟨w1,w2,w3,w4,w5,w6,w7,w8⟩:=w
 have a1:∃ e,kK r.Currencies 8 = some e ∧ (e = 0->(r.Currencies.length:Int) <= 8 ∧ ∀ i,i < r.Currencies.length->True):=by
  unfold kK
  refine L1 r.Currencies 8 (fun _=>True) ?_
  exact GI r.Currencies (by have:=f.cur; omega) w1.2 (fun w=>jP r.Currencies w) oG (fun p=>rfl) (fun _=>True) (fun i hi=>⟨true,rfl,fun _=>trivial⟩)
 have hcl:(r.Cities.map (·.Name)).length = r.Cities.length:=by simp
 have hfl:(r.Firms.map (·.Name)).length = r.Firms.length:=by simp
 have hol:(r.Orders.map (·.Name)).length = r.Orders.length:=by simp
 have a2:∃ e,kG (r.Cities.map (·.Name)) 40 r = some e ∧ (e = 0->((r.Cities.map (·.Name)).length:Int) <= 40 ∧ ∀ i,i < (r.Cities.map (·.Name)).length->aFK r (el r.Cities i)):=by
  unfold kG
  refine L1 (r.Cities.map (·.Name)) 40 _ ?_
  refine GI (r.Cities.map (·.Name)) (by have:=f.cit; omega) (ZF _ _ fun x hx=>(w2.2 x hx).1) (fun w=>jM (r.Cities.map (·.Name)) r w) (fun p=>hY p r) (fun p=>rfl) _ (fun i hi=>?_)
  rw [hcl] at hi
  obtain ⟨q1,q2,q3⟩:=f.cityL i hi
  obtain ⟨b,e1,e2⟩:=aDO r (el r.Cities i) (by omega) (by omega) (by omega)
  exact ⟨b,by simp only [hY,fI _ _ hi,Option.bind_some,e1],e2⟩
 have a3:∃ e,kN (r.Firms.map (·.Name)) 200 r = some e ∧ (e = 0->((r.Firms.map (·.Name)).length:Int) <= 200 ∧ ∀ i,i < (r.Firms.map (·.Name)).length->(0 <= (el r.Firms i).City ∧ (el r.Firms i).City < r.Cities.length) ∧ 0 <= (el r.Firms i).Group ∧ (el r.Firms i).Group < r.Groups.length):=by
  unfold kN
  refine L1 (r.Firms.map (·.Name)) 200 _ ?_
  refine GI (r.Firms.map (·.Name)) (by have:=f.frm; omega) (ZF _ _ fun x hx=>(w4.2 x hx).1) (fun w=>jN (r.Firms.map (·.Name)) r w) (fun p=>fV p r) (fun p=>rfl) _ (fun i hi=>?_)
  rw [hfl] at hi
  by_cases g:0 <= (el r.Firms i).City ∧ (el r.Firms i).City < r.Cities.length
  ·exact ⟨_,by simp only [fV,fI _ _ hi,Option.bind_some,BC,decide_eq_true_eq]; rw [if_pos g],fun h=>⟨g,by simpa using h⟩⟩
  ·exact ⟨_,by simp only [fV,fI _ _ hi,Option.bind_some,BC,decide_eq_true_eq]; rw [if_neg g],fun h=>by cases h⟩
 have a4:∃ e,kI (r.Orders.map (·.Name)) 20 r = some e ∧ (e = 0->((r.Orders.map (·.Name)).length:Int) <= 20 ∧ ∀ i,i < (r.Orders.map (·.Name)).length->aE5 (el r.Orders i)):=by
  unfold kI
  refine L1 (r.Orders.map (·.Name)) 20 _ ?_
  refine GI (r.Orders.map (·.Name)) (by have:=f.ord; omega) (ZF _ _ fun x hx=>(w5.2 x hx).1) (fun w=>jL (r.Orders.map (·.Name)) r w) (fun p=>hJ p r) (fun p=>rfl) _ (fun i hi=>?_)
  rw [hol] at hi
  obtain ⟨q1,q2⟩:=f.orderL i hi
  obtain ⟨b,e1,e2⟩:=ZI (el r.Orders i) (by omega) (by omega)
  exact ⟨b,by simp only [hJ,fI _ _ hi,Option.bind_some,e1],e2⟩
 have a5:∀ z,∃ x,qT r z 0 = some x ∧ (x = .inl ()->∀ i,i < r.Groups.length->0 <= (el r.Groups i).Grade ∧ (el r.Groups i).Grade < 10):=by
  intro z
  obtain ⟨x,hx,hq⟩:=lD (step:=fun w=>eR r z w) (fun i=>(i:Int)) r.Groups.length (fun i=>0 <= (el r.Groups i).Grade ∧ (el r.Groups i).Grade < 10) (fun x=>x = .inl ()->∀ i,i < r.Groups.length->0 <= (el r.Groups i).Grade ∧ (el r.Groups i).Grade < 10) (by
   intro i hi
   have:=f.grp
   simp only [eR,nG hi,if_true,fI _ _ hi,Option.bind_some,bC (show i < 9223372036854775807 by omega),BC]
   by_cases g:0 <= (el r.Groups i).Grade ∧ (el r.Groups i).Grade < 10
   ·exact .inl ⟨by simp [g],g⟩
   ·exact .inr ⟨.inr (),by simp [g],fun _ h=>by cases h⟩) (by
   refine ⟨.inl (),?_,fun h _=>h⟩
   simp only [eR,pA,if_false])
  exact ⟨x,hx,hq⟩
 obtain ⟨e1,g1,q1⟩:=a1
 obtain ⟨e2,g2,q2⟩:=a2
 obtain ⟨e3,g3,q3⟩:=a3
 obtain ⟨e4,g4,q4⟩:=a4
 obtain ⟨x,hx,qx⟩:=a5 (r.Cities.map (·.Name),r.Firms.map (·.Name),r.Orders.map (·.Name))
 obtain ⟨e5,g5,q5⟩:=TW r f.usa
 obtain ⟨e6,g6,q6⟩:=aDw r f.rat f.hal
 unfold gN
 simp only [WG r f.big,Option.bind_some,g1,g2,g3,g4,g5,g6,hx]
 by_cases z1:e1 = 0
 ·by_cases z2:e2 = 0
  ·by_cases gg:(r.Groups.length:Int) > 20
   ·exact ⟨6,by simp [z1,z2,gg],fun h=>by cases h⟩
   ·cases x with
    | inr u=>exact ⟨1,by simp [z1,z2,gg],fun h=>by cases h⟩
    | inl u =>
     by_cases z3:e3 = 0
     ·by_cases z4:e4 = 0
      ·by_cases z5:e5 = 0
       ·refine ⟨e6,by simp [z1,z2,gg,z3,z4,z5],fun z6=>?_⟩
        rw [hcl] at q2
        rw [hfl] at q3
        rw [hol] at q4
        exact ⟨⟨by have:=(q2 z2).1; omega,(q2 z2).2⟩,⟨by omega,qx rfl⟩,⟨by have:=(q3 z3).1; omega,(q3 z3).2⟩,⟨by have:=(q4 z4).1; omega,(q4 z4).2⟩,q5 z5,q6 z6⟩
       ·exact ⟨e5,by simp [z1,z2,gg,z3,z4,z5],fun h=>absurd h z5⟩
      ·exact ⟨e4,by simp [z1,z2,gg,z3,z4],fun h=>absurd h z4⟩
     ·exact ⟨e3,by simp [z1,z2,gg,z3],fun h=>absurd h z3⟩
  ·exact ⟨e2,by simp [z1,z2],fun h=>absurd h z2⟩
 ·exact ⟨e1,by simp [z1],fun h=>absurd h z1⟩
end Go.Proofs.Ytjjcaapdaldedaa
