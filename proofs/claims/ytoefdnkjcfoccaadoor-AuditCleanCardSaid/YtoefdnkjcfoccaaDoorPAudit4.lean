/- Lemmas on the answers. -/
import Derived.Test.YtoefdnkjcfoccaaDoorPAudit3
import Derived.Test.YtoefdnkjcfoccaaDoorPReal9
namespace Go.Proofs.YtoefdnkjcfoccaaDoor
open Go.RowKit Vm
theorem aOG (cs:List aQ) (ask:Int) (h:∀ j,j < cs.length->0 <= (el cs j).By ∧ (el cs j).By < 5):0 <= (PI cs ask).1 ∧ (PI cs ask).1 < 5:=by
 unfold PI
 cases e:m6 (fun i=>if (el cs i).Ask = ask ∧ (el cs i).By ≠ 0 then some ((el cs i).By,(el cs i).Whole) else none) 0 cs.length with
 | none=>simp
 | some x =>
  obtain ⟨i,_,h2,q,_⟩:=BL _ _ e
  split at q
  ·cases q; exact h i (by omega)
  ·cases q
theorem V7 {r:aB} (f:XN r) (h:YI r) (hn:r.Orders.length <= 3):qU r :=
 ⟨hn,fun i hi=>by have:=f.orderL i hi; omega,fun i hi ask=>aOG _ _ (h.orders.2 i hi).by_⟩
def HP (r:aB) (f q:Int):Option aA × Option aA:=rB (none,none) (aMO r f q)
def IC (p:Option aA × Option aA):List aA:=p.1.toList ++ p.2.toList
def aCO (r:aB) (f:Int):List aA:=(List.range 22).flatMap fun (q:Nat)=>IC (HP r f q)
def FC (r:aB):List aA:=(List.range r.Orders.length).flatMap fun (f:Nat)=>aCO r f
theorem aAi (p:Option aA × Option aA):(IC p).length <= 2:=by
 obtain ⟨a,b⟩:=p
 cases a <;> cases b <;> simp [IC]
theorem OE {α β:Type} (g:α->List β) (c:Nat) (h:∀ a,(g a).length <= c):∀ l:List α,(l.flatMap g).length <= c * l.length
 | []=>by simp
 | a :: l=>by
  have:=OE g c h l
  have:=h a
  simp only [ì,ß,Ø,Nat.mul_succ]
  omega
theorem SU {β:Type} (g:Nat->List β) (k:Nat):(List.range (k + 1)).flatMap g = (List.range k).flatMap g ++ g k:=by
 rw [List.range_succ,List.flatMap_append]; simp
theorem aSL (r:aB) (f q:Int) (x:aD) (out:List aA) (h:out.length < 1000):rP r f q x 0 out = some (out ++ IC (x.e0,x.e1)):=by
 have j:∀ (p:Int) (o:List aA) (e:Option aA),o.length < 1002->nI r f q p o x e = some (o ++ e.toList):=by
  intro p o e ho
  unfold nI
  cases e with
  | none=>simp
  | some y=>simp only [Option.isSome_some,Ë,À]; rw [Â (by omega)]; rfl
 unfold rP
 rw [pH (s':=((1:Int),out ++ x.e0.toList))]
 ·rw [pH (s':=((2:Int),(out ++ x.e0.toList) ++ x.e1.toList))]
  ·rw [jP (x:=(out ++ x.e0.toList) ++ x.e1.toList)]
   ·simp [IC]
   ·simp [jN]
  ·have hl:(out ++ x.e0.toList).length < 1002:=by cases x.e0 <;> simp <;> omega
   simp only [jN,show decide ((1:Int) < 2) = true from rfl,Ë,show ¬ ((1:Int) = 0) by decide,È,j _ _ _ hl,À]
   rfl
 ·simp only [jN,show decide ((0:Int) < 2) = true from rfl,Ë,j _ _ _ (show out.length < 1002 by omega),À]
  rfl
theorem aSC (r:aB) (ha:qU r) (f:Int) (hf:0 <= f ∧ f < (r.Orders.length:Int)) (out:List aA) (h:out.length < 500):rO r f 0 out = some (out ++ aCO r f):=by
 unfold rO
 obtain ⟨x,h1,h2⟩:=FG (step:=fun (w:Int × List aA)=>jO r f w.1 w.2) (fun k (a:List aA)=>((k:Int),a)) 22 (fun k a=>a = out ++ (List.range k).flatMap fun (q:Nat)=>IC (HP r f q)) (fun x=>x = out ++ aCO r f) (by
  intro k a hk hI
  have hlen:a.length < 1000:=by
   have:=OE (fun (q:Nat)=>IC (HP r f q)) 2 (fun q=>aAi _) (List.range k)
   rw [hI,ß]
   simp only [List.length_range] at this
   omega
  refine .inl ⟨a ++ IC (HP r f k),?_,?_⟩
  ·have h22:decide ((k:Int) < 22) = true:=by simp; omega
   simp only [jO,h22,Ë,aBM r f (k:Int) ha hf,À,aSL r f _ _ a hlen,b5 (show k < 9223372036854775807 by omega)]
   rfl
  ·rw [hI,SU,ç]) (by
  intro a hI
  exact ⟨a,by simp [jO],hI⟩) out (by simp)
 rw [h2] at h1
 exact h1
theorem aIA (r:aB) (fw:XN r) (w:aB.wf r) (hn:r.Orders.length <= 3):∃ e,nX r = some (if e = 0 then FC r else [],e) ∧ nV r = some e ∧ (e = 0->YI r):=by
 obtain ⟨e,h1,h2⟩:=aC4 r fw w
 refine ⟨e,?_,h1,h2⟩
 unfold nX
 rw [h1]
 simp only [À,bne_iff_ne]
 by_cases h0:e = 0
 ·subst h0
  have ha:=V7 fw (h2 rfl) hn
  simp only [ne_eq,not_true_eq_false,È,Ë]
  obtain ⟨x,g1,g2⟩:=FG (step:=fun (w:Int × List aA)=>jM r w.1 w.2) (fun k (a:List aA)=>((k:Int),a)) r.Orders.length (fun k a=>a = (List.range k).flatMap fun (f:Nat)=>aCO r f) (fun x=>x = FC r) (by
   intro k a hk hI
   have hlen:a.length < 500:=by
    have h22:∀ f:Nat,(aCO r f).length <= 44:=fun f=>OE (fun (q:Nat)=>IC (HP r f q)) 2 (fun q=>aAi _) (List.range 22)
    have:=OE (fun (f:Nat)=>aCO r f) 44 h22 (List.range k)
    rw [hI]
    simp only [List.length_range] at this
    omega
   refine .inl ⟨a ++ aCO r k,?_,?_⟩
   ·simp only [jM,tN hk,Ë,aSC r ha (k:Int) ⟨by omega,by omega⟩ a hlen,À,b5 (show k < 9223372036854775807 by omega)]
   ·rw [hI,SU]) (by
   intro a hI
   exact ⟨_,by simp only [jM,wR,È],hI⟩) [] (by simp)
  rw [g2] at g1
  have g1' : wC r 0 [] = some (FC r):=g1
  rw [g1']
  rfl
 ·simp only [ne_eq,h0,not_false_eq_true,Ë,È]
theorem aAS {X:Type} (g:Nat->Option X) (fin:X):∀ (m k:Nat),yO g fin k m = (m6 g k m).getD fin
 | 0,k=>rfl
 | m + 1,k=>by
  simp only [yO,m6]
  cases g k with
  | none=>exact aAS g fin m (k + 1)
  | some x=>rfl
theorem UG {X Y:Type} (g:Nat->Option X) (t:X->Y):∀ (m k:Nat),m6 (fun i=>(g i).map t) k m = (m6 g k m).map t
 | 0,k=>rfl
 | m + 1,k=>by
  simp only [m6]
  cases g k with
  | none=>exact UG g t m (k + 1)
  | some x=>rfl
theorem aNv (r:aB) (ask:Int) (P:List Int) (o:Int):fS r ask P o = if (dJ r ask o).1 = 0 then (o,false) else (el P (dJ r ask o).1.toNat,(dJ r ask o).2):=by
 unfold fS TR dJ PI
 generalize (el r.Orders o.toNat).Choices = cs
 rw [aAS]
 have hg:(fun i=>if (el cs i).Ask = ask ∧ (el cs i).By ≠ 0 then some (el P (el cs i).By.toNat,(el cs i).Whole) else none) = (fun i=>((fun i=>if (el cs i).Ask = ask ∧ (el cs i).By ≠ 0 then some ((el cs i).By,(el cs i).Whole) else none) i).map fun (x:Int × Bool)=>(el P x.1.toNat,x.2)):=by
  funext i
  by_cases h:(el cs i).Ask = ask ∧ (el cs i).By ≠ 0
  ·simp only [Â h,Ù]
  ·simp only [Ã h,Option.map_none]
 rw [hg,UG]
 cases e:m6 (fun i=>if (el cs i).Ask = ask ∧ (el cs i).By ≠ 0 then some ((el cs i).By,(el cs i).Whole) else none) 0 cs.length with
 | none=>rfl
 | some x =>
  obtain ⟨i,_,_,q,_⟩:=BL _ _ e
  split at q
  ·rename_i hc
   cases q
   simp only [Ù,è,Ã hc.2]
  ·cases q
def aIL (pl P:List Int):Prop:=∀ i,i < 5->el pl i = -1 ∨ el pl i = el P i
theorem aSk {l:List Int} {i j:Nat} {x:Int} (h:i < l.length):el (l.set i x) j = if i = j then x else el l j:=by
 unfold el
 by_cases e:i = j
 ·subst e; simp [h]
 ·simp [e]
structure aWk (r:aB) (f q:Int) (k:Nat) (path pl:List Int) (h:aA) (pl' : List Int):Prop where
 places:h.Places = pl'.map oB
 len:pl'.length = 5
 ext:∀ i,i < 5->el pl i ≠ -1->el pl' i = el pl i
 ins:∀ i,i < 5->el pl' i = -1 ∨ (0 <= el pl' i ∧ el pl' i < (r.Orders.length:Int))
 forum:h.Forum = f
 ask:h.Ask = q
 kind:h.Kind = 0 ∨ h.Kind = 1
 gap:h.Kind = 0->j6 (el r.Orders (bW h.Path).toNat) q = false
 law:∀ P,aIL pl' P->P4 (fS r q P) (qC r) k path = (if h.Kind = 1 then 12 else 0,h.Path)
 short:h.Path.length <= 5
 lastIn:0 <= bW h.Path ∧ bW h.Path < (r.Orders.length:Int) ∧ 0 < h.Path.length
end Go.Proofs.YtoefdnkjcfoccaaDoor
