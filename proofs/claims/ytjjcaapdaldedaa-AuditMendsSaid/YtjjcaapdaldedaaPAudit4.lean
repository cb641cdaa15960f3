/- package audit: Holes as a list; what the situations of search have to do with the law of a question. -/
import Derived.Test.YtjjcaapdaldedaaPAudit3
import Derived.Test.YtjjcaapdaldedaaPReal9
set_option linter.unusedVariables false
set_option linter.unusedSimpArgs false
namespace Go.Proofs.Ytjjcaapdaldedaa
open Go.RowKit Vm
theorem aHA (cs:List aK) (ask:Int) (h:∀ j,j < cs.length->0 <= (el cs j).By ∧ (el cs j).By < 5):0 <= (GC cs ask).1 ∧ (GC cs ask).1 < 5:=by
 unfold GC
 cases e:jX (fun i=>if (el cs i).Ask = ask ∧ (el cs i).By ≠ 0 then some ((el cs i).By,(el cs i).Whole) else none) 0 cs.length with
 | none=>simp
 | some x =>
  obtain ⟨i,_,h2,q,_⟩:=vV _ _ e
  split at q
  ·cases q; exact h i (by omega)
  ·cases q
theorem SI {r:aB} (f:NK r) (h:aAl r) (hn:r.Orders.length <= 3):oV r :=
 ⟨hn,fun i hi=>by have:=f.orderL i hi; omega,fun i hi ask=>aHA _ _ (h.orders.2 i hi).by_⟩
def rJ (r:aB) (f q:Int):Option aA × Option aA:=pM (none,none) (FL r f q)
def AL (p:Option aA × Option aA):List aA:=p.1.toList ++ p.2.toList
def UU (r:aB) (f:Int):List aA:=(List.range 22).flatMap fun (q:Nat)=>AL (rJ r f q)
def vE (r:aB):List aA:=(List.range r.Orders.length).flatMap fun (f:Nat)=>UU r f
theorem QK (p:Option aA × Option aA):(AL p).length <= 2:=by
 obtain ⟨a,b⟩:=p
 cases a <;> cases b <;> simp [AL]
theorem DZ {α β:Type} (g:α->List β) (c:Nat) (h:∀ a,(g a).length <= c):∀ l:List α,(l.flatMap g).length <= c * l.length
 | []=>by simp
 | a :: l=>by
  have:=DZ g c h l
  have:=h a
  simp only [List.flatMap_cons,List.length_append,List.length_cons,Nat.mul_succ]
  omega
theorem PI {β:Type} (g:Nat->List β) (k:Nat):(List.range (k + 1)).flatMap g = (List.range k).flatMap g ++ g k:=by
 rw [List.range_succ,List.flatMap_append]; simp
theorem aKu (r:aB) (f q:Int) (x:aI) (out:List aA) (h:out.length < 1000):qO r f q x 0 out = some (out ++ AL (x.e0,x.e1)):=by
 have j:∀ (p:Int) (o:List aA) (e:Option aA),o.length < 1002->mU r f q p o x e = some (o ++ e.toList):=by
  intro p o e ho
  unfold mU
  cases e with
  | none=>simp
  | some y=>simp only [Option.isSome_some,if_true,Option.bind_some]; rw [if_pos (by omega)]; rfl
 unfold qO
 rw [qV (s':=((1:Int),out ++ x.e0.toList))]
 ·rw [qV (s':=((2:Int),(out ++ x.e0.toList) ++ x.e1.toList))]
  ·rw [mG (x:=(out ++ x.e0.toList) ++ x.e1.toList)]
   ·simp [AL]
   ·simp [jH]
  ·have hl:(out ++ x.e0.toList).length < 1002:=by cases x.e0 <;> simp <;> omega
   simp only [jH,show decide ((1:Int) < 2) = true from rfl,if_true,show ¬ ((1:Int) = 0) by decide,if_false,j _ _ _ hl,Option.bind_some]
   rfl
 ·simp only [jH,show decide ((0:Int) < 2) = true from rfl,if_true,j _ _ _ (show out.length < 1002 by omega),Option.bind_some]
  rfl
theorem aLc (r:aB) (ha:oV r) (f:Int) (hf:0 <= f ∧ f < (r.Orders.length:Int)) (out:List aA) (h:out.length < 500):qM r f 0 out = some (out ++ UU r f):=by
 unfold qM
 obtain ⟨x,h1,h2⟩:=F9 (step:=fun (w:Int × List aA)=>i6 r f w.1 w.2) (fun k (a:List aA)=>((k:Int),a)) 22 (fun k a=>a = out ++ (List.range k).flatMap fun (q:Nat)=>AL (rJ r f q)) (fun x=>x = out ++ UU r f) (by
  intro k a hk hI
  have hlen:a.length < 1000:=by
   have:=DZ (fun (q:Nat)=>AL (rJ r f q)) 2 (fun q=>QK _) (List.range k)
   rw [hI,List.length_append]
   simp only [List.length_range] at this
   omega
  refine .inl ⟨a ++ AL (rJ r f k),?_,?_⟩
  ·have h22:decide ((k:Int) < 22) = true:=by simp; omega
   simp only [i6,h22,if_true,YE r f (k:Int) ha hf,Option.bind_some,aKu r f _ _ a hlen,bC (show k < 9223372036854775807 by omega)]
   rfl
  ·rw [hI,PI,List.append_assoc]) (by
  intro a hI
  exact ⟨a,by simp [i6],hI⟩) out (by simp)
 rw [h2] at h1
 exact h1
theorem GQ (r:aB) (fw:NK r) (w:aB.wf r) (hn:r.Orders.length <= 3):∃ e,fB r = some (if e = 0 then vE r else [],e) ∧ gN r = some e ∧ (e = 0->aAl r):=by
 obtain ⟨e,h1,h2⟩:=aAa r fw w
 refine ⟨e,?_,h1,h2⟩
 unfold fB
 rw [h1]
 simp only [Option.bind_some,bne_iff_ne]
 by_cases h0:e = 0
 ·subst h0
  have ha:=SI fw (h2 rfl) hn
  simp only [ne_eq,not_true_eq_false,if_false,if_true]
  obtain ⟨x,g1,g2⟩:=F9 (step:=fun (w:Int × List aA)=>jB r w.1 w.2) (fun k (a:List aA)=>((k:Int),a)) r.Orders.length (fun k a=>a = (List.range k).flatMap fun (f:Nat)=>UU r f) (fun x=>x = vE r) (by
   intro k a hk hI
   have hlen:a.length < 500:=by
    have h22:∀ f:Nat,(UU r f).length <= 44:=fun f=>DZ (fun (q:Nat)=>AL (rJ r f q)) 2 (fun q=>QK _) (List.range 22)
    have:=DZ (fun (f:Nat)=>UU r f) 44 h22 (List.range k)
    rw [hI]
    simp only [List.length_range] at this
    omega
   refine .inl ⟨a ++ UU r k,?_,?_⟩
   ·simp only [jB,nG hk,if_true,aLc r ha (k:Int) ⟨by omega,by omega⟩ a hlen,Option.bind_some,bC (show k < 9223372036854775807 by omega)]
   ·rw [hI,PI]) (by
   intro a hI
   exact ⟨_,by simp only [jB,pA,if_false],hI⟩) [] (by simp)
  rw [g2] at g1
  have g1' : uQ r 0 [] = some (vE r):=g1
  rw [g1']
  rfl
 ·simp only [ne_eq,h0,not_false_eq_true,if_true,if_false]
theorem XD {b:Option aA} {h x:aA} (e:BI b h = some x):x = h ∨ b = some x:=by
 cases b with
 | none=>cases e; exact .inl rfl
 | some y =>
  simp only [BI] at e
  split at e
  ·cases e; exact .inl rfl
  ·exact .inr e
theorem KP:∀ (l:List aA) (bb:Option aA × Option aA) (x:aA),((pM bb l).1 = some x->bb.1 = some x ∨ (x ∈ l ∧ x.Kind = 0)) ∧ ((pM bb l).2 = some x->bb.2 = some x ∨ (x ∈ l ∧ x.Kind ≠ 0))
 | [],bb,x=>⟨fun h=>.inl h,fun h=>.inl h⟩
 | h :: l,bb,x=>by
  have ih:=KP l (R0 bb h) x
  have e:pM bb (h :: l) = pM (R0 bb h) l:=rfl
  rw [e]
  refine ⟨fun q=>?_,fun q=>?_⟩
  ·rcases ih.1 q with q | q
   ·unfold R0 at q
    split at q
    ·rename_i hk
     rcases XD q with rfl | q
     ·exact .inr ⟨by simp,hk⟩
     ·exact .inl q
    ·exact .inl q
   ·exact .inr ⟨by simp [q.1],q.2⟩
  ·rcases ih.2 q with q | q
   ·unfold R0 at q
    split at q
    ·exact .inl q
    ·rename_i hk
     rcases XD q with rfl | q
     ·exact .inr ⟨by simp,hk⟩
     ·exact .inl q
   ·exact .inr ⟨by simp [q.1],q.2⟩
theorem XT {r:aB} {f q:Int} {h:aA} (e:h ∈ AL (rJ r f q)):h ∈ FL r f q ∧ ((rJ r f q).1 = some h ∧ h.Kind = 0 ∨ (rJ r f q).2 = some h ∧ h.Kind ≠ 0):=by
 unfold AL at e
 have hm:=KP (FL r f q) (none,none) h
 rcases List.mem_append.1 e with e | e
 ·have e' : (rJ r f q).1 = some h:=by simpa using e
  rcases hm.1 e' with c | c
  ·cases c
  ·exact ⟨c.1,.inl ⟨e',c.2⟩⟩
 ·have e' : (rJ r f q).2 = some h:=by simpa using e
  rcases hm.2 e' with c | c
  ·cases c
  ·exact ⟨c.1,.inr ⟨e',c.2⟩⟩
theorem XQ {X:Type} (g:Nat->Option X) (fin:X):∀ (m k:Nat),lU g fin k m = (jX g k m).getD fin
 | 0,k=>rfl
 | m + 1,k=>by
  simp only [lU,jX]
  cases g k with
  | none=>exact XQ g fin m (k + 1)
  | some x=>rfl
theorem PN {X Y:Type} (g:Nat->Option X) (t:X->Y):∀ (m k:Nat),jX (fun i=>(g i).map t) k m = (jX g k m).map t
 | 0,k=>rfl
 | m + 1,k=>by
  simp only [jX]
  cases g k with
  | none=>exact PN g t m (k + 1)
  | some x=>rfl
theorem aA5 (r:aB) (ask:Int) (P:List Int) (o:Int):NB r ask P o = if (c8 r ask o).1 = 0 then (o,false) else (el P (c8 r ask o).1.toNat,(c8 r ask o).2):=by
 unfold NB V9 c8 GC
 generalize (el r.Orders o.toNat).Choices = cs
 rw [XQ]
 have hg:(fun i=>if (el cs i).Ask = ask ∧ (el cs i).By ≠ 0 then some (el P (el cs i).By.toNat,(el cs i).Whole) else none) = (fun i=>((fun i=>if (el cs i).Ask = ask ∧ (el cs i).By ≠ 0 then some ((el cs i).By,(el cs i).Whole) else none) i).map fun (x:Int × Bool)=>(el P x.1.toNat,x.2)):=by
  funext i
  by_cases h:(el cs i).Ask = ask ∧ (el cs i).By ≠ 0
  ·simp only [if_pos h,Option.map_some]
  ·simp only [if_neg h,Option.map_none]
 rw [hg,PN]
 cases e:jX (fun i=>if (el cs i).Ask = ask ∧ (el cs i).By ≠ 0 then some ((el cs i).By,(el cs i).Whole) else none) 0 cs.length with
 | none=>rfl
 | some x =>
  obtain ⟨i,_,_,q,_⟩:=vV _ _ e
  split at q
  ·rename_i hc
   cases q
   simp only [Option.map_some,Option.getD_some,if_neg hc.2]
  ·cases q
def aKX (pl P:List Int):Prop:=∀ i,i < 5->el pl i = -1 ∨ el pl i = el P i
theorem aAB {l:List Int} {i j:Nat} {x:Int} (h:i < l.length):el (l.set i x) j = if i = j then x else el l j:=by
 unfold el
 by_cases e:i = j
 ·subst e; simp [h]
 ·simp [e]
structure aD6 (r:aB) (f q:Int) (k:Nat) (path pl:List Int) (h:aA) (pl' : List Int):Prop where
 places:h.Places = pl'.map qU
 len:pl'.length = 5
 ext:∀ i,i < 5->el pl i ≠ -1->el pl' i = el pl i
 ins:∀ i,i < 5->el pl' i = -1 ∨ (0 <= el pl' i ∧ el pl' i < (r.Orders.length:Int))
 forum:h.Forum = f
 ask:h.Ask = q
 kind:h.Kind = 0 ∨ h.Kind = 1
 gap:h.Kind = 0->jY (el r.Orders (bT h.Path).toNat) q = false
 law:∀ P,aKX pl' P->aAO (NB r q P) (xL r) k path = (if h.Kind = 1 then 12 else 0,h.Path)
 short:h.Path.length <= 5
 lastIn:0 <= bT h.Path ∧ bT h.Path < (r.Orders.length:Int) ∧ 0 < h.Path.length
theorem KI {r:aB} {f q:Int} {c:Bool} {pl path:List Int} {h:aA} (e:h ∈ jC r f q c pl path):h = aA.mk (if c = true then 1 else 0) f q (pl.map qU) path ∧ (c = false->jY (el r.Orders (bT path).toNat) q = false):=by
 unfold jC at e
 cases c with
 | true=>simp only [if_true,List.mem_singleton] at e; exact ⟨e,fun h=>nomatch h⟩
 | false =>
  simp only [Bool.false_eq_true,if_false] at e
  cases hr:jY (el r.Orders (bT path).toNat) q with
  | true=>rw [hr] at e; simp at e
  | false=>rw [hr] at e; simp at e; exact ⟨e,fun _=>rfl⟩
theorem RD {r:aB} {f q:Int} {c:Bool} {k:Nat} {path0 pl0 pl path:List Int} {h:aA} (e:h ∈ jC r f q c pl path) (hl:pl.length = 5)
  (hext:∀ i,i < 5->el pl0 i ≠ -1->el pl i = el pl0 i) (hins:∀ i,i < 5->el pl i = -1 ∨ (0 <= el pl i ∧ el pl i < (r.Orders.length:Int)))
  (hlaw:∀ P,aKX pl P->aAO (NB r q P) (xL r) k path0 = (if c = true then 12 else 0,path)) (hs:path.length <= 5) (hin:0 <= bT path ∧ bT path < (r.Orders.length:Int) ∧ 0 < path.length):aD6 r f q k path0 pl0 h pl:=by
 obtain ⟨rfl,h2⟩:=KI e
 refine ⟨rfl,hl,hext,hins,rfl,rfl,?_,?_,?_,hs,hin⟩
 ·cases c <;> simp
 ·intro hk; cases c with
  | true=>simp at hk
  | false=>exact h2 rfl
 ·intro P hP; rw [hlaw P hP]; cases c <;> simp
theorem O2 (r:aB) (ha:oV r) (f q:Int):∀ (d:Nat) (pl path:List Int) (m k:Nat),AF r path m->k + m = r.Orders.length + 1->pl.length = 5->(∀ i,i < 5->el pl i = -1 ∨ (0 <= el pl i ∧ el pl i < (r.Orders.length:Int))) ->
  ∀ h,h ∈ gH r f q d pl path->∃ pl',aD6 r f q k path pl h pl'
 | 0,pl,path,m,k,hp,hk,hl,hi,h,hm=>by cases hm
 | d + 1,pl,path,m,k,hp,hk,hl,hi,h,hm=>by
  have hle:=F7 _ _ hp.nd hp.ins
  have hlen:=hp.len
  have hpos:=hp.pos
  have hfew:=ha.few
  have hla:=hp.last
  obtain ⟨k',rfl⟩ : ∃ k',k = k' + 1:=⟨k - 1,by omega⟩
  have hby:=ha.by_ (bT path).toNat (by omega) q
  have hwd:GC (el r.Orders (bT path).toNat).Choices q = c8 r q (bT path):=rfl
  rw [hwd] at hby
  rw [gH] at hm
  by_cases h0:(c8 r q (bT path)).1 = 0
  ·simp only [if_pos h0] at hm
   refine ⟨pl,RD hm hl (fun _ _ _=>rfl) hi ?_ (by omega) ⟨hla.1,hla.2.1,by omega⟩⟩
   intro P _
   rw [aAO]
   have:NB r q P (el path (path.length - 1)) = (bT path,false):=by rw [aA5]; exact if_pos h0
   rw [this]
   exact if_pos rfl
  ·simp only [if_neg h0] at hm
   obtain ⟨j,hj,hm⟩:=List.mem_flatMap.1 hm
   have hj' : j < r.Orders.length:=List.mem_range.1 hj
   have hbl:(c8 r q (bT path)).1.toNat < 5:=by omega
   have hfree:el pl (c8 r q (bT path)).1.toNat = -1 ∨ el pl (c8 r q (bT path)).1.toNat = (j:Int):=by
    by_cases a1:el pl (c8 r q (bT path)).1.toNat = -1
    ·exact .inl a1
    ·by_cases a2:el pl (c8 r q (bT path)).1.toNat = (j:Int)
     ·exact .inr a2
     ·rw [if_pos ⟨a1,a2⟩] at hm; cases hm
   rw [if_neg (by rcases hfree with a | a <;> simp [a])] at hm
   have hl1:(pl.set (c8 r q (bT path)).1.toNat (j:Int)).length = 5:=by simp [hl]
   have hext1:∀ i,i < 5->el pl i ≠ -1->el (pl.set (c8 r q (bT path)).1.toNat (j:Int)) i = el pl i:=by
    intro i hi5 hne
    rw [aAB (by omega)]
    by_cases e:(c8 r q (bT path)).1.toNat = i
    ·subst e; rw [if_pos rfl]; rcases hfree with a | a
     ·exact absurd a hne
     ·exact a.symm
    ·rw [if_neg e]
   have hi1:∀ i,i < 5->el (pl.set (c8 r q (bT path)).1.toNat (j:Int)) i = -1 ∨ (0 <= el (pl.set (c8 r q (bT path)).1.toNat (j:Int)) i ∧ el (pl.set (c8 r q (bT path)).1.toNat (j:Int)) i < (r.Orders.length:Int)):=by
    intro i hi5
    rw [aAB (by omega)]
    by_cases e:(c8 r q (bT path)).1.toNat = i
    ·rw [if_pos e]; exact .inr ⟨by omega,by omega⟩
    ·rw [if_neg e]; exact hi i hi5
   have hset:el (pl.set (c8 r q (bT path)).1.toNat (j:Int)) (c8 r q (bT path)).1.toNat = (j:Int):=by rw [aAB (by omega),if_pos rfl]
   have hlead:∀ P,el P (c8 r q (bT path)).1.toNat = (j:Int)->NB r q P (el path (path.length - 1)) = ((j:Int),(c8 r q (bT path)).2):=by
    intro P hP
    rw [aA5]
    exact (if_neg h0).trans (by rw [← hP]; rfl)
   have hcons:∀ P,aKX (pl.set (c8 r q (bT path)).1.toNat (j:Int)) P->el P (c8 r q (bT path)).1.toNat = (j:Int):=by
    intro P hP
    rcases hP _ hbl with a | a
    ·rw [hset] at a; omega
    ·rw [← a,hset]
   unfold dU at hm
   simp only at hm
   by_cases hq:(j:Int) = bT path
   ·rw [if_pos hq] at hm
    refine ⟨_,RD hm hl1 hext1 hi1 ?_ (by omega) ⟨hla.1,hla.2.1,by omega⟩⟩
    intro P hP
    rw [aAO,hlead P (hcons P hP)]
    exact if_pos hq
   ·rw [if_neg hq] at hm
    by_cases hd:(c8 r q (bT path)).2 = true ∧ (j:Int) ∉ path
    ·rw [if_pos hd] at hm
     have hp1:=hp.push (k:=(j:Int)) (by omega) (by omega) hd.2
     have hle1:=F7 _ _ hp1.nd hp1.ins
     have hlen1:=hp1.len
     obtain ⟨pl',hs⟩:=O2 r ha f q d _ _ (m + 1) k' hp1 (by omega) hl1 hi1 h hm
     refine ⟨pl',hs.places,hs.len,?_,hs.ins,hs.forum,hs.ask,hs.kind,hs.gap,?_,hs.short,hs.lastIn⟩
     ·intro i hi5 hne
      rw [hs.ext i hi5 (by rw [hext1 i hi5 hne]; exact hne),hext1 i hi5 hne]
     ·intro P hP
      have hPj:el P (c8 r q (bT path)).1.toNat = (j:Int):=by
       have e1:=hs.ext _ hbl (by rw [hset]; omega)
       rcases hP _ hbl with a | a
       ·rw [e1,hset] at a; omega
       ·rw [← a,e1,hset]
      rw [aAO,hlead P hPj]
      simp only
      rw [if_neg (show ¬ ((j:Int) = el path (path.length - 1)) from hq),if_neg (by simp [hd.1]),if_neg hd.2]
      exact hs.law P hP
    ·rw [if_neg hd] at hm
     refine ⟨_,RD hm hl1 hext1 hi1 ?_ (by simp; omega) ⟨by rw [gE]; omega,by rw [gE]; omega,by simp⟩⟩
     intro P hP
     rw [aAO,hlead P (hcons P hP)]
     simp only
     rw [if_neg (show ¬ ((j:Int) = el path (path.length - 1)) from hq)]
     cases hw:(c8 r q (bT path)).2 with
     | false=>simp
     | true =>
      have hin:(j:Int) ∈ path:=by
       by_cases a:(j:Int) ∈ path
       ·exact a
       ·exact absurd ⟨hw,a⟩ hd
      rw [if_neg (by simp),if_pos hin]
      cases xL r (j:Int) <;> simp
end Go.Proofs.Ytjjcaapdaldedaa
