/- The reference of layer 20 finds the holes that search finds: AuditTells. -/
import Derived.Test.YtjjcaapdaldedaaPAudit8
set_option linter.unusedVariables false
set_option linter.unusedSimpArgs false
namespace Go.Proofs.Ytjjcaapdaldedaa
open Go.RowKit Vm
theorem DX (n:Nat) (h:n < 1000):IntKind.wrap .i64 (n:Int) = (n:Int):=iA (by omega) (by omega)
theorem aNH (a b:Nat):Int.tmod (a:Int) (b:Int) = ((a % b:Nat):Int):=rfl
theorem aNV (a b:Nat):Int.tdiv (a:Int) (b:Int) = ((a / b:Nat):Int):=rfl
theorem aPb (a b:Nat):(a:Int) * (b:Int) = ((a * b:Nat):Int):=(Int.natCast_mul a b).symm
def CD (r:aA) (f q kd:Int) (i:Nat):aB:=aB.mk kd f q (TX f r.Orders.length i) (Q6 r f q (TX f r.Orders.length i)).2
def WK (r:aA) (f q:Int) (i:Nat):Int:=(Q6 r f q (TX f r.Orders.length i)).1
section
variable {r:aA} (hb:QY r) (hA:QQ r) (ha:kM r) {f q:Int} (hf:0 <= f ∧ f < (r.Orders.length:Int)) (hq:0 <= q ∧ q < 22)
include ha hf hq
theorem Q7 (i:Nat) (hi:i < r.Orders.length * r.Orders.length * r.Orders.length * r.Orders.length):BG r f q (TX f r.Orders.length i) ∧ el (TX f r.Orders.length i) 0 = f :=
 ⟨⟨hf.1,hf.2,hq.1,hq.2,rfl,aN8 (by omega) ha.few hi hf⟩,rfl⟩
include hb hA
theorem aDZ (i:Nat) (hi:i < r.Orders.length * r.Orders.length * r.Orders.length * r.Orders.length):dL r f q (TX f r.Orders.length i) = some (WK r f q i,(CD r f q 0 i).Path):=by
 obtain ⟨h1,h2⟩:=Q7 ha hf hq i hi
 exact aBt r hb hA ha f q _ h1 h2
omit hb hA hq in
theorem n81:r.Orders.length * r.Orders.length <= 9 ∧ r.Orders.length * r.Orders.length * r.Orders.length <= 27 ∧ r.Orders.length * r.Orders.length * r.Orders.length * r.Orders.length <= 81 ∧ 0 < r.Orders.length * r.Orders.length ∧ 0 < r.Orders.length * r.Orders.length * r.Orders.length:=by
 have h1:1 <= r.Orders.length:=by omega
 rcases YZ h1 ha.few with h | h | h <;> rw [h] <;> decide
theorem aOL (kd:Int) (i:Nat) (hi:i < r.Orders.length * r.Orders.length * r.Orders.length * r.Orders.length) :
  dD r f q kd (i:Int) = if WK r f q i = kd then some (.inr (.inl (((i + 1:Nat):Int),(CD r f q kd i).Places,(CD r f q kd i).Path))) else some (.inl ((i + 1:Nat):Int)):=by
 obtain ⟨b1,b2,b3,b4,b5⟩:=n81 ha hf
 have d1:i / r.Orders.length <= i:=Nat.div_le_self _ _
 have d2:i / (r.Orders.length * r.Orders.length) <= i:=Nat.div_le_self _ _
 have d3:i / (r.Orders.length * r.Orders.length * r.Orders.length) <= i:=Nat.div_le_self _ _
 have z1:¬ ((r.Orders.length:Int) = 0):=by omega
 have z2:¬ (((r.Orders.length * r.Orders.length:Nat):Int) = 0):=by omega
 have z3:¬ (((r.Orders.length * r.Orders.length * r.Orders.length:Nat):Int) = 0):=by omega
 have hk:=aDZ hb hA ha hf hq i hi
 unfold TX at hk
 unfold dD
 simp only [aPb,DX _ (show r.Orders.length * r.Orders.length < 1000 by omega),DX _ (show r.Orders.length * r.Orders.length * r.Orders.length < 1000 by omega),DX _ (show r.Orders.length * r.Orders.length * r.Orders.length * r.Orders.length < 1000 by omega),
  aNH,aNV,DX _ (show i / r.Orders.length < 1000 by omega),DX _ (show i / (r.Orders.length * r.Orders.length) < 1000 by omega),DX _ (show i / (r.Orders.length * r.Orders.length * r.Orders.length) < 1000 by omega),hZ hi,if_true,if_neg z1,if_neg z2,if_neg z3,hk,Option.bind_some,beq_iff_eq,aS (show i < 9223372036854775807 by omega)]
 rfl
theorem aOv (kd:Int) (i:Nat) (hi:i < r.Orders.length * r.Orders.length * r.Orders.length * r.Orders.length) (pl pa:List Int) (hpa:pa.length < 1000) :
  dC r f q kd (i:Int) pl pa = if WK r f q i = kd ∧ vH (CD r f q kd i) (aB.mk kd f q pl pa) < 0 then some (.inl (((i + 1:Nat):Int),(CD r f q kd i).Places,(CD r f q kd i).Path)) else some (.inl (((i + 1:Nat):Int),pl,pa)):=by
 obtain ⟨b1,b2,b3,b4,b5⟩:=n81 ha hf
 have d1:i / r.Orders.length <= i:=Nat.div_le_self _ _
 have d2:i / (r.Orders.length * r.Orders.length) <= i:=Nat.div_le_self _ _
 have d3:i / (r.Orders.length * r.Orders.length * r.Orders.length) <= i:=Nat.div_le_self _ _
 have z1:¬ ((r.Orders.length:Int) = 0):=by omega
 have z2:¬ (((r.Orders.length * r.Orders.length:Nat):Int) = 0):=by omega
 have z3:¬ (((r.Orders.length * r.Orders.length * r.Orders.length:Nat):Int) = 0):=by omega
 have hk:=aDZ hb hA ha hf hq i hi
 obtain ⟨h1,h2⟩:=Q7 ha hf hq i hi
 obtain ⟨_,_,g3,_⟩:=HB r ha f q _ h1
 have hfew:=ha.few
 have hB:=WV (CD r f q kd i) (aB.mk kd f q pl pa) (show (kL r f q (TX f r.Orders.length i)).2.length < 1000 by omega) (by show (5:Nat) < 1000; omega) hpa
 rw [aAM] at hB
 have hB' : fS (aB.mk kd f q (TX f r.Orders.length i) (CD r f q 0 i).Path) (aB.mk kd f q pl pa) = some (decide (vH (CD r f q kd i) (aB.mk kd f q pl pa) < 0)):=hB
 unfold TX at hk hB'
 unfold dC
 simp only [aPb,DX _ (show r.Orders.length * r.Orders.length < 1000 by omega),DX _ (show r.Orders.length * r.Orders.length * r.Orders.length < 1000 by omega),DX _ (show r.Orders.length * r.Orders.length * r.Orders.length * r.Orders.length < 1000 by omega),
  aNH,aNV,DX _ (show i / r.Orders.length < 1000 by omega),DX _ (show i / (r.Orders.length * r.Orders.length) < 1000 by omega),DX _ (show i / (r.Orders.length * r.Orders.length * r.Orders.length) < 1000 by omega),hZ hi,if_true,if_neg z1,if_neg z2,if_neg z3,hk,hB',Option.bind_some,beq_iff_eq,decide_eq_true_eq,aS (show i < 9223372036854775807 by omega)]
 by_cases c1:WK r f q i = kd
 ·rw [if_pos c1]
  by_cases c2:vH (CD r f q kd i) (aB.mk kd f q pl pa) < 0
  ·rw [if_pos c2,if_pos ⟨c1,c2⟩]; rfl
  ·rw [if_neg c2,if_neg (fun e=>c2 e.2)]
 ·rw [if_neg c1,if_neg (fun e=>c1 e.1)]
theorem aCL (kd:Int):(∃ i,i < r.Orders.length * r.Orders.length * r.Orders.length * r.Orders.length ∧ WK r f q i = kd ∧ eY r f q kd = some (CD r f q kd i,true) ∧ ∀ j,j < r.Orders.length * r.Orders.length * r.Orders.length * r.Orders.length->WK r f q j = kd->vH (CD r f q kd i) (CD r f q kd j) <= 0) ∨
  ((∃ x,eY r f q kd = some (x,false)) ∧ ∀ j,j < r.Orders.length * r.Orders.length * r.Orders.length * r.Orders.length->WK r f q j ≠ kd):=by
 obtain ⟨b1,b2,b3,b4,b5⟩:=n81 ha hf
 have hW:IntKind.wrap .i64 ((IntKind.wrap .i64 ((IntKind.wrap .i64 ((r.Orders.length:Int) * (r.Orders.length:Int))) * (r.Orders.length:Int))) * (r.Orders.length:Int)) = ((r.Orders.length * r.Orders.length * r.Orders.length * r.Orders.length:Nat):Int):=by
  simp only [aPb,DX _ (show r.Orders.length * r.Orders.length < 1000 by omega),DX _ (show r.Orders.length * r.Orders.length * r.Orders.length < 1000 by omega),DX _ (show r.Orders.length * r.Orders.length * r.Orders.length * r.Orders.length < 1000 by omega)]
 obtain ⟨x,h1,h2⟩:=HM (step:=fun w=>dD r f q kd w) (fun k (_:Unit)=>(k:Int)) (r.Orders.length * r.Orders.length * r.Orders.length * r.Orders.length) (fun k _=>∀ j,j < k->WK r f q j ≠ kd)
  (fun x=>(∃ i,i < r.Orders.length * r.Orders.length * r.Orders.length * r.Orders.length ∧ x = .inl (((i + 1:Nat):Int),(CD r f q kd i).Places,(CD r f q kd i).Path) ∧ WK r f q i = kd ∧ ∀ j,j < i->WK r f q j ≠ kd) ∨ (x = .inr () ∧ ∀ j,j < r.Orders.length * r.Orders.length * r.Orders.length * r.Orders.length->WK r f q j ≠ kd)) (by
  intro k _ hk hI
  have:=aOL hb hA ha hf hq kd k hk
  by_cases c:WK r f q k = kd
  ·exact .inr ⟨_,by rw [this,if_pos c],.inl ⟨k,hk,rfl,c,hI⟩⟩
  ·refine .inl ⟨(),by rw [this,if_neg c],fun j hj=>?_⟩
   by_cases e:j = k
   ·subst e; exact c
   ·exact hI j (by omega)) (by
  intro _ hI
  refine ⟨.inr (),?_,.inr ⟨rfl,hI⟩⟩
  simp only [dD,hW,jG,if_false]) () (fun j hj=>by omega)
 have h1' : oH r f q kd 0 = some x:=h1
 unfold eY
 rw [h1']
 rcases h2 with ⟨i,hi,rfl,hki,hbefore⟩ | ⟨rfl,hnone⟩
 ·left
  obtain ⟨y,g1,g2⟩:=HM (step:=fun (w:Int × List Int × List Int)=>dC r f q kd w.1 w.2.1 w.2.2) (fun k (a:List Int × List Int)=>(((i + 1 + k:Nat):Int),a.1,a.2)) (r.Orders.length * r.Orders.length * r.Orders.length * r.Orders.length - (i + 1))
   (fun k a=>∃ j0,j0 < i + 1 + k ∧ j0 < r.Orders.length * r.Orders.length * r.Orders.length * r.Orders.length ∧ WK r f q j0 = kd ∧ a = ((CD r f q kd j0).Places,(CD r f q kd j0).Path) ∧ ∀ j,j < i + 1 + k->WK r f q j = kd->vH (CD r f q kd j0) (CD r f q kd j) <= 0)
   (fun y=>∃ j0,j0 < r.Orders.length * r.Orders.length * r.Orders.length * r.Orders.length ∧ WK r f q j0 = kd ∧ y = ((CD r f q kd j0).Places,(CD r f q kd j0).Path) ∧ ∀ j,j < r.Orders.length * r.Orders.length * r.Orders.length * r.Orders.length->WK r f q j = kd->vH (CD r f q kd j0) (CD r f q kd j) <= 0) (by
   intro k a hk hI
   obtain ⟨j0,c1,c1',c2,rfl,c3⟩:=hI
   have hlt:i + 1 + k < r.Orders.length * r.Orders.length * r.Orders.length * r.Orders.length:=by omega
   obtain ⟨p1,p2⟩:=Q7 ha hf hq j0 c1'
   obtain ⟨_,_,g3,_⟩:=HB r ha f q _ p1
   have hfew:=ha.few
   have hs:=aOv hb hA ha hf hq kd (i + 1 + k) hlt (CD r f q kd j0).Places (CD r f q kd j0).Path (show (kL r f q (TX f r.Orders.length j0)).2.length < 1000 by omega)
   have hsame:aB.mk kd f q (CD r f q kd j0).Places (CD r f q kd j0).Path = CD r f q kd j0:=rfl
   rw [hsame] at hs
   left
   by_cases c:WK r f q (i + 1 + k) = kd ∧ vH (CD r f q kd (i + 1 + k)) (CD r f q kd j0) < 0
   ·rw [if_pos c] at hs
    refine ⟨((CD r f q kd (i + 1 + k)).Places,(CD r f q kd (i + 1 + k)).Path),hs,i + 1 + k,by omega,hlt,c.1,rfl,fun j hj hkj=>?_⟩
    by_cases e:j = i + 1 + k
    ·subst e; rw [BJ]; omega
    ·exact yX (by omega) (c3 j (by omega) hkj)
   ·rw [if_neg c] at hs
    refine ⟨((CD r f q kd j0).Places,(CD r f q kd j0).Path),hs,j0,by omega,c1',c2,rfl,fun j hj hkj=>?_⟩
    by_cases e:j = i + 1 + k
    ·subst e
     have:¬ vH (CD r f q kd (i + 1 + k)) (CD r f q kd j0) < 0:=fun z=>c ⟨hkj,z⟩
     rw [RO (CD r f q kd (i + 1 + k)) (CD r f q kd j0)]; omega
    ·exact c3 j (by omega) hkj) (by
   intro a hI
   obtain ⟨j0,c1,c1',c2,rfl,c3⟩:=hI
   have he:i + 1 + (r.Orders.length * r.Orders.length * r.Orders.length * r.Orders.length - (i + 1)) = r.Orders.length * r.Orders.length * r.Orders.length * r.Orders.length:=by omega
   refine ⟨_,?_,j0,c1',c2,rfl,fun j hj=>c3 j (by omega)⟩
   simp only [dC,hW,he,jG,if_false]) ((CD r f q kd i).Places,(CD r f q kd i).Path) ⟨i,by omega,hi,hki,rfl,fun j hj hkj=>by
    by_cases e:j = i
    ·subst e; rw [BJ]; omega
    ·exact absurd hkj (hbefore j (by omega))⟩
  obtain ⟨j0,d1,d2,rfl,d3⟩:=g2
  have g1' : n6 r f q kd ((i + 1:Nat):Int) (CD r f q kd i).Places (CD r f q kd i).Path = some ((CD r f q kd j0).Places,(CD r f q kd j0).Path):=g1
  refine ⟨j0,d1,d2,?_,d3⟩
  simp only [Option.bind_some,Sum.elim_inl,g1']
  rfl
 ·right
  exact ⟨⟨_,rfl⟩,hnone⟩
def CL (p:Option aB × Option aB) (kd:Int):Option aB:=if kd = 1 then p.2 else p.1
theorem aCM (kd:Int) (hkd:kd = 0 ∨ kd = 1):(∃ x,eY r f q kd = some (x,true) ∧ CL (nY r f q) kd = some x) ∨ ((∃ x,eY r f q kd = some (x,false)) ∧ CL (nY r f q) kd = none):=by
 have hn1:1 <= r.Orders.length:=by omega
 -- a situation of search is one of the places
 have hsit:∀ x,CL (nY r f q) kd = some x->∃ j,j < r.Orders.length * r.Orders.length * r.Orders.length * r.Orders.length ∧ WK r f q j = kd ∧ CD r f q kd j = x:=by
  intro x hx
  have hmem:x ∈ WS r f q ∧ x.Kind = kd:=by
   have hm:=UD (WS r f q) (none,none) x
   unfold CL at hx
   rcases hkd with rfl | rfl
   ·rw [if_neg (by decide)] at hx
    rcases hm.1 hx with c | c
    ·cases c
    ·exact ⟨c.1,c.2⟩
   ·rw [if_pos rfl] at hx
    rcases hm.2 hx with c | c
    ·cases c
    ·obtain ⟨pl',s⟩:=aDc r ha f hf q c.1
     refine ⟨c.1,?_⟩
     rcases s.kind with k | k
     ·exact absurd k c.2
     ·exact k
  obtain ⟨hm,hk⟩:=hmem
  obtain ⟨pl',s⟩:=aDc r ha f hf q hm
  obtain ⟨a1,a2,a3⟩:=aNB hf hq s
  rw [s.forum,s.ask] at a1 a3
  rw [s.forum] at a2
  obtain ⟨j,hj,hpj⟩:=aHj hn1 ha.few a1.2.2.2.2.1 a2 a1.2.2.2.2.2
  refine ⟨j,hj,?_,?_⟩
  ·unfold WK Q6
   rw [hpj,a3]
   rcases s.kind with k | k
   ·have:=s.gap k
    simp [k,this] at hk ⊢
    exact hk
   ·simp [k] at hk ⊢
    exact hk
  ·unfold CD Q6
   rw [hpj,a3]
   obtain ⟨x1,x2,x3,x4,x5⟩:=x
   simp only at hk ⊢
   have e1:=s.forum
   have e2:=s.ask
   simp only at e1 e2
   rw [hk,e1,e2]
 have hat:∀ j,j < r.Orders.length * r.Orders.length * r.Orders.length * r.Orders.length->WK r f q j = kd->∃ x,CL (nY r f q) kd = some x ∧ vH x (CD r f q kd j) <= 0:=by
  intro j hj hkj
  obtain ⟨p1,p2⟩:=Q7 ha hf hq j hj
  obtain ⟨g1,_⟩:=HB r ha f q _ p1
  have hcase:((kL r f q (TX f r.Orders.length j)).1 = 12 ∧ kd = 1) ∨ ((kL r f q (TX f r.Orders.length j)).1 = 0 ∧ kd = 0 ∧ iM (el r.Orders (aV (kL r f q (TX f r.Orders.length j)).2).toNat) q = false):=by
   unfold WK Q6 at hkj
   simp only at hkj
   rcases g1 with g | g
   ·rw [g] at hkj
    rw [if_neg (by decide)] at hkj
    cases hr:iM (el r.Orders (aV (kL r f q (TX f r.Orders.length j)).2).toNat) q with
    | true=>rw [hr] at hkj; simp at hkj; omega
    | false=>rw [hr] at hkj; simp at hkj; exact .inr ⟨g,hkj.symm,rfl⟩
   ·rw [g,if_pos rfl] at hkj; exact .inl ⟨g,hkj.symm⟩
  obtain ⟨x,x1,x2⟩:=aCp r ha f q hf (TX f r.Orders.length j) rfl rfl p1.2.2.2.2.2 (kL r f q (TX f r.Orders.length j)).1 (kL r f q (TX f r.Orders.length j)).2 (by rcases hcase with c | c; exact .inl c.1; exact .inr ⟨c.1,c.2.2⟩) rfl
  refine ⟨x,?_,?_⟩
  ·unfold CL
   rcases hcase with c | c
   ·rw [if_pos c.1] at x1; rw [if_pos c.2]; exact x1
   ·rw [if_neg (by rw [c.1]; decide)] at x1; rw [if_neg (by rw [c.2.1]; decide)]; exact x1
  ·have:aB.mk (if (kL r f q (TX f r.Orders.length j)).1 = 12 then 1 else 0) f q (TX f r.Orders.length j) (kL r f q (TX f r.Orders.length j)).2 = CD r f q kd j:=by
    unfold CD Q6
    rcases hcase with c | c
    ·rw [if_pos c.1,c.2]
    ·rw [if_neg (by rw [c.1]; decide),c.2.1]
   rw [this] at x2
   exact x2
 rcases aCL hb hA ha hf hq kd with ⟨i,hi,hki,hF,hmin⟩ | ⟨hF,hnone⟩
 ·left
  obtain ⟨x,x1,x2⟩:=hat i hi hki
  obtain ⟨j,hj,hkj,hxj⟩:=hsit x x1
  have hle:=hmin j hj hkj
  rw [hxj] at hle
  have hs:=RO x (CD r f q kd i)
  have hz:vH x (CD r f q kd i) = 0:=by omega
  obtain ⟨z1,z2⟩:=aFn hz
  have:x = CD r f q kd i:=by
   rw [← hxj] at z1 z2 ⊢
   unfold CD at z1 z2 ⊢
   simp only at z1 z2
   rw [z1,z2]
  exact ⟨_,hF,by rw [← this]; exact x1⟩
 ·right
  refine ⟨hF,?_⟩
  cases e:CL (nY r f q) kd with
  | none=>rfl
  | some x =>
   obtain ⟨j,hj,hkj,_⟩:=hsit x e
   exact absurd hkj (hnone j hj)
theorem aF9 (out:List aB) (h:out.length < 1000):kN r f q 0 out = some (out ++ AY (nY r f q)):=by
 have step:∀ (kd:Int) (o:List aB),(kd = 0 ∨ kd = 1)->o.length < 1002->eN r f q kd o = some (.inl (kd + 1,o ++ (CL (nY r f q) kd).toList)):=by
  intro kd o hkd ho
  have h2:decide (kd < 2) = true:=by simp; omega
  have hw:IntKind.wrap .i64 (kd + 1) = kd + 1:=iA (by omega) (by omega)
  unfold eN
  rw [if_pos h2,hw]
  rcases aCM hb hA ha hf hq kd hkd with ⟨x,x1,x2⟩ | ⟨⟨x,x1⟩,x2⟩
  ·rw [x1,x2]
   simp only [Option.bind_some,if_true]
   rw [if_pos (by omega)]
   rfl
  ·rw [x1,x2]
   simp
 unfold kN
 have s0:=step 0 out (.inl rfl) (by omega)
 have hl1:(out ++ (CL (nY r f q) 0).toList).length < 1002:=by cases CL (nY r f q) 0 <;> simp <;> omega
 have s1:=step 1 (out ++ (CL (nY r f q) 0).toList) (.inr rfl) hl1
 rw [l9 (s':=((0:Int) + 1,out ++ (CL (nY r f q) 0).toList)) s0]
 rw [l9 (s':=((1:Int) + 1,(out ++ (CL (nY r f q) 0).toList) ++ (CL (nY r f q) 1).toList)) s1]
 rw [fG (x:=(out ++ (CL (nY r f q) 0).toList) ++ (CL (nY r f q) 1).toList)]
 ·simp [AY,CL]
 ·simp [eN]
end
theorem aFc {r:aA} (hb:QY r) (hA:QQ r) (ha:kM r) (f:Int) (hf:0 <= f ∧ f < (r.Orders.length:Int)) (out:List aB) (h:out.length < 500):kA r f 0 out = some (out ++ OQ r f):=by
 unfold kA
 obtain ⟨x,h1,h2⟩:=HM (step:=fun (w:Int × List aB)=>eJ r f w.1 w.2) (fun k (a:List aB)=>((k:Int),a)) 22 (fun k a=>a = out ++ (List.range k).flatMap fun (q:Nat)=>AY (nY r f q)) (fun x=>x = out ++ OQ r f) (by
  intro k a hk hI
  have hlen:a.length < 1000:=by
   have:=AW (fun (q:Nat)=>AY (nY r f q)) 2 (fun q=>LC _) (List.range k)
   rw [hI,List.length_append]
   simp only [List.length_range] at this
   omega
  refine .inl ⟨a ++ AY (nY r f k),?_,?_⟩
  ·have h22:decide ((k:Int) < 22) = true:=by simp; omega
   simp only [eJ,h22,if_true,aF9 hb hA ha hf (q:=(k:Int)) ⟨by omega,by omega⟩ a hlen,Option.bind_some,aS (show k < 9223372036854775807 by omega)]
  ·rw [hI,IB,List.append_assoc]) (by
  intro a hI
  exact ⟨a,by simp [eJ],hI⟩) out (by simp)
 rw [h2] at h1
 exact h1
theorem ZJ (r:aA) (hb:QY r) (hA:QQ r) (ha:kM r) (hc:dS r = some 0):e8 r = some (B0 r,0):=by
 unfold e8
 rw [hc]
 simp only [Option.bind_some,bne_self_eq_false,Bool.false_eq_true,if_false]
 have hfew:=ha.few
 obtain ⟨x,g1,g2⟩:=HM (step:=fun (w:Int × List aB)=>eH r w.1 w.2) (fun k (a:List aB)=>((k:Int),a)) r.Orders.length (fun k a=>a = (List.range k).flatMap fun (f:Nat)=>OQ r f) (fun x=>x = B0 r) (by
  intro k a hk hI
  have hlen:a.length < 500:=by
   have h22:∀ f:Nat,(OQ r f).length <= 44:=fun f=>AW (fun (q:Nat)=>AY (nY r f q)) 2 (fun q=>LC _) (List.range 22)
   have:=AW (fun (f:Nat)=>OQ r f) 44 h22 (List.range k)
   rw [hI]
   simp only [List.length_range] at this
   omega
  refine .inl ⟨a ++ OQ r k,?_,?_⟩
  ·simp only [eH,hZ hk,if_true,aFc hb hA ha (k:Int) ⟨by omega,by omega⟩ a hlen,Option.bind_some,aS (show k < 9223372036854775807 by omega)]
  ·rw [hI,IB]) (by
  intro a hI
  exact ⟨_,by simp only [eH,jG,if_false],hI⟩) [] (by simp)
 rw [g2] at g1
 have g1' : oD r 0 [] = some (B0 r):=g1
 rw [g1']
 rfl
theorem aGr (x:aB) (h1:x.Places.length < 1000) (h2:x.Path.length < 1000):mC x x = some true:=by
 unfold mC
 simp only [beq_self_eq_true,if_true,JO _ _ (show x.Places.length < 9223372036854775807 by omega),JO _ _ (show x.Path.length < 9223372036854775807 by omega),Option.bind_some,decide_true]
theorem PQ (l:List aB) (hl:l.length < 9223372036854775807) (h:∀ x,x ∈ l->x.Places.length < 1000 ∧ x.Path.length < 1000):gT l l = some true:=by
 unfold gT
 have:mF l l 0 = some (.inl ()):=by
  refine g8 (step:=fun w=>dK l l w) (fun i=>(i:Int)) l.length _ ?_ ?_
  ·intro i hi
   have hm:=h _ (JG l i hi)
   simp only [dK,hZ hi,if_true,bQ _ _ hi,Option.bind_some,aGr _ hm.1 hm.2,Bool.not_true,Bool.false_eq_true,if_false,aS (show i < 9223372036854775807 by omega)]
  ·simp only [dK,jG,if_false]
 rw [this]
 simp
theorem aAN (hs:iV = some true) (r:aA) (h:aB) (w:aA.wf r):jC r h = some true:=by
 unfold jC
 obtain ⟨b,e1,hb⟩:=aCK r
 rw [hs,e1]
 simp only [Option.bind_some]
 cases b with
 | false=>rfl
 | true =>
  obtain ⟨fw,hn⟩:=hb rfl
  simp only [Bool.not_true,Bool.false_eq_true,if_false]
  by_cases l1:(h.Places.length:Int) > 20
  ·rw [if_pos (by simpa using l1)]
  rw [if_neg (by simpa using l1)]
  by_cases l2:(h.Path.length:Int) > 20
  ·rw [if_pos (by simpa using l2)]
  rw [if_neg (by simpa using l2)]
  obtain ⟨e,h1,hc,hr⟩:=aEV r fw w hn
  have hchk:=aKe r fw w
  have href:=ZL r fw w
  have hee:JF r = e:=by rw [hc] at hchk; exact (Option.some.inj hchk).symm
  rw [hee] at href
  have hcl:=aGl r fw w hn h1
  rw [h1]
  simp only [Option.bind_some,if_true]
  by_cases h0:e = 0
  ·subst h0
   have hr:=hr rfl
   have ha:=YJ fw hr hn
   have hbo:=aJC fw hr
   have hA:=aHe r hr
   have hrh:=ZJ r hbo hA ha href
   obtain ⟨v,v1,v2⟩:=ZG r hbo hA ha hc href h (by omega)
   have hlen:(B0 r).length < 9223372036854775807:=by
    have h22:∀ f:Nat,(OQ r f).length <= 44:=fun f=>AW (fun (q:Nat)=>AY (nY r f q)) 2 (fun q=>LC _) (List.range 22)
    have:=AW (fun (f:Nat)=>OQ r f) 44 h22 (List.range r.Orders.length)
    simp only [List.length_range] at this
    unfold B0
    omega
   have hsame:=PQ (B0 r) hlen (by
    intro x hx
    obtain ⟨f,q,hf,hq,hm⟩:=aGv hx
    obtain ⟨pl',s⟩:=aDc r ha (f:Int) ⟨by omega,by omega⟩ (q:Int) (aI6 hm).1
    have h5:=s.short
    exact ⟨by rw [s.places,List.length_map,s.len]; omega,by omega⟩)
   have hrc:gS r = some (decide ((B0 r).length = 0)):=by
    unfold gS
    rw [hrh]
    simp only [Option.bind_some,beq_self_eq_true,if_true]
    rw [Bool.beq_eq_decide_eq]
    congr 1
    simp
   simp only [if_true,hrh,Option.bind_some,hsame,beq_self_eq_true,v1,v2,hcl,hrc,decide_true,Bool.true_and]
  ·have hrh:e8 r = some ([],e):=by
    unfold e8
    rw [href]
    simp only [Option.bind_some,bne_iff_ne,ne_eq,h0,not_false_eq_true,if_true]
   have hS1:fX r h = some false:=by
    unfold fX
    rw [hc]
    simp only [Option.bind_some,bne_iff_ne,ne_eq,h0,not_false_eq_true,if_true]
   have hS2:eS r h = some false:=by
    unfold eS
    rw [href]
    simp only [Option.bind_some,bne_iff_ne,ne_eq,h0,not_false_eq_true,if_true]
   have hrc:gS r = some false:=by
    unfold gS
    rw [hrh]
    simp only [Option.bind_some,beq_iff_eq,h0,if_false]
   have hsame:=PQ [] (by simp) (by simp)
   simp only [if_neg h0,hrh,Option.bind_some,hsame,if_true,beq_self_eq_true,hS1,hS2,hcl,hrc,decide_eq_false h0,Bool.false_and]
end Go.Proofs.Ytjjcaapdaldedaa
