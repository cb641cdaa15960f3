/- Law 42, the reference: steps, and rounds that keep the ways. Law 42, the reference: the cheapest way. Law 42, the reference: Way finds the cheapest way. Law 42, the reference: how much can be moved, and moving it. Law 42, the reference: growing due by due. Law 42, the reference: raising due by due, potentials, and what Clear answers. -/
import Derived.Test.YtgjcnbgfaimepaaPCb
import Derived.Test.YtgjcnbgfaimepaaFlM
namespace Go.Proofs.Ytgjcnbgfaimepaa
section
open Go.RowKit Vm
def qI (g:aC):aD:=aD.mk g.due g.from_ g.to g.cost
def lM (dues:List aI) (x:Nat->Int) (f k:Nat):List aC:=(List.range' f k).flatMap (H3 dues x)
section
variable {n:Nat} {dues:List aI} {x:List Int}
theorem WO (m:Nat):lM dues (el x) 0 m = iV dues (el x) m:=by unfold lM iV; rw [List.range_eq_range']
theorem QJ (f k:Nat):lM dues (el x) f (k + 1) = lM dues (el x) f k ++ H3 dues (el x) (f + k):=by
 unfold lM
 rw [List.range'_concat,Ī]
 simp
theorem GC (f:Nat):∀ k,(lM dues (el x) f k).length <= 2 * k
 | 0=>by simp [lM]
 | k + 1=>by
  have:=GC f k
  have:=aBa dues (el x) (f + k)
  rw [QJ,ß]; omega
theorem XT {dues' : List aI} {t f:Nat} (ht:dues'.length = t) (htl:t <= 100) (hd:∀ i,i < t->el dues' i = el dues i) (hl:t <= x.length) (hf:f <= t):gH dues' x f = some ((lM dues (el x) f (t - f)).map qI):=by
 unfold gH pU
 suffices hh:∃ y,bV (fun (w:Int × List aD)=>cP dues' x w.1 w.2) (f,[]) = some y ∧ y = (lM dues (el x) f (t - f)).map qI by
  obtain ⟨y,h1,h2⟩:=hh
  rw [h1,h2]; rfl
 refine bO (step:=fun (w:Int × List aD)=>cP dues' x w.1 w.2) (fun k (a:List aD)=>(((f + k:Nat):Int),a)) (t - f) (fun k a=>a = (lM dues (el x) f k).map qI) _ ?_ ?_ _ rfl
 ·rintro k a hk rfl
  refine .inl ⟨_,?_,rfl⟩
  have hsl:=GC (dues:=dues) (x:=x) f k
  rw [QJ,Ă]
  have hlA:((lM dues (el x) f k).map qI).length <= 2 * k:=by rw [È]; exact hsl
  generalize (lM dues (el x) f k).map qI = A at *
  show cP dues' x ((f + k:Nat):Int) A = _
  unfold cP
  have c0:decide (((f + k:Nat):Int) < (dues'.length:Int)) = true:=by simp; omega
  have eD:at? dues' ((f + k:Nat):Int) = some (el dues (f + k)):=by rw [bA dues' (f + k) (by omega),hd _ (by omega)]
  have eX:at? x ((f + k:Nat):Int) = some (el x (f + k)):=bA x (f + k) (by omega)
  have w3:IntKind.wrap .i64 (((f + k:Nat):Int) + 1) = ((f + (k + 1):Nat):Int):=by rw [aO (by omega)]; rfl
  have hj:∀ L:List aD,L.length <= 2 * k + 1->jQ dues' x ((f + k:Nat):Int) (el dues (f + k)) L = some (L ++ (if el x (f + k) > 0 then [pD dues (el x) (f + k) true] else []).map qI):=by
   intro L hL
   unfold jQ
   rw [eX,À]
   by_cases c:el x (f + k) > 0
   ·rw [Á (Í c),Á c,Á (by omega)]; rfl
   ·have c' : ¬ decide (el x (f + k) > 0) = true:=by rw [Ò]; exact c
    rw [Ã c',Ã c,List.map_nil,Û]
  rw [Á c0,eD,À,eX,À,w3]
  unfold H3
  rw [Ă]
  by_cases c:el x (f + k) < (el dues (f + k)).Sum
  ·rw [Á (Í c),Á (by omega),hj _ (by simp; omega),À,Á c,← è]; rfl
  ·have c' : ¬ decide (el x (f + k) < (el dues (f + k)).Sum) = true:=by rw [Ò]; exact c
   rw [Ã c',hj _ (by omega),À,Ã c,List.map_nil,Đ]
 ·rintro a rfl
  refine ⟨_,?_,rfl⟩
  show cP dues' x ((f + (t - f):Nat):Int) _ = _
  unfold cP
  have c0:¬ decide (((f + (t - f):Nat):Int) < (dues'.length:Int)) = true:=by simp; omega
  rw [Ã c0]
theorem BQ {f k:Nat} {g:aC}:g ∈ lM dues (el x) f k ↔ ∃ i b,f <= i ∧ i < f + k ∧ g = pD dues (el x) i b ∧ 0 < (pD dues (el x) i b).most:=by
 have hh:g ∈ lM dues (el x) f k ↔ ∃ i,(f <= i ∧ i < f + k) ∧ g ∈ H3 dues (el x) i:=by
  unfold lM
  rw [Ð]
  constructor
  ·rintro ⟨i,hi,hg⟩
   rw [Ō] at hi
   exact ⟨i,hi,hg⟩
  ·rintro ⟨i,hi,hg⟩
   exact ⟨i,Ō.2 hi,hg⟩
 rw [hh]
 constructor
 ·rintro ⟨i,hi,hg⟩
  have:g ∈ iV dues (el x) (i + 1):=by rw [QA]; exact Ê.2 (.inr hg)
  unfold H3 at hg
  rcases Ê.1 hg with q | q
  ·split at q
   ·rename_i c
    exact ⟨i,false,hi.1,hi.2,by simpa using q,by simp [pD]; omega⟩
   ·cases q
  ·split at q
   ·rename_i c
    exact ⟨i,true,hi.1,hi.2,by simpa using q,by simp [pD]; omega⟩
   ·cases q
 ·rintro ⟨i,b,h1,h2,rfl,hm⟩
  refine ⟨i,⟨h1,h2⟩,?_⟩
  unfold H3
  refine Ê.2 ?_
  cases b
  ·left
   have:el x i < (el dues i).Sum:=by simp [pD] at hm; omega
   rw [Á this]; simp
  ·right
   have:el x i > 0:=by simpa [pD] using hm
   rw [Á this]; simp
theorem VE (h:D5 n dues) {f k:Nat} (hk:f + k <= dues.length):lY (iH dues) (i7 dues) (jN dues) dues.length (el x) (fun i _=>f <= i ∧ i < f + k) QF ((lM dues (el x) f k).map aJ):=by
 constructor
 ·intro j hj
  rw [È] at hj
  rw [eP aJ _ j hj]
  obtain ⟨i,b,h1,h2,e,hm⟩:=BQ.1 (kS _ _ hj)
  refine ⟨i,b,by omega,⟨h1,h2⟩,?_,by rw [e,pI h (by omega)]⟩
  rw [← pI h (by omega)]
  exact hm
 ·intro i b hi hQ hm
  rw [← pI h hi] at hm
  obtain ⟨j,hj,e⟩:=E9 (BQ.2 ⟨i,b,hQ.1,hQ.2,rfl,hm⟩)
  refine ⟨j,by rw [È]; exact hj,?_⟩
  rw [eP aJ _ j hj,e,pI h hi]
theorem aDc (h:D5 n dues) {k:Nat} (hk:k <= dues.length):lY (iH dues) (i7 dues) (jN dues) k (el x) (fun _ _=>True) QF ((lM dues (el x) 0 k).map aJ):=by
 have S:=VE (x:=x) h (f:=0) (k:=k) (by omega)
 constructor
 ·intro j hj
  obtain ⟨i,b,h1,h2,h3,h4⟩:=S.sound j hj
  exact ⟨i,b,by omega,trivial,h3,h4⟩
 ·intro i b hi _ hm
  exact S.all i b (by omega) ⟨Ė _,by omega⟩ hm
theorem VI (h:D5 n dues) {f k:Nat} (hk:f + k <= dues.length):∀ g ∈ lM dues (el x) f k,GI n g ∧ g.from_ ≠ g.to ∧ (0 <= g.due ∧ g.due < (dues.length:Nat)):=by
 intro g hg
 obtain ⟨i,b,h1,h2,rfl,_⟩:=BQ.1 hg
 have:=h.each i (by omega)
 cases b <;> simp [GI,pD] <;> omega
end
section
variable {l:List c9}
def JW (l:List c9) (z:(List J3 × List Int × Bool) × List (List Int)) (i:Nat):(List J3 × List Int × Bool) × List (List Int) :=
 (iN fN kO c9.src c9.dst l z.1 i,if fN (kO (el z.1.1 (el l i).src) (el l i)) (el z.1.1 (el l i).dst) = true then z.2.set (el l i).dst (el z.2 (el l i).src ++ [(i:Int)]) else z.2)
def zO (l:List c9) (k:Nat) (z:(List J3 × List Int × Bool) × List (List Int)):=(List.range k).foldl (JW l) z
theorem aAw (k:Nat) (z:(List J3 × List Int × Bool) × List (List Int)):(zO l k z).1 = (List.range k).foldl (iN fN kO c9.src c9.dst l) z.1:=by
 unfold zO
 induction k with
 | zero=>rfl
 | succ k ih =>
  rw [Ĉ,ü,ü,ð,ð,ġ,ġ,← ih]
  rfl
structure aB9 (n:Nat) (l:List c9) (best:List J3) (last:List Int) (ways:List (List Int)):Prop where
 len:ways.length = n
 way:∀ v,v < n->(el last v = -1 ∧ el ways v = []) ∨ ∃ i,i < l.length ∧ el last v = (i:Int) ∧ (el l i).dst = v ∧ ((kO (el best (el l i).src) (el l i) = el best v ∧ el ways v = el ways (el l i).src ++ [(i:Int)]) ∨ fN (kO (el best (el l i).src) (el l i)) (el best v) = true)
 fine:∀ v,v < n->(el best v).fine = true->(el best v).k = ((el ways v).length:Int)
 coarse:∀ v,v < n->(el best v).fine = false->el ways v = []
theorem aFx {a b:J3} (s:c9) (h:fN a b = true):fN (kO a s) (kO b s) = true:=by
 rw [DW] at *
 simp only [kO]
 obtain ⟨h1,h2⟩:=h
 refine ⟨h1,?_⟩
 rcases h2 with h2 | h2 | h2
 ·exact .inl h2
 ·exact .inr (.inl (by omega))
 ·exact .inr (.inr (by omega))
theorem aCP {a b c:J3} (h1:fN a b = true) (h2:fN b c = true):fN a c = true:=by
 rw [DW] at *
 obtain ⟨p1,p2⟩:=h1
 obtain ⟨q1,q2⟩:=h2
 refine ⟨p1,?_⟩
 rcases q2 with q2 | q2
 ·exact .inl q2
 ·rcases p2 with p2 | p2
  ·rw [q1] at p2; cases p2
  ·exact .inr (by omega)
theorem aIE {n:Nat} (hs:∀ i,i < l.length->(el l i).src < n ∧ (el l i).dst < n ∧ (el l i).src ≠ (el l i).dst) {best:List J3} {last:List Int} {ch:Bool} {ways:List (List Int)} (hb:best.length = n) (hla:last.length = n) (h:aB9 n l best last ways) {k:Nat} (hk:k < l.length) :
  aB9 n l (JW l ((best,last,ch),ways) k).1.1 (JW l ((best,last,ch),ways) k).1.2.1 (JW l ((best,last,ch),ways) k).2:=by
 obtain ⟨s1,s2,s3⟩:=hs k hk
 unfold JW iN
 dsimp only
 by_cases c:fN (kO (el best (el l k).src) (el l k)) (el best (el l k).dst) = true
 ·rw [Á c,Á c]
  dsimp only
  generalize ha:kO (el best (el l k).src) (el l k) = a at *
  have hafine:a.fine = true:=((DW _ _).1 c).1
  have hsrcfine:(el best (el l k).src).fine = true:=by rw [← ha] at hafine; exact hafine
  have hset:∀ v,el (best.set (el l k).dst a) v = if v = (el l k).dst then a else el best v:=fun v=>by
   rw [bR]
   by_cases e:v = (el l k).dst
   ·rw [Á ⟨e,by omega⟩,Á e]
   ·rw [Ã (fun q=>e q.1),Ã e]
  have hsetL:∀ v,el (last.set (el l k).dst (k:Int)) v = if v = (el l k).dst then (k:Int) else el last v:=fun v=>by
   rw [bR]
   by_cases e:v = (el l k).dst
   ·rw [Á ⟨e,by omega⟩,Á e]
   ·rw [Ã (fun q=>e q.1),Ã e]
  have hwl:=h.len
  have hsetW:∀ v,el (ways.set (el l k).dst (el ways (el l k).src ++ [(k:Int)])) v = if v = (el l k).dst then el ways (el l k).src ++ [(k:Int)] else el ways v:=fun v=>by
   rw [bR]
   by_cases e:v = (el l k).dst
   ·rw [Á ⟨e,by omega⟩,Á e]
   ·rw [Ã (fun q=>e q.1),Ã e]
  refine ⟨by rw [á]; exact hwl,fun v hv=>?_,fun v hv hf=>?_,fun v hv hf=>?_⟩
  ·rw [hsetL,hsetW]
   by_cases e:v = (el l k).dst
   ·subst e
    rw [Á rfl,Á rfl]
    refine .inr ⟨k,hk,rfl,rfl,.inl ?_⟩
    rw [hset,hset,hsetW,Á rfl,Ã s3,Ã s3]
    exact ⟨ha,rfl⟩
   ·rw [Ã e,Ã e]
    rcases h.way v hv with q | ⟨i,q1,q2,q3,q4⟩
    ·exact .inl q
    ·refine .inr ⟨i,q1,q2,q3,?_⟩
     rw [hset,hset,hsetW,Ã e]
     by_cases e2:(el l i).src = (el l k).dst
     ·rw [Á e2,Á e2]
      right
      have hm:=aFx (el l i) c
      rw [← e2] at hm
      rcases q4 with ⟨q5,_⟩ | q5
      ·rw [q5] at hm; exact hm
      ·exact aCP hm q5
     ·rw [Ã e2,Ã e2]; exact q4
  ·rw [hset] at hf ⊢
   rw [hsetW]
   by_cases e:v = (el l k).dst
   ·rw [Á e,Á e]
    have:=h.fine _ s1 hsrcfine
    rw [← ha]
    show (el best (el l k).src).k + 1 = _
    rw [this,ß]; rfl
   ·rw [Ã e] at hf ⊢
    rw [Ã e]
    exact h.fine v hv hf
  ·rw [hset] at hf
   rw [hsetW]
   by_cases e:v = (el l k).dst
   ·rw [Á e,hafine] at hf; cases hf
   ·rw [Ã e] at hf ⊢
    exact h.coarse v hv hf
 ·rw [Ã c,Ã c]; exact h
end
end
section
open Go.RowKit Vm
def AH (b:J3):Int:=if b.fine = true then b.c else 1099511627776
section
variable {n:Nat} {l:List aC}
theorem LS {best:List J3} {last:List Int} {B:Int} (hl:∀ g ∈ l,GI n g) (hb:best.length = n) (hla:last.length = n) (h:E7 n B best) (hB:0 <= B) {k:Nat} (hk:k <= l.length) (ways:List (List Int)) :
  (zO (l.map aJ) k ((best,last,false),ways)).1.1.length = n ∧ (zO (l.map aJ) k ((best,last,false),ways)).1.2.1.length = n ∧ E7 n (B + k) (zO (l.map aJ) k ((best,last,false),ways)).1.1:=by
 rw [aAw]
 exact OW hl hb hla h hB k hk
theorem XS (l:List c9) (k:Nat) (z:(List J3 × List Int × Bool) × List (List Int)):zO l (k + 1) z = JW l (zO l k z) k:=by
 unfold zO
 rw [Ĉ,ü,ð,ġ]
theorem aAN (hs:∀ i,i < (l.map aJ).length->(el (l.map aJ) i).src < n ∧ (el (l.map aJ) i).dst < n ∧ (el (l.map aJ) i).src ≠ (el (l.map aJ) i).dst) {best:List J3} {last:List Int} {B:Int} (hl:∀ g ∈ l,GI n g) (hb:best.length = n) (hla:last.length = n) (hB:E7 n B best) (hB0:0 <= B) {ways:List (List Int)} (h:aB9 n (l.map aJ) best last ways) :
  ∀ k,k <= l.length->aB9 n (l.map aJ) (zO (l.map aJ) k ((best,last,false),ways)).1.1 (zO (l.map aJ) k ((best,last,false),ways)).1.2.1 (zO (l.map aJ) k ((best,last,false),ways)).2:=by
 intro k
 induction k with
 | zero=>intro _; exact h
 | succ k ih =>
  intro hk
  obtain ⟨b1,b2,b3⟩:=LS hl hb hla hB hB0 (k:=k) (by omega) ways
  have:=ih (by omega)
  rw [XS]
  generalize zO (l.map aJ) k ((best,last,false),ways) = z at *
  obtain ⟨⟨z1,z2,z3⟩,z4⟩:=z
  exact aIE hs b1 b2 this (by rw [È]; omega)
theorem aJC (hs:∀ i,i < (l.map aJ).length->(el (l.map aJ) i).src < n ∧ (el (l.map aJ) i).dst < n ∧ (el (l.map aJ) i).src ≠ (el (l.map aJ) i).dst) {best:List J3} {last:List Int} {B:Int} (hl:∀ g ∈ l,GI n g) (hb:best.length = n) (hla:last.length = n) (hB:E7 n B best) (hB0:0 <= B) (hBl:B + l.length <= 1000000) {ways:List (List Int)} (h:aB9 n (l.map aJ) best last ways) (a3 p7:Int) :
  oA n (l.map qI) a3 p7 0 (best.map AH) ways = some ((zO (l.map aJ) l.length ((best,last,false),ways)).1.1.map AH,(zO (l.map aJ) l.length ((best,last,false),ways)).2):=by
 unfold oA
 suffices hh:∃ y,bV (fun (w:Int × List Int × List (List Int))=>dO n (l.map qI) a3 p7 w.1 w.2.1 w.2.2) (0,best.map AH,ways) = some y ∧ y = ((zO (l.map aJ) l.length ((best,last,false),ways)).1.1.map AH,(zO (l.map aJ) l.length ((best,last,false),ways)).2) by
  obtain ⟨y,h1,h2⟩:=hh
  rw [h2] at h1; exact h1
 refine bO (step:=fun (w:Int × List Int × List (List Int))=>dO n (l.map qI) a3 p7 w.1 w.2.1 w.2.2) (fun k (a:(List J3 × List Int × Bool) × List (List Int))=>((k:Int),a.1.1.map AH,a.2)) l.length
  (fun k a=>a = zO (l.map aJ) k ((best,last,false),ways)) (fun y=>y = ((zO (l.map aJ) l.length ((best,last,false),ways)).1.1.map AH,(zO (l.map aJ) l.length ((best,last,false),ways)).2)) ?_ ?_ ((best,last,false),ways) rfl
 ·rintro k a hk rfl
  refine .inl ⟨_,?_,rfl⟩
  obtain ⟨b1,b2,b3⟩:=LS hl hb hla hB hB0 (k:=k) (by omega) ways
  have hW:=aAN hs hl hb hla hB hB0 h k (by omega)
  rw [XS]
  generalize zO (l.map aJ) k ((best,last,false),ways) = z at *
  obtain ⟨⟨z1,z2,z3⟩,z4⟩:=z
  dsimp only at b1 b2 b3 hW
  obtain ⟨⟨g1,g2⟩,⟨g3,g4⟩,g5,g6⟩:=hl _ (kS _ _ hk)
  have hlW:=hW.len
  have eG:at? (l.map qI) (k:Int) = some (qI (el l k)):=by rw [at?_nat,Ç,DH l k hk]; rfl
  have c0:decide ((k:Int) < ((l.map qI).length:Int)) = true:=by rw [È]; simpa using hk
  have w3:=aO (n:=k) (by omega)
  have hFn:(el l k).from_.toNat < n:=by omega
  have hTn:(el l k).to.toNat < n:=by omega
  have cF:0 <= (qI (el l k)).From ∧ (qI (el l k)).From.toNat < (z1.map AH).length:=⟨g1,by rw [È,b1]; exact hFn⟩
  have cT:0 <= (qI (el l k)).To ∧ (qI (el l k)).To.toNat < (z1.map AH).length:=⟨g3,by rw [È,b1]; exact hTn⟩
  have cF2:0 <= (qI (el l k)).From ∧ (qI (el l k)).From.toNat < z4.length:=⟨g1,by rw [hlW]; exact hFn⟩
  have cT2:0 <= (qI (el l k)).To ∧ (qI (el l k)).To.toNat < z4.length:=⟨g3,by rw [hlW]; exact hTn⟩
  have eF:(z1.map AH)[(qI (el l k)).From.toNat]? = some (AH (el z1 (el l k).from_.toNat)):=by
   show (z1.map AH)[(el l k).from_.toNat]? = _
   rw [Ç,DH z1 _ (by omega)]; rfl
  have eT:(z1.map AH)[(qI (el l k)).To.toNat]? = some (AH (el z1 (el l k).to.toNat)):=by
   show (z1.map AH)[(el l k).to.toNat]? = _
   rw [Ç,DH z1 _ (by omega)]; rfl
  have eF2:z4[(qI (el l k)).From.toNat]? = some (el z4 (el l k).from_.toNat):=by
   show z4[(el l k).from_.toNat]? = _
   exact DH z4 _ (by omega)
  have eT2:z4[(qI (el l k)).To.toNat]? = some (el z4 (el l k).to.toNat):=by
   show z4[(el l k).to.toNat]? = _
   exact DH z4 _ (by omega)
  have hcost:(qI (el l k)).Cost = (el l k).cost:=rfl
  have bF:=b3 _ hFn
  have bT:=b3 _ hTn
  have fF:=hW.fine _ hFn
  have fT:=hW.fine _ hTn
  have nF:=hW.coarse _ hFn
  have nT:=hW.coarse _ hTn
  have e3:(el (l.map aJ) k).src = (el l k).from_.toNat:=by rw [eP aJ l k hk]; rfl
  have e4:(el (l.map aJ) k).dst = (el l k).to.toNat:=by rw [eP aJ l k hk]; rfl
  have e5:(el (l.map aJ) k).cost = (el l k).cost:=by rw [eP aJ l k hk]; rfl
  have hwF:IntKind.wrap .i64 (AH (el z1 (el l k).from_.toNat) + (el l k).cost) = AH (el z1 (el l k).from_.toNat) + (el l k).cost:=by
   unfold AH
   split <;> exact gL (by omega) (by omega)
  have hlenF:((el z4 (el l k).from_.toNat).length:Int) <= 1000000:=by
   cases hf:(el z1 (el l k).from_.toNat).fine with
   | true=>have:=fF hf; omega
   | false=>rw [nF hf]; simp
  have hwL:IntKind.wrap .i64 (((el z4 (el l k).from_.toNat).length:Int) + 1) = ((el z4 (el l k).from_.toNat).length:Int) + 1:=gL (by omega) (by omega)
  -- the update
  have hup:kY n (l.map qI) a3 k (z1.map AH) z4 p7 (AH (el z1 (el l k).from_.toNat)) (qI (el l k)) = some ((z1.map AH).set (el l k).to.toNat (AH (el z1 (el l k).from_.toNat) + (el l k).cost),z4.set (el l k).to.toNat (el z4 (el l k).from_.toNat ++ [(k:Int)])):=by
   unfold kY
   have cL1:(0 + (el z4 (el l k).from_.toNat).length) * 8 <= 140737488355328:=by omega
   have cL2:((([]:List Int) ++ el z4 (el l k).from_.toNat).length + 1) * 8 <= 140737488355328:=by rw [Đ]; omega
   simp only [eG,À,Á cT,eT,Á cF2,eF2,Á cL1,Á cL2,Á cT2,eT2,hcost,hwF]
   rw [Đ]
   rfl
  have hj:∀ b:Bool,(b = true ↔ AH (el z1 (el l k).from_.toNat) + (el l k).cost = AH (el z1 (el l k).to.toNat) ∧ (el z4 (el l k).from_.toNat).length + 1 < (el z4 (el l k).to.toNat).length)->kW n (l.map qI) a3 k (z1.map AH) z4 p7 (AH (el z1 (el l k).from_.toNat)) (qI (el l k)) b = some ((JW (l.map aJ) ((z1,z2,z3),z4) k).1.1.map AH,(JW (l.map aJ) ((z1,z2,z3),z4) k).2):=by
   intro b hb
   unfold kW
   simp only [eG,À,Á cF,eF,Á cT,eT,hcost,hwF,hup]
   have hrel:JW (l.map aJ) ((z1,z2,z3),z4) k = if fN (kO (el z1 (el l k).from_.toNat) (el (l.map aJ) k)) (el z1 (el l k).to.toNat) = true then ((z1.set (el l k).to.toNat (kO (el z1 (el l k).from_.toNat) (el (l.map aJ) k)),z2.set (el l k).to.toNat (k:Int),true),z4.set (el l k).to.toNat (el z4 (el l k).from_.toNat ++ [(k:Int)])) else ((z1,z2,z3),z4):=by
    unfold JW iN
    dsimp only
    rw [e3,e4]
    split <;> rfl
   rw [hrel]
   have hless:fN (kO (el z1 (el l k).from_.toNat) (el (l.map aJ) k)) (el z1 (el l k).to.toNat) = true ↔ (el z1 (el l k).from_.toNat).fine = true ∧ ((el z1 (el l k).to.toNat).fine = false ∨ (el z1 (el l k).from_.toNat).c + (el l k).cost < (el z1 (el l k).to.toNat).c ∨ (el z1 (el l k).from_.toNat).c + (el l k).cost = (el z1 (el l k).to.toNat).c ∧ (el z1 (el l k).from_.toNat).k + 1 < (el z1 (el l k).to.toNat).k):=by
    rw [DW]
    simp only [kO,e5]
   by_cases hf:(el z1 (el l k).from_.toNat).fine = true
   ·have hcF:AH (el z1 (el l k).from_.toNat) = (el z1 (el l k).from_.toNat).c:=Á hf
    have d1:decide (AH (el z1 (el l k).from_.toNat) < 1099511627776) = true:=by rw [Ò,hcF]; omega
    rw [Á d1]
    have hset:(z1.set (el l k).to.toNat (kO (el z1 (el l k).from_.toNat) (el (l.map aJ) k))).map AH = (z1.map AH).set (el l k).to.toNat (AH (el z1 (el l k).from_.toNat) + (el l k).cost):=by
     rw [aCJ]
     congr 1
     show AH ⟨(el z1 (el l k).from_.toNat).c + (el (l.map aJ) k).cost,_,(el z1 (el l k).from_.toNat).fine⟩ = _
     rw [hcF,e5]
     unfold AH
     dsimp only
     rw [Á hf]
    by_cases hl:fN (kO (el z1 (el l k).from_.toNat) (el (l.map aJ) k)) (el z1 (el l k).to.toNat) = true
    ·rw [Á hl]
     dsimp only
     rw [hset]
     obtain ⟨_,hl2⟩:=hless.1 hl
     by_cases d2:AH (el z1 (el l k).from_.toNat) + (el l k).cost < AH (el z1 (el l k).to.toNat)
     ·rw [Á (Í d2)]
     ·have d2' : ¬ decide (AH (el z1 (el l k).from_.toNat) + (el l k).cost < AH (el z1 (el l k).to.toNat)) = true:=by rw [Ò]; exact d2
      have hbt:b = true:=by
       refine hb.2 ?_
       cases hf2:(el z1 (el l k).to.toNat).fine with
       | false =>
        have hcT:AH (el z1 (el l k).to.toNat) = 1099511627776:=Ã (by rw [hf2]; decide)
        rw [hcF,hcT] at d2
        omega
       | true =>
        have hcT:AH (el z1 (el l k).to.toNat) = (el z1 (el l k).to.toNat).c:=Á hf2
        rw [hcF,hcT] at d2 ⊢
        rw [hf2] at hl2
        have:=fF hf
        have:=fT hf2
        rcases hl2 with q | q | q
        ·cases q
        ·omega
        ·omega
      rw [Ã d2',Á hbt]
    ·rw [Ã hl]
     dsimp only
     have hl2:¬ ((el z1 (el l k).to.toNat).fine = false ∨ (el z1 (el l k).from_.toNat).c + (el l k).cost < (el z1 (el l k).to.toNat).c ∨ (el z1 (el l k).from_.toNat).c + (el l k).cost = (el z1 (el l k).to.toNat).c ∧ (el z1 (el l k).from_.toNat).k + 1 < (el z1 (el l k).to.toNat).k):=fun q=>hl (hless.2 ⟨hf,q⟩)
     cases hf2:(el z1 (el l k).to.toNat).fine with
     | false=>exact absurd (.inl hf2) hl2
     | true =>
      have hcT:AH (el z1 (el l k).to.toNat) = (el z1 (el l k).to.toNat).c:=Á hf2
      have d2:¬ decide (AH (el z1 (el l k).from_.toNat) + (el l k).cost < AH (el z1 (el l k).to.toNat)) = true:=by rw [Ò,hcF,hcT]; exact fun q=>hl2 (.inr (.inl q))
      have hbf:¬ b = true:=by
       rw [hb,hcF,hcT]
       have:=fF hf
       have:=fT hf2
       rintro ⟨q1,q2⟩
       exact hl2 (.inr (.inr ⟨q1,by omega⟩))
      rw [Ã d2,Ã hbf]
   ·have hcF:AH (el z1 (el l k).from_.toNat) = 1099511627776:=Ã hf
    have d1:¬ decide (AH (el z1 (el l k).from_.toNat) < 1099511627776) = true:=by rw [Ò,hcF]; omega
    have hl:¬ fN (kO (el z1 (el l k).from_.toNat) (el (l.map aJ) k)) (el z1 (el l k).to.toNat) = true:=fun q=>hf (hless.1 q).1
    rw [Ã d1,Ã hl]
  show dO n (l.map qI) a3 p7 k (z1.map AH) z4 = _
  unfold dO
  simp only [Á c0,eG,À,Á cF,eF,Á cT,eT,hcost,hwF,Á cF2,eF2,Á cT2,eT2,hwL,w3]
  by_cases hq:AH (el z1 (el l k).from_.toNat) + (el l k).cost = AH (el z1 (el l k).to.toNat)
  ·have hq' : (AH (el z1 (el l k).from_.toNat) + (el l k).cost == AH (el z1 (el l k).to.toNat)) = true:=by simpa using hq
   rw [Á hq',hj _ (by rw [Ò]; exact ⟨fun q=>⟨hq,by omega⟩,fun q=>by omega⟩)]
   rfl
  ·have hq' : ¬ (AH (el z1 (el l k).from_.toNat) + (el l k).cost == AH (el z1 (el l k).to.toNat)) = true:=by simpa using hq
   rw [Ã hq',hj false ⟨fun q=>by (cases q),fun q=>absurd q.1 hq⟩]
   rfl
 ·rintro a rfl
  refine ⟨_,?_,rfl⟩
  show dO n (l.map qI) a3 p7 (l.length:Int) _ _ = _
  unfold dO
  rw [Ã (by simp)]
end
end
section
open Go.RowKit Vm
theorem aJ0 {n:Nat} {l:List c9} (R:Nat->Bool) (hs:∀ i,i < l.length->(el l i).src < n ∧ (el l i).dst < n) {init best:List J3} {last:List Int} (hn:init.length = n) (hi:∀ v,v < n->el init v = ⟨0,0,R v⟩) (h2:W6 fN kO c9.src c9.dst l init best last)
  (h3:∀ i,i < l.length->FD fN (el best (el l i).dst) (kO (el best (el l i).src) (el l i))):P6 n l (fun v=>(el best v).fine = true) (fun v=>R v = true) (fun v=>(el best v).c) (fun v=>(el best v).k.toNat) last:=by
 subst hn
 refine ⟨?_,?_,?_⟩
 ·intro v hv hF
  rcases h2.last_ v hv with ⟨q1,q2⟩ | ⟨k,q1,q2,q3,q4⟩
  ·refine .inl ⟨q1,?_⟩
   rw [q2,hi v hv] at hF
   exact hF
  ·refine .inr ⟨k,q1,q2,q3,(hs k q1).1,?_⟩
   have q5:=h3 k q1
   rw [q3] at q5
   unfold FD at q4 q5
   rw [xE] at q4 q5
   simp only [kO] at q4 q5
   obtain ⟨j,hj⟩:=h2.wk _ (hs k q1).1
   obtain ⟨u,r1,r2,r3⟩:=aJE hj
   rw [hi u r1] at r2
   dsimp only at r2
   rcases q4 with q4 | ⟨q4,q6⟩
   ·rw [hF] at q4; cases q4
   ·rcases q5 with q5 | ⟨_,q7⟩
    ·rw [q4] at q5; cases q5
    ·exact ⟨q4,by omega,by omega⟩
 ·intro k hk hF
  have q5:=h3 k hk
  unfold FD at q5
  rw [xE] at q5
  simp only [kO] at q5
  rcases q5 with q5 | ⟨q6,q7⟩
  ·rw [hF] at q5; cases q5
  ·exact ⟨q6,by omega⟩
 ·intro v hv hR
  have q:=h2.le0 v hv
  unfold FD at q
  rw [xE,hi v hv] at q
  dsimp only at q
  rcases q with q | q
  ·rw [hR] at q; cases q
  ·exact q.1
theorem aIH {n:Nat} {l:List c9} {best:List J3} {last:List Int} {ways:List (List Int)} (hs:∀ i,i < l.length->(el l i).src < n ∧ (el l i).dst < n) (W:aB9 n l best last ways) (h3:∀ i,i < l.length->FD fN (el best (el l i).dst) (kO (el best (el l i).src) (el l i)))
  (hinv:∀ v,v < n->(el best v).fine = true->∀ k:Nat,k < l.length->el last v = (k:Int)->FD fN (kO (el best (el l k).src) (el l k)) (el best v)) {v u:Nat} {ks:List Nat} (w:Pth l last v ks u):v < n->(∀ k ∈ ks,(el best (el l k).src).fine = true ∧ (el best (el l k).dst).fine = true)->el ways v = ks.reverse.map fun (k:Nat)=>(k:Int):=by
 induction w with
 | nil v hv =>
  intro hvn _
  rcases W.way v hvn with ⟨_,q⟩ | ⟨i,_,q,_⟩
  ·rw [q]; rfl
  ·rw [hv] at q; omega
 | @cons v k u ks hk hlv hd w ih =>
  intro hvn hf
  rcases W.way v hvn with ⟨q,_⟩ | ⟨i,q1,q2,q3,q4⟩
  ·rw [hlv] at q; omega
  ·obtain rfl:i = k:=by omega
   have hfv:=hf i (à ..)
   have hno:fN (kO (el best (el l i).src) (el l i)) (el best v) = false:=by
    have:=h3 i hk
    unfold FD at this
    rw [q3] at this
    -- labels are not less in either way; less is excluded because best v is not above
    have h4:=hfv.2
    rw [q3] at h4
    cases hl:fN (kO (el best (el l i).src) (el l i)) (el best v) with
    | false=>rfl
    | true=>rw [hl] at this; cases this
   rcases q4 with ⟨_,q5⟩ | q5
   ·rw [q5,ih (hs i hk).1 fun k hk'=>hf k (Õ _ hk'),List.reverse_cons,Ă]
    rfl
   ·rw [hno] at q5; cases q5
section
variable {n:Nat} {l:List aC}
def FE (n u:Nat):List J3:=(List.range n).map fun v=>⟨0,0,decide (v = u)⟩
theorem VL (n u:Nat):(FE n u).length = n:=by simp [FE]
theorem LD {n u v:Nat} (h:v < n):el (FE n u) v = ⟨0,0,decide (v = u)⟩:=by simp [FE,el,h]
theorem aR8 (hn:n <= 1000) {u v:Nat} (hu:u < n):oD n (l.map qI) u v 0 (List.replicate n (0:Int)) = some (List.replicate n 1099511627776):=by
 unfold oD
 suffices hh:∃ y,bV (fun (w:Int × List Int)=>dP n (l.map qI) u v w.1 w.2) (0,List.replicate n (0:Int)) = some y ∧ y = List.replicate n 1099511627776 by
  obtain ⟨y,h1,h2⟩:=hh
  rw [h2] at h1; exact h1
 refine bO (step:=fun (w:Int × List Int)=>dP n (l.map qI) u v w.1 w.2) (fun k (a:List Int)=>((k:Int),a)) n (fun k a=>a.length = n ∧ ∀ j,j < k->el a j = 1099511627776) _ ?_ ?_ _ ⟨Ë,fun j hj=>absurd hj (í _)⟩
 ·rintro k a hk ⟨h1,h2⟩
  refine .inl ⟨a.set k 1099511627776,?_,by simp [h1],fun j hj=>?_⟩
  ·show dP n (l.map qI) u v k a = _
   unfold dP
   have c0:decide ((k:Int) < (n:Int)) = true:=by simpa using hk
   have ck:0 <= (k:Int) ∧ (k:Int).toNat < a.length:=⟨by omega,by rw [Ä]; omega⟩
   have ek:a[(k:Int).toNat]? = some (el a k):=by rw [Ä]; exact DH a k (by omega)
   have w3:=aO (n:=k) (by omega)
   simp only [Á c0,Á ck,ek,À,w3]
   rw [Ä]
  ·rw [bR]
   by_cases e:j = k
   ·subst e; rw [Á ⟨rfl,by omega⟩]
   ·rw [Ã fun q=>e q.1]; exact h2 j (by omega)
 ·rintro a ⟨h1,h2⟩
  refine ⟨a,?_,?_⟩
  ·show dP n (l.map qI) u v n a = _
   unfold dP
   rw [Ã (by simp)]
  ·refine FO (by rw [h1,Ë]) fun j hj=>?_
   rw [h1] at hj
   rw [h2 j hj,cY _ _ _ hj]
theorem aFT {u:Nat} (hu:u < n):(List.replicate n (1099511627776:Int)).set u 0 = (FE n u).map AH:=by
 refine FO (by rw [á,Ë,È,VL]) fun j hj=>?_
 rw [á,Ë] at hj
 rw [bR,Ë,eP AH _ _ (by rw [VL]; exact hj),LD hj,cY _ _ _ hj]
 unfold AH
 by_cases e:j = u
 ·rw [Á ⟨e,hu⟩]; simp [e]
 ·rw [Ã fun q=>e q.1]; simp [e]
structure aU1 (n:Nat) (l:List aC) (u v:Nat) (c:Int) (w:List Int) (q:Nat->Int) (F:Nat->Bool) (μ:Nat->Nat) (last:List Int):Prop where
 tree:P6 n (l.map aJ) (fun z=>F z = true) (fun z=>z = u) q μ last
 yes:F v = true->c = q v ∧ ∃ ks,Pth (l.map aJ) last v ks u ∧ w = (ks.reverse.map fun (k:Nat)=>(k:Int)) ∧ ∀ k ∈ ks,k < l.length ∧ F (el (l.map aJ) k).src = true ∧ F (el (l.map aJ) k).dst = true ∧ μ (el (l.map aJ) k).src < μ (el (l.map aJ) k).dst ∧ q (el (l.map aJ) k).dst = q (el (l.map aJ) k).src + (el (l.map aJ) k).cost
 no:F v = false->c = 1099511627776
 wk:∀ z,z < n->F z = true->∃ k,OC c9.src c9.dst c9.cost (l.map aJ) u k (q z) z
 le:∀ k c' z,OC c9.src c9.dst c9.cost (l.map aJ) u k c' z->F z = true ∧ q z <= c'
 bound:∀ z,z < n->F z = true->-1000000 <= q z ∧ q z <= 1000000
theorem aJ1 (hn:n <= 40) (hl:∀ g ∈ l,GI n g ∧ g.from_ ≠ g.to) (hll:l.length <= 1000) {p:Nat->Int} (hp:Pot c9.src c9.dst c9.cost (l.map aJ) p) {u v:Nat} (hu:u < n) (hv:v < n) :
  ∃ c w q F μ last,kG n (l.map qI) u v = some (c,w) ∧ aU1 n l u v c w q F μ last:=by
 have hok:∀ g ∈ l,GI n g:=fun g hg=>(hl g hg).1
 have hs3:∀ i,i < (l.map aJ).length->(el (l.map aJ) i).src < n ∧ (el (l.map aJ) i).dst < n ∧ (el (l.map aJ) i).src ≠ (el (l.map aJ) i).dst:=by
  intro i hi
  rw [È] at hi
  rw [eP aJ l i hi]
  obtain ⟨⟨⟨g1,g2⟩,⟨g3,g4⟩,_⟩,g7⟩:=hl _ (kS _ _ hi)
  simp only [c9.src,c9.dst,aJ]
  omega
 have hs:∀ i,i < (l.map aJ).length->(el (l.map aJ) i).src < n ∧ (el (l.map aJ) i).dst < n:=fun i hi=>⟨(hs3 i hi).1,(hs3 i hi).2.1⟩
 have tr:∀ {x y z:J3},FD fN x y->FD fN y z->FD fN x z:=fun hxy hyz=>aHx.neg _ _ _ hyz hxy
 have hil:=VL n u
 have rounds:∃ best last ways,oE n (l.map qI) v 0 ((FE n u).map AH) (List.replicate n []) = some (best.map AH,ways) ∧ W6 fN kO c9.src c9.dst (l.map aJ) (FE n u) best last ∧ aB9 n (l.map aJ) best last ways ∧ E7 n ((n * l.length:Nat):Int) best ∧ ∀ k a z,k <= n->ZX kO c9.src c9.dst (l.map aJ) (FE n u) k a z->FD fN (el best z) a:=by
  unfold oE
  suffices hh:∃ y,bV (fun (w:Int × List Int × List (List Int))=>dW n (l.map qI) v w.1 w.2.1 w.2.2) (0,(FE n u).map AH,List.replicate n []) = some y ∧ ∃ best last ways,y = (best.map AH,ways) ∧ W6 fN kO c9.src c9.dst (l.map aJ) (FE n u) best last ∧ aB9 n (l.map aJ) best last ways ∧ E7 n ((n * l.length:Nat):Int) best ∧ ∀ k a z,k <= n->ZX kO c9.src c9.dst (l.map aJ) (FE n u) k a z->FD fN (el best z) a by
   obtain ⟨y,h1,best,last,ways,rfl,h2⟩:=hh
   exact ⟨best,last,ways,h1,h2⟩
  refine bO (step:=fun (w:Int × List Int × List (List Int))=>dW n (l.map qI) v w.1 w.2.1 w.2.2) (fun r (a:List J3 × List Int × List (List Int))=>((r:Int),a.1.map AH,a.2.2)) n
   (fun r a=>W6 fN kO c9.src c9.dst (l.map aJ) (FE n u) a.1 a.2.1 ∧ aB9 n (l.map aJ) a.1 a.2.1 a.2.2 ∧ E7 n ((r * l.length:Nat):Int) a.1 ∧ ∀ k b z,k <= r->ZX kO c9.src c9.dst (l.map aJ) (FE n u) k b z->FD fN (el a.1 z) b) _ ?_ ?_ (FE n u,List.replicate n (-1),List.replicate n []) ⟨?_,?_,?_,?_⟩
  ·rintro r ⟨best,last,ways⟩ hr ⟨i1,i2,i3,i4⟩
   dsimp only at i1 i2 i3 i4
   have hb:best.length = n:=by rw [i1.len,hil]
   have hla:last.length = n:=by rw [i1.lenL,hil]
   have hmul:r * l.length <= 40 * 1000:=ř (by omega) hll
   obtain ⟨b,la,ch,e,q1,q2,q3,_⟩:=aAx aHx (by rw [hil]; exact hs) i1
   have hfst:(zO (l.map aJ) l.length ((best,last,false),ways)).1 = (b,la,ch):=by
    rw [aAw,← e]
    unfold tY
    rw [È]
   have hw:=aAN hs3 hok hb hla i3 (by omega) i2 l.length (É _)
   have hbd:=(LS hok hb hla i3 (by omega) (É _) ways).2.2
   have hrun:=aJC hs3 hok hb hla i3 (by omega) (by omega) i2 v r
   rw [hfst] at hw hbd hrun
   dsimp only at hw hbd hrun
   refine .inl ⟨(b,la,(zO (l.map aJ) l.length ((best,last,false),ways)).2),?_,q1,hw,?_,fun k a z hk w=>?_⟩
   ·show dW n (l.map qI) v r (best.map AH) ways = _
    unfold dW
    have c0:decide ((r:Int) < (n:Int)) = true:=by simpa using hr
    rw [Á c0,hrun,À,aO (by omega)]
   ·have e2:(((r + 1) * l.length:Nat):Int) = ((r * l.length:Nat):Int) + (l.length:Int):=by rw [Nat.succ_mul]; omega
    rw [e2]; exact hbd
   ·cases w with
    | zero _ hv=>exact tr (q2 _ hv) (i4 0 _ _ (Ė _) (.zero _ hv))
    | step i hi w=>exact tr (q3 i hi) (aHx.mono _ _ _ (i4 _ _ _ (by omega) w))
  ·rintro ⟨best,last,ways⟩ hI
   refine ⟨_,?_,best,last,ways,rfl,hI⟩
   show dW n (l.map qI) v n (best.map AH) ways = _
   unfold dW
   rw [Ã (by simp)]
  ·exact ⟨rfl,by simp [hil],fun v hv=>⟨0,.zero v hv⟩,fun v hv=>aHx.irr _,fun v hv=>.inl ⟨cY _ _ _ (by rw [hil] at hv; exact hv),rfl⟩⟩
  ·refine ⟨Ë,fun v hv=>.inl ⟨cY _ _ _ hv,cY _ _ _ hv⟩,fun v hv _=>?_,fun v hv _=>cY _ _ _ hv⟩
   rw [LD hv,cY _ _ _ hv]; rfl
  ·intro v hv
   rw [LD hv]
   simp
  ·intro k b z hk w
   obtain rfl:k = 0:=by omega
   cases w with
   | zero v hv=>exact aHx.irr _
 obtain ⟨best,last,ways,h1,h2,h3,h4,h5⟩:=rounds
 have hb:best.length = n:=by rw [h2.len,hil]
 have hdom:∀ k a z,ZX kO c9.src c9.dst (l.map aJ) (FE n u) k a z->FD fN (el best z) a:=by
  intro k a z w
  obtain ⟨j,a',q1,q2,q3⟩:=aC9 (aOE c9.cost fun _=>rfl) hp (by rw [hil]; exact hs) k a z w
  rw [hil] at q1
  exact tr (h5 j a' z q1 q2) q3
 have hcl:∀ i,i < (l.map aJ).length->FD fN (el best (el (l.map aJ) i).dst) (kO (el best (el (l.map aJ) i).src) (el (l.map aJ) i)):=by
  intro i hi
  obtain ⟨k,w⟩:=h2.wk (el (l.map aJ) i).src (by rw [hil]; exact (hs i hi).1)
  exact hdom _ _ _ (.step i hi w)
 have T:=aJ0 (fun z=>decide (z = u)) hs hil (fun v hv=>LD hv) h2 hcl
 have hmul:n * l.length <= 40 * 1000:=ř hn hll
 refine ⟨AH (el best v),el ways v,fun z=>(el best z).c,fun z=>(el best z).fine,fun z=>(el best z).k.toNat,last,?_,?_⟩
 ·unfold kG
  have cu:0 <= (u:Int) ∧ (u:Int).toNat < (List.replicate n (1099511627776:Int)).length:=⟨by omega,by rw [Ä,Ë]; exact hu⟩
  have eu:(List.replicate n (1099511627776:Int))[(u:Int).toNat]? = some 1099511627776:=by rw [Ä,DH _ _ (by rw [Ë]; exact hu),cY _ _ _ hu]
  have cv:0 <= (v:Int) ∧ (v:Int).toNat < (best.map AH).length:=⟨by omega,by rw [Ä,È]; omega⟩
  have ev:(best.map AH)[(v:Int).toNat]? = some (AH (el best v)):=by rw [Ä,Ç,DH best v (by omega)]; rfl
  have cv2:0 <= (v:Int) ∧ (v:Int).toNat < ways.length:=⟨by omega,by rw [Ä,h3.len]; omega⟩
  have ev2:ways[(v:Int).toNat]? = some (el ways v):=by rw [Ä]; exact DH ways v (by rw [h3.len]; exact hv)
  rw [Á (by omega),Á (by omega),Ä,aR8 (by omega) hu,À,Á cu,eu,À,Ä,aFT hu,h1,À]
  dsimp only
  rw [Á cv,ev,À,Á cv2,ev2]
  rfl
 ·have hT:P6 n (l.map aJ) (fun z=>(el best z).fine = true) (fun z=>z = u) (fun z=>(el best z).c) (fun z=>(el best z).k.toNat) last:=by
   refine ⟨fun w hw hF=>?_,T.closed,fun w hw hR=>T.root w hw (Í hR)⟩
   rcases T.tree w hw hF with ⟨q1,q2⟩ | q
   ·exact .inl ⟨q1,Ü q2⟩
   ·exact .inr q
  refine ⟨hT,fun hF=>?_,fun hF=>?_,fun z hz hF=>?_,fun k c' z w=>?_,fun z hz hF=>?_⟩
  ·refine ⟨Á hF,?_⟩
   obtain ⟨ks,u',w,q1,q2,q3,q4⟩:=hT.path _ v (Ġ _) hv hF
   subst q2
   refine ⟨ks,w,?_,fun k hk=>?_⟩
   ·exact aIH hs h3 hcl (fun z hz hf k hk hlz=>by
     rcases h2.last_ z (by rw [hil]; exact hz) with ⟨r1,_⟩ | ⟨j,r1,r2,r3,r4⟩
     ·rw [hlz] at r1; omega
     ·obtain rfl:k = j:=by omega
      exact r4) w hv fun k hk=>⟨(q4 k hk).2.1,(q4 k hk).2.2.1⟩
   ·obtain ⟨r1,r2,r3,r4,r5,r6⟩:=q4 k hk
    exact ⟨by rwa [È] at r1,r2,r3,r4,r6⟩
  ·exact Ã (by rw [hF]; decide)
  ·obtain ⟨k,w⟩:=h2.wk z (by rw [hil]; exact hz)
   obtain ⟨u',c,hu',hw,e⟩:=aKG (aOE c9.cost fun _=>rfl) w
   rw [hil] at hu'
   rw [LD hu'] at e
   have e1:(el best z).c = c:=by rw [e]; simp [KA]
   have e2:(el best z).fine = decide (u' = u):=by rw [e]; rfl
   rw [e2] at hF
   obtain rfl:=Ü hF
   rw [e1]
   exact ⟨k,hw⟩
  ·have:=hdom _ _ _ (aJM (aOE c9.cost fun _=>rfl) (init:=FE n u) (by rw [hil]; exact hu) w)
   unfold FD at this
   rw [xE,LD hu] at this
   simp [KA] at this
   exact ⟨this.1,by omega⟩
  ·have:=h4 z hz
   omega
end
end
section
open Go.RowKit Vm
section
variable {n:Nat} {dues:List aI} {x:List Int} {l:List aC}
def OfG (dues:List aI) (x:List Int) (l:List aC):Prop:=∀ g ∈ l,∃ i b,i < dues.length ∧ g = pD dues (el x) i b
theorem aOb (h:D5 n dues) (hl:x.length = dues.length) (hr:InR (jN dues) dues.length (el x)) (hG:OfG dues x l) {w:List Int} (hw:∀ j,j < w.length->∃ k:Nat,el w j = k ∧ k < l.length) (hwl:w.length <= 1000) (most:Int) :
  ∃ d,iM dues x (l.map qI) w most = some d ∧ d <= most ∧ (∀ j,j < w.length->d <= (el l (el w j).toNat).most) ∧ (0 < most->(∀ j,j < w.length->0 < (el l (el w j).toNat).most)->0 < d):=by
 unfold iM qC
 suffices hh:∃ y,bV (fun (z:Int × Int)=>cJ dues x (l.map qI) w z.1 z.2) (most,0) = some y ∧ (y <= most ∧ (∀ j,j < w.length->y <= (el l (el w j).toNat).most) ∧ (0 < most->(∀ j,j < w.length->0 < (el l (el w j).toNat).most)->0 < y)) by
  obtain ⟨y,h1,h2⟩:=hh
  exact ⟨y,by rw [h1]; rfl,h2⟩
 refine bO (step:=fun (z:Int × Int)=>cJ dues x (l.map qI) w z.1 z.2) (fun k (a:Int)=>(a,(k:Int))) w.length (fun k y=>y <= most ∧ (∀ j,j < k->y <= (el l (el w j).toNat).most) ∧ (0 < most->(∀ j,j < k->0 < (el l (el w j).toNat).most)->0 < y)) _ ?_ ?_ _ ⟨į _,fun j hj=>absurd hj (í _),fun q _=>q⟩
 ·rintro j a hj ⟨i1,i2,i3⟩
  obtain ⟨k,ek,hk⟩:=hw j hj
  obtain ⟨i,b,hi,eg⟩:=hG _ (kS _ _ hk)
  have hd:=h.each i hi
  have hx:=hr i hi
  unfold jN at hx
  refine .inl ⟨if (el l k).most < a then (el l k).most else a,?_,?_,?_,?_⟩
  ·show cJ dues x (l.map qI) w a j = _
   unfold cJ
   have c0:decide ((j:Int) < (w.length:Int)) = true:=by simpa using hj
   have w3:=aO (n:=j) (by omega)
   have eG:at? (l.map qI) (k:Int) = some (qI (pD dues (el x) i b)):=by rw [at?_nat,Ç,DH l k hk,eg]; rfl
   have eX:at? x (qI (pD dues (el x) i b)).Due = some (el x i):=bA x i (by omega)
   have eD:at? dues (qI (pD dues (el x) i b)).Due = some (el dues i):=bA dues i hi
   have wS:IntKind.wrap .i64 ((el dues i).Sum - el x i) = (el dues i).Sum - el x i:=gL (by omega) (by omega)
   simp only [Á c0,bA w j hj,À,ek,eG,eX,eD,w3,wS]
   rw [eg]
   cases b with
   | true =>
    have c1:¬ decide ((qI (pD dues (el x) i true)).Cost < 0) = true:=by simp [qI,pD]
    rw [Ã c1]; rfl
   | false =>
    have c1:decide ((qI (pD dues (el x) i false)).Cost < 0) = true:=by simp [qI,pD]
    rw [Á c1]; rfl
  ·split <;> omega
  ·intro j' hj'
   by_cases e:j' = j
   ·subst e
    rw [ek,Ä]
    split <;> omega
   ·have:=i2 j' (by omega)
    split <;> omega
  ·intro q1 q2
   have a1:=i3 q1 fun j' hj'=>q2 j' (by omega)
   have a2:=q2 j (by omega)
   rw [ek,Ä] at a2
   split <;> omega
 ·rintro a hI
  refine ⟨a,?_,hI⟩
  show cJ dues x (l.map qI) w a w.length = _
  unfold cJ
  rw [Ã (by simp)]
theorem aQ6 (h:D5 n dues) (hl:x.length = dues.length) (hr:InR (jN dues) dues.length (el x)) (hG:OfG dues x l) {ks:List Nat} (hk:∀ k ∈ ks,k < l.length) (hkl:ks.length <= 1000) {d:Int} (hd:0 <= d) (hd2:d <= 1099511627776) :
  iA (l.map qI) (ks.map fun (k:Nat)=>(k:Int)) x d = some (u0 (l.map aJ) d x ks):=by
 unfold iA rG
 have hlen:=h.len
 rw [Á (by omega),Đ]
 suffices hh:∃ y,bV (fun (z:Int × List Int)=>dF (l.map qI) (ks.map fun (k:Nat)=>(k:Int)) d z.1 z.2) (0,x) = some y ∧ y = u0 (l.map aJ) d x ks by
  obtain ⟨y,h1,h2⟩:=hh
  rw [h1,h2]; rfl
 refine bO (step:=fun (z:Int × List Int)=>dF (l.map qI) (ks.map fun (k:Nat)=>(k:Int)) d z.1 z.2) (fun k (a:List Int)=>((k:Int),a)) ks.length (fun j a=>a = u0 (l.map aJ) d x (ks.take j) ∧ ∀ i,-(1099511627776 + (j:Int) * 1099511627776) <= el a i ∧ el a i <= 1099511627776 + (j:Int) * 1099511627776) _ ?_ ?_ _ ⟨rfl,fun i=>?_⟩
 ·rintro j a hj ⟨rfl,hb⟩
  have hkj:=hk _ (kS _ _ hj)
  obtain ⟨i,b,hi,eg⟩:=hG _ (kS _ _ hkj)
  have hal:(u0 (l.map aJ) d x (ks.take j)).length = dues.length:=by rw [EB,hl]
  rw [aCb ks hj,aDw,eP aJ l _ hkj,eg]
  have e1:(aJ (pD dues (el x) i b)).due.toNat = i:=by simp [aJ,pD]
  rw [e1]
  have hmulj:(j:Int) * 1099511627776 <= 1000 * 1099511627776:=by omega
  generalize u0 (l.map aJ) d x (ks.take j) = a at *
  have hbi:=hb i
  have hsg:XQ (aJ (pD dues (el x) i b)) d = -(d * (if b = true then 1 else -1)):=by
   cases b <;> simp [XQ,aJ,pD]
  refine .inl ⟨_,?_,rfl,fun i'=>?_⟩
  ·show dF (l.map qI) (ks.map fun (k:Nat)=>(k:Int)) d j a = _
   unfold dF
   have c0:decide ((j:Int) < ((ks.map fun (k:Nat)=>(k:Int)).length:Int)) = true:=by rw [È]; simpa using hj
   have w3:=aO (n:=j) (by omega)
   have eK:at? (ks.map fun (k:Nat)=>(k:Int)) (j:Int) = some ((el ks j:Nat):Int):=by rw [at?_nat,Ç,DH ks j hj]; rfl
   have eG:at? (l.map qI) ((el ks j:Nat):Int) = some (qI (pD dues (el x) i b)):=by rw [at?_nat,Ç,DH l _ hkj,eg]; rfl
   have cX:0 <= (qI (pD dues (el x) i b)).Due ∧ (qI (pD dues (el x) i b)).Due.toNat < a.length:=by
    show 0 <= (i:Int) ∧ (i:Int).toNat < a.length
    omega
   have eX:a[(qI (pD dues (el x) i b)).Due.toNat]? = some (el a i):=by
    show a[(i:Int).toNat]? = _
    rw [Ä]; exact DH a i (by omega)
   have hcost:(qI (pD dues (el x) i b)).Cost = if b = true then 1 else -1:=rfl
   have w1:IntKind.wrap .i64 (d * (if b = true then 1 else -1)) = d * (if b = true then 1 else -1):=by cases b <;> simp <;> exact gL (by omega) (by omega)
   have w2:IntKind.wrap .i64 (el a i - d * (if b = true then 1 else -1)) = el a i + XQ (aJ (pD dues (el x) i b)) d:=by
    rw [hsg,gL (by cases b <;> simp <;> omega) (by cases b <;> simp <;> omega)]
    omega
   simp only [Á c0,eK,À,eG,Á cX,eX,hcost,w1,w2,w3]
   rfl
  ·rw [bR]
   have hs2:-d <= XQ (aJ (pD dues (el x) i b)) d ∧ XQ (aJ (pD dues (el x) i b)) d <= d:=by rw [hsg]; cases b <;> simp <;> omega
   have e3:((j + 1:Nat):Int) * 1099511627776 = (j:Int) * 1099511627776 + 1099511627776:=by omega
   rw [e3]
   have:=hb i'
   split <;> omega
 ·rintro a ⟨rfl,_⟩
  rw [ì]
  refine ⟨_,?_,rfl⟩
  show dF (l.map qI) (ks.map fun (k:Nat)=>(k:Int)) d (ks.length:Int) _ = _
  unfold dF
  rw [Ã (by simp)]
 ·by_cases hi:i < dues.length
  ·have:=hr i hi; have:=h.each i hi; unfold jN at *; omega
  ·rw [show el x i = 0 by simp [el,show ¬ i < x.length by omega]]; omega
end
end
section
open Go.RowKit Vm
def ndB (t:Nat) (g:aC):Bool:=decide (g.due ≠ (t:Int))
section
variable {n:Nat} {dues:List aI} {x:List Int}
theorem aJu (hlen:dues.length <= 100) {t:Nat} (ht:t < dues.length):kH n dues t x ((lM dues (el x) 0 (t + 1)).map qI) 0 [] = some ((lM dues (el x) 0 t).map qI):=by
 have hfil:∀ l:List aC,l.length <= 1000->kH n dues t x (l.map qI) 0 [] = some ((l.filter (ndB t)).map qI):=by
  intro l hll
  unfold kH
  suffices hh:∃ y,bV (fun (w:Int × List aD)=>dA n dues t x (l.map qI) w.1 w.2) (0,[]) = some y ∧ y = (l.filter (ndB t)).map qI by
   obtain ⟨y,h1,h2⟩:=hh
   rw [h2] at h1; exact h1
  refine bO (step:=fun (w:Int × List aD)=>dA n dues t x (l.map qI) w.1 w.2) (fun k (a:List aD)=>((k:Int),a)) l.length (fun k a=>a = ((l.take k).filter (ndB t)).map qI) _ ?_ ?_ _ (by simp)
  ·rintro k a hk rfl
   refine .inl ⟨_,?_,rfl⟩
   have hlA:(((l.take k).filter (ndB t)).map qI).length <= 1000:=by
    rw [È]
    exact ñ (Ę _ _) (by rw [ç]; omega)
   rw [aCb l hk,İ,Ă]
   generalize ((l.take k).filter (ndB t)).map qI = A at *
   show dA n dues t x (l.map qI) k A = _
   unfold dA
   have c0:decide ((k:Int) < ((l.map qI).length:Int)) = true:=by rw [È]; simpa using hk
   have w3:=aO (n:=k) (by omega)
   have eG:at? (l.map qI) (k:Int) = some (qI (el l k)):=by rw [at?_nat,Ç,DH l k hk]; rfl
   have cA:(A.length + 1) * 32 <= 140737488355328:=by omega
   simp only [Á c0,eG,À,Á cA,w3]
   by_cases e:(el l k).due = (t:Int)
   ·have e' : ¬ ((qI (el l k)).Due != (t:Int)) = true:=by show ¬ ((el l k).due != (t:Int)) = true; simpa using e
    have e2:¬ ndB t (el l k) = true:=by unfold ndB; simpa using e
    rw [Ã e',Ņ e2,ĵ,List.map_nil,Û]
   ·have e' : ((qI (el l k)).Due != (t:Int)) = true:=by show ((el l k).due != (t:Int)) = true; simpa using e
    have e2:ndB t (el l k) = true:=by unfold ndB; simpa using e
    rw [Á e',ū e2]
    rfl
  ·rintro a rfl
   rw [ì]
   refine ⟨_,?_,rfl⟩
   show dA n dues t x (l.map qI) (l.length:Int) _ = _
   unfold dA
   rw [Ã (by simp)]
 have hl:=GC (dues:=dues) (x:=x) 0 (t + 1)
 rw [hfil _ (by omega),QJ,İ]
 congr 2
 have h1:(lM dues (el x) 0 t).filter (ndB t) = lM dues (el x) 0 t:=by
  rw [ŕ]
  intro g hg
  obtain ⟨i,b,_,hi,rfl,_⟩:=BQ.1 hg
  unfold ndB
  rw [Ò]
  show (i:Int) ≠ t
  omega
 have h2:(H3 dues (el x) (0 + t)).filter (ndB t) = []:=by
  rw [List.filter_eq_nil_iff]
  intro g hg
  have:g ∈ lM dues (el x) t 1:=by unfold lM; simpa using hg
  obtain ⟨i,b,h1,hi,rfl,_⟩:=BQ.1 this
  unfold ndB
  rw [Ò]
  show ¬ (i:Int) ≠ t
  omega
 rw [h1,h2,Û]
theorem aC4 {ks:List Nat} {l:List aC} (hk:∀ k ∈ ks,k < l.length):∀ j,j < (ks.reverse.map fun (k:Nat)=>(k:Int)).length->∃ k:Nat,el (ks.reverse.map fun (k:Nat)=>(k:Int)) j = k ∧ k < l.length ∧ k ∈ ks:=by
 intro j hj
 rw [È] at hj
 rw [eP (fun (k:Nat)=>(k:Int)) _ _ hj]
 have:=ľ.1 (kS _ _ hj)
 exact ⟨_,rfl,hk _ this,this⟩
theorem aKQ {ks:List Nat} {k:Nat} (hk:k ∈ ks):∃ j,j < (ks.reverse.map fun (k:Nat)=>(k:Int)).length ∧ el (ks.reverse.map fun (k:Nat)=>(k:Int)) j = (k:Int):=by
 obtain ⟨j,hj,e⟩:=E9 (ľ.2 hk)
 exact ⟨j,by rw [È]; exact hj,by rw [eP (fun (k:Nat)=>(k:Int)) _ _ hj,e]⟩
theorem aGA (h:D5 n dues) (hl:x.length = dues.length) (hB:oG (iH dues) (i7 dues) (jN dues) n dues.length (el x)) {l:List aC} {Q:Nat->Bool->Prop} (S:lY (iH dues) (i7 dues) (jN dues) dues.length (el x) Q QF (l.map aJ)) (hG:∀ g ∈ l,∃ i b,i < dues.length ∧ g = pD dues (el x) i b ∧ 0 < (pD dues (el x) i b).most)
  {a:Nat} (ha:a < dues.length) (hQ:∀ i b,Q i b->i ≠ a) (hxa:el x a < jN dues a) {last:List Int} {μ:Nat->Nat} {ks:List Nat} (w:Pth (l.map aJ) last (iH dues a) ks (i7 dues a)) (hk:∀ k ∈ ks,k < l.length ∧ μ (el (l.map aJ) k).src < μ (el (l.map aJ) k).dst) :
  ∃ d,0 < d ∧ iM dues x (l.map qI) (ks.reverse.map fun (k:Nat)=>(k:Int)) (jN dues a - el x a) = some d ∧ iA (l.map qI) (ks.reverse.map fun (k:Nat)=>(k:Int)) x d = some (u0 (l.map aJ) d x ks) ∧ d <= 1099511627776 ∧
   (ks.map fun k=>(el (l.map aJ) k).due.toNat).Nodup ∧ el (u0 (l.map aJ) d x ks) a = el x a ∧ ((u0 (l.map aJ) d x ks).set a (el x a + d)).length = dues.length ∧ oG (iH dues) (i7 dues) (jN dues) n dues.length (el ((u0 (l.map aJ) d x ks).set a (el x a + d))) ∧ (∀ j,j ≠ a->el ((u0 (l.map aJ) d x ks).set a (el x a + d)) j = el (u0 (l.map aJ) d x ks) j) ∧ (∀ j,(∀ b,¬ Q j b)->el (u0 (l.map aJ) d x ks) j = el x j) ∧ el ((u0 (l.map aJ) d x ks).set a (el x a + d)) a = el x a + d:=by
 have hk' : ∀ k ∈ ks,k < (l.map aJ).length ∧ μ (el (l.map aJ) k).src < μ (el (l.map aJ) k).dst:=fun k h=>⟨by rw [È]; exact (hk k h).1,(hk k h).2⟩
 have hkl:∀ k ∈ ks,k < l.length:=fun k h=>(hk k h).1
 obtain ⟨_,hnd⟩:=w.dues S (μ:=μ) hk'
 have hlen:=h.len
 have hdueLt:∀ k ∈ ks,(el (l.map aJ) k).due.toNat < dues.length:=by
  intro k hks
  rw [eP aJ l k (hkl k hks)]
  obtain ⟨i,b,hi,e,_⟩:=hG _ (kS _ _ (hkl k hks))
  rw [e]
  show (i:Int).toNat < _
  omega
 have hksl:ks.length <= 100:=by
  have:=TE dues.length _ hnd (fun z hz=>by
   obtain ⟨k,hks,rfl⟩:=Ú.1 hz
   exact hdueLt k hks)
  rw [È] at this
  omega
 have hr:InR (jN dues) dues.length (el x):=fun j hj=>⟨hB.lo j hj,hB.hi j hj⟩
 have hG' : OfG dues x l:=fun g hg=>by obtain ⟨i,b,h1,h2,_⟩:=hG g hg; exact ⟨i,b,h1,h2⟩
 obtain ⟨d,e1,d1,d2,d3⟩:=aOb h hl hr hG' (w:=ks.reverse.map fun (k:Nat)=>(k:Int)) (fun j hj=>by obtain ⟨k,h1,h2,_⟩:=aC4 hkl j hj; exact ⟨k,h1,h2⟩) (by rw [È,List.length_reverse]; omega) (jN dues a - el x a)
 have hpos:0 < d:=d3 (by omega) fun j hj=>by
  obtain ⟨k,h1,h2,_⟩:=aC4 hkl j hj
  rw [h1,Ä]
  obtain ⟨i,b,hi,e,hm⟩:=hG _ (kS _ _ h2)
  rw [e]; exact hm
 have hmost:∀ k ∈ ks,d <= (el (l.map aJ) k).most:=by
  intro k hks
  obtain ⟨j,hj,e⟩:=aKQ hks
  have:=d2 j hj
  rw [e,Ä] at this
  rw [eP aJ l k (hkl k hks)]
  exact this
 have hda:=h.each a ha
 have hxa0:=hB.lo a ha
 have hd40:d <= 1099511627776:=by unfold jN at d1; omega
 have e2:=aQ6 h hl hr hG' (ks:=ks.reverse) (fun k h=>hkl k (ľ.1 h)) (by rw [List.length_reverse]; omega) (by omega:0 <= d) hd40
 rw [aR5 d hnd (fun k hks=>by rw [hl]; exact hdueLt k hks)] at e2
 exact ⟨d,hpos,e1,e2,hd40,aMj hl ha S hQ hB (μ:=μ) w hk' (by omega) hmost (by omega)⟩
theorem V6 (t:Nat):SD dues 0 ((t + 1:Nat):Int) = dues.take (t + 1):=by
 unfold SD
 rw [Ä]
 rfl
theorem aI1 (h:D5 n dues) {t:Nat} (ht:t < dues.length) (hl:x.length = dues.length) (hB:oG (iH dues) (i7 dues) (jN dues) n dues.length (el x)) {p:Nat->Int} (hp:iP (iH dues) (i7 dues) (jN dues) t (el x) p) :
  (∃ x',b9 n dues t x = some (.inl x') ∧ x'.length = dues.length ∧ oG (iH dues) (i7 dues) (jN dues) n dues.length (el x') ∧ (∀ j,t < j->el x' j = el x j) ∧ (∃ p',iP (iH dues) (i7 dues) (jN dues) t (el x') p' ∧ p' (iH dues t) <= p' (i7 dues t)) ∧ (jN dues t - el x' t).toNat < (jN dues t - el x t).toNat) ∨
  (b9 n dues t x = some (.inr (.inl x)) ∧ jN dues t <= el x t) ∨
  (b9 n dues t x = some (.inr (.inr x)) ∧ ∃ p',iP (iH dues) (i7 dues) (jN dues) t (el x) p' ∧ p' (i7 dues t) <= p' (iH dues t) - 1):=by
 have hlen:=h.len
 have hnn:=h.nn
 have hd:=h.each t ht
 have eX:at? x (t:Int) = some (el x t):=bA x t (by omega)
 have eD:=bA dues t ht
 by_cases c:el x t < jN dues t
 ·have c' : decide (el x t < (el dues t).Sum) = true:=Í c
  have wt:=aO (n:=t) (by omega)
  have hso:HS dues.length 0 ((t + 1:Nat):Int):=by unfold HS; omega
  have htk:(dues.take (t + 1)).length = t + 1:=by rw [ç]; omega
  have eS:gH (dues.take (t + 1)) x 0 = some ((lM dues (el x) 0 (t + 1)).map qI):=by
   have:=XT (dues:=dues) (x:=x) (dues':=dues.take (t + 1)) (t:=t + 1) (f:=0) htk (by omega) (fun i hi=>by simp [el,show i < t + 1 from hi]) (by omega) (Ė _)
   exact this
  have eO:=aJu (n:=n) (x:=x) hlen ht
  have S0:=aDc (x:=x) h (k:=t) (by omega)
  have S:=VE (x:=x) h (f:=0) (k:=t) (by omega)
  have hok:=VI (x:=x) h (f:=0) (k:=t) (by omega)
  have hll:=GC (dues:=dues) (x:=x) 0 t
  have hG:∀ g ∈ lM dues (el x) 0 t,∃ i b,i < dues.length ∧ g = pD dues (el x) i b ∧ 0 < (pD dues (el x) i b).most:=fun g hg=>by
   obtain ⟨i,b,h1,h2,h3,h4⟩:=BQ.1 hg
   exact ⟨i,b,by omega,h3,h4⟩
  have hpot:=(KQ S0 p).1 hp
  generalize lM dues (el x) 0 t = l at *
  obtain ⟨cw,w,q,F,μ,last,eW,W⟩:=aJ1 (n:=n) hnn (fun g hg=>⟨(hok g hg).1,(hok g hg).2.1⟩) (by omega) hpot (h.tt t ht) (h.fr t ht)
  have eT:(el dues t).To = ((i7 dues t:Nat):Int):=by unfold i7; omega
  have eF:(el dues t).From = ((iH dues t:Nat):Int):=by unfold iH; omega
  have hq0:0 <= q (i7 dues t):=by
   have hF:=W.tree.root _ (h.tt t ht) rfl
   obtain ⟨k,wk⟩:=W.wk _ (h.tt t ht) hF
   have:=wk.pot hpot
   omega
  have hq1:q (i7 dues t) <= 0:=(W.le 0 0 _ .zero).2
  have hFt:=W.tree.root _ (h.tt t ht) rfl
  have hcw:F (iH dues t) = true->-1000000 <= cw ∧ cw <= 1000000:=fun hF=>by rw [(W.yes hF).1]; exact W.bound _ (h.fr t ht) hF
  have wc:IntKind.wrap .i64 (cw - 1) = cw - 1:=by
   cases hF:F (iH dues t) with
   | true=>have:=hcw hF; exact gL (by omega) (by omega)
   | false=>rw [W.no hF]; exact gL (by omega) (by omega)
  by_cases c1:cw - 1 ≥ 0
  ·refine .inr (.inr ⟨?_,?_⟩)
   ·unfold b9
    rw [eX,À,eD,À,Á c',wt,Á hso,V6,eS,À,eO,À,À,À,eT,eF,eW,À,wc,Á (Í c1)]
   ·obtain ⟨p',h1,h2,h3⟩:=aCG S0 (fun i hi=>h.fr i (by omega)) (fun i hi=>h.tt i (by omega)) hp W.tree 1
    refine ⟨p',h1,?_⟩
    rw [h2 _ hFt]
    cases hF:F (iH dues t) with
    | true=>rw [h2 _ hF,← (W.yes hF).1]; omega
    | false=>have:=h3 _ (h.fr t ht) hF; omega
  ·have hF:F (iH dues t) = true:=by
    cases hF:F (iH dues t) with
    | true=>rfl
    | false=>rw [W.no hF] at c1; omega
   obtain ⟨ecw,ks,pth,ew,hks⟩:=W.yes hF
   subst ew
   obtain ⟨d,hd0,e1,e2,hd40,hnd,m1,m2,m3,m4,m5,m6⟩:=aGA h hl hB S hG ht (fun i b hQ=>by omega) c pth (μ:=μ) fun k hk=>⟨(hks k hk).1,(hks k hk).2.2.2.1⟩
   obtain ⟨p',h1,h2,h3⟩:=aCG S0 (fun i hi=>h.fr i (by omega)) (fun i hi=>h.tt i (by omega)) hp W.tree 1
   have hcert:iP (iH dues) (i7 dues) (jN dues) t (el ((u0 (l.map aJ) d x ks).set t (el x t + d))) p':=by
    have:=aKl S hl (fun k hk=>by rw [È]; exact (hks k hk).1) hnd d (t:=t) (by omega) h1 fun k hk i b _ e=>by
     obtain ⟨_,q1,q2,_,q3⟩:=hks k hk
     rw [← h2 _ q1,← h2 _ q2,e,uL,uK] at q3
     exact q3
    intro i hi
    rw [m4 i (by omega)]
    exact this i hi
   refine .inl ⟨_,?_,m2,m3,fun j hj=>?_,⟨p',hcert,?_⟩,?_⟩
   ·unfold b9
    have hml:(u0 (l.map aJ) d x ks).length = dues.length:=by rw [EB,hl]
    have c5:0 <= (t:Int) ∧ (t:Int).toNat < (u0 (l.map aJ) d x ks).length:=⟨by omega,by rw [Ä]; omega⟩
    have e5:(u0 (l.map aJ) d x ks)[(t:Int).toNat]? = some (el x t):=by rw [Ä,DH _ t (by omega),m1]
    have hx0:=hB.lo t ht
    have c1' : ¬ decide (cw - 1 ≥ 0) = true:=by rw [Ò]; exact c1
    have hsm:jN dues t = (el dues t).Sum:=rfl
    have wS:IntKind.wrap .i64 ((el dues t).Sum - el x t) = jN dues t - el x t:=gL (by omega) (by omega)
    have w5:IntKind.wrap .i64 (el x t + d) = el x t + d:=by unfold jN at c; exact gL (by omega) (by omega)
    rw [eX,À,eD,À,Á c',wt,Á hso,V6,eS,À,eO,À,À,À,eT,eF,eW,À,wc,Ã c1',À,À,wS]
    dsimp only
    rw [e1,À,e2,À,Á c5,e5,À,Á c5,À,w5,Ä]
   ·rw [m4 j (by omega),m5 j fun b hQ=>by omega]
   ·rw [h2 _ hFt,h2 _ hF,← ecw]; omega
   ·rw [m6]; omega
 ·refine .inr (.inl ⟨?_,by omega⟩)
  unfold b9
  have c' : ¬ decide (el x t < (el dues t).Sum) = true:=by rw [Ò]; exact c
  rw [eX,À,eD,À,Ã c']
theorem aRU (h:D5 n dues) {t:Nat} (ht:t < dues.length) (hl:x.length = dues.length) (hB:oG (iH dues) (i7 dues) (jN dues) n dues.length (el x)) {p:Nat->Int} (hp:iP (iH dues) (i7 dues) (jN dues) t (el x) p) (hx0:el x t = 0) :
  ∃ x',nC n dues x t = some x' ∧ x'.length = dues.length ∧ oG (iH dues) (i7 dues) (jN dues) n dues.length (el x') ∧ (∀ j,t < j->el x' j = el x j) ∧ ∃ p',iP (iH dues) (i7 dues) (jN dues) (t + 1) (el x') p':=by
 unfold nC rH
 obtain ⟨z,h1,x',h2,h3⟩:=K7 (step:=fun (w:List Int)=>b9 n dues t w) (fun w=>w.length = dues.length ∧ oG (iH dues) (i7 dues) (jN dues) n dues.length (el w) ∧ (∃ p',iP (iH dues) (i7 dues) (jN dues) t (el w) p') ∧ (∀ j,t < j->el w j = el x j) ∧ (el w t = 0 ∨ ∃ p',iP (iH dues) (i7 dues) (jN dues) t (el w) p' ∧ p' (iH dues t) <= p' (i7 dues t)))
  (fun w=>(jN dues t - el w t).toNat) (fun z=>∃ x',(z = .inl x' ∨ z = .inr x') ∧ x'.length = dues.length ∧ oG (iH dues) (i7 dues) (jN dues) n dues.length (el x') ∧ (∀ j,t < j->el x' j = el x j) ∧ ∃ p',iP (iH dues) (i7 dues) (jN dues) (t + 1) (el x') p') (fun w ⟨i1,i2,⟨p1,i3⟩,i4,i5⟩=>by
   rcases aI1 h ht i1 i2 i3 with ⟨x',s1,s2,s3,s4,s5,s6⟩ | ⟨s1,s2⟩ | ⟨s1,p2,s2,s3⟩
   ·exact .inl ⟨x',s1,⟨s2,s3,(by obtain ⟨p',s5,_⟩:=s5; exact ⟨p',s5⟩),fun j hj=>by rw [s4 j hj,i4 j hj],.inr s5⟩,s6⟩
   ·refine .inr ⟨_,s1,w,.inl rfl,i1,i2,i4,?_⟩
    have hd:=h.each t ht
    rcases i5 with i5 | ⟨p',i5,i6⟩
    ·unfold jN at s2; omega
    ·exact ⟨p',i5.succ (fun c=>by omega) fun _=>by omega⟩
   ·refine .inr ⟨_,s1,w,.inr rfl,i1,i2,i4,?_⟩
    rcases i5 with i5 | ⟨p',i5,i6⟩
    ·exact ⟨p2,s2.succ (fun _=>s3) fun c=>by omega⟩
    ·exact s2.join i5 s3 i6) x ⟨hl,hB,⟨p,hp⟩,fun _ _=>rfl,.inl hx0⟩
 refine ⟨x',?_,h3⟩
 rw [h1,À]
 rcases h2 with rfl | rfl <;> rfl
end
end
section
open Go.RowKit Vm
section
variable {n:Nat} {dues:List aI} {x:List Int}
theorem lY.pot {fr tt:Nat->Nat} {s:Nat->Int} {m:Nat} {x:Nat->Int} {Q:Nat->Bool->Prop} {l:List c9} (S:lY fr tt s m x Q QF l) {p:Nat->Int} (hc:iP fr tt s m x p):Pot c9.src c9.dst c9.cost l p:=by
 intro k hk
 obtain ⟨i,b,hi,_,hm,e⟩:=S.sound k hk
 have:=hc i hi
 rw [e,uL,uK]
 cases b
 ·have:=this.1 (by simp [G8] at hm; omega)
  simp [G8,QF]
  omega
 ·have:=this.2 (by simpa [G8] using hm)
  simp [G8,QF]
  omega
theorem aDD (h:D5 n dues) {i:Nat} (hi:i < dues.length) (hl:x.length = dues.length) (hB:oG (iH dues) (i7 dues) (jN dues) n dues.length (el x)) {p:Nat->Int} (hc:iP (iH dues) (i7 dues) (jN dues) dues.length (el x) p) :
  (∃ x',bX n dues i x = some (.inl x') ∧ x'.length = dues.length ∧ oG (iH dues) (i7 dues) (jN dues) n dues.length (el x') ∧ iP (iH dues) (i7 dues) (jN dues) dues.length (el x') p ∧ (∀ j,j < i->el x' j = el x j) ∧ (jN dues i - el x' i).toNat < (jN dues i - el x i).toNat) ∨
  ((bX n dues i x = some (.inr (.inl x)) ∨ bX n dues i x = some (.inr (.inr x))) ∧ BZ (iH dues) (i7 dues) (jN dues) n dues.length (el x) i):=by
 have hlen:=h.len
 have hnn:=h.nn
 have hd:=h.each i hi
 have eX:at? x (i:Int) = some (el x i):=bA x i (by omega)
 have eD:=bA dues i hi
 by_cases c:el x i < jN dues i
 ·have c' : decide (el x i < (el dues i).Sum) = true:=Í c
  have wt:=aO (n:=i) (by omega)
  have eS:=XT (dues:=dues) (x:=x) (dues':=dues) (t:=dues.length) (f:=i + 1) rfl hlen (fun _ _=>rfl) (by omega) (by omega)
  have S:=VE (x:=x) h (f:=i + 1) (k:=dues.length - (i + 1)) (by omega)
  have hok:=VI (x:=x) h (f:=i + 1) (k:=dues.length - (i + 1)) (by omega)
  have hll:=GC (dues:=dues) (x:=x) (i + 1) (dues.length - (i + 1))
  have hG:∀ g ∈ lM dues (el x) (i + 1) (dues.length - (i + 1)),∃ i b,i < dues.length ∧ g = pD dues (el x) i b ∧ 0 < (pD dues (el x) i b).most:=fun g hg=>by
   obtain ⟨i',b,h1,h2,h3,h4⟩:=BQ.1 hg
   exact ⟨i',b,by omega,h3,h4⟩
  have hpot:=S.pot hc
  generalize lM dues (el x) (i + 1) (dues.length - (i + 1)) = l at *
  obtain ⟨cw,w,q,F,μ,last,eW,W⟩:=aJ1 (n:=n) hnn (fun g hg=>⟨(hok g hg).1,(hok g hg).2.1⟩) (by omega) hpot (h.tt i hi) (h.fr i hi)
  have eT:(el dues i).To = ((i7 dues i:Nat):Int):=by unfold i7; omega
  have eF:(el dues i).From = ((iH dues i:Nat):Int):=by unfold iH; omega
  have hFt:=W.tree.root _ (h.tt i hi) rfl
  have hq0:0 <= q (i7 dues i):=by
   obtain ⟨k,wk⟩:=W.wk _ (h.tt i hi) hFt
   have:=wk.pot hpot
   omega
  have hq1:q (i7 dues i) <= 0:=(W.le 0 0 _ .zero).2
  by_cases c1:cw > 1
  ·refine .inr ⟨.inr ?_,?_⟩
   ·unfold bX
    rw [eX,À,eD,À,Á c',wt,eS,À,À,À,eT,eF,eW,À,Á (Í c1)]
   ·by_cases hp:p (i7 dues i) = p (iH dues i) - 1
    ·have hdec:∀ v,Decidable (∃ k c',OC c9.src c9.dst c9.cost (l.map aJ) (i7 dues i) k c' v ∧ p v = p (i7 dues i) + c'):=fun v=>Classical.propDecidable _
     refine aFA (p:=p) (F:=fun v=>@decide _ (hdec v)) hi h.fr h.tt hB hc (fun j b hj hT hm hF=>?_) (@Í _ (hdec _) ⟨0,0,.zero,by omega⟩) (@û _ (hdec _) ?_)
     ·obtain ⟨k,c',wk,ec⟩:=@Ü _ (hdec _) hF
      obtain ⟨k2,hk2,e⟩:=S.all j b hj ⟨by have:=hT.1; omega,by omega⟩ hm
      refine @Í _ (hdec _) ⟨k + 1,c' + QF b,?_,by have:=hT.2; omega⟩
      have h1:(el (l.map aJ) k2).src = if b = true then i7 dues j else iH dues j:=by rw [e,uL]
      have h2:(el (l.map aJ) k2).dst = if b = true then iH dues j else i7 dues j:=by rw [e,uK]
      have h3:(el (l.map aJ) k2).cost = QF b:=by rw [e]; rfl
      rw [← h1] at wk
      rw [← h2,← h3]
      exact .step k2 hk2 wk
     ·rintro ⟨k,c',wk,ec⟩
      have h1:=W.le k c' _ wk
      have h2:=(W.yes h1.1).1
      omega
    ·exact V3 hi h.fr h.tt hB hc hp
  ·have hF:F (iH dues i) = true:=by
    cases hF:F (iH dues i) with
    | true=>rfl
    | false=>rw [W.no hF] at c1; omega
   obtain ⟨ecw,ks,pth,ew,hks⟩:=W.yes hF
   subst ew
   obtain ⟨d,hd0,e1,e2,hd40,hnd,m1,m2,m3,m4,m5,m6⟩:=aGA h hl hB S hG hi (fun j b hQ=>by omega) c pth (μ:=μ) fun k hk=>⟨(hks k hk).1,(hks k hk).2.2.2.1⟩
   have hlow:=(hc i hi).1 c
   have hal:=pth.along hpot fun k hk=>⟨by rw [È]; exact (hks k hk).1,(hks k hk).2.2.2.2⟩
   have hcert:iP (iH dues) (i7 dues) (jN dues) dues.length (el ((u0 (l.map aJ) d x ks).set i (el x i + d))) p:=by
    have:=aKl S hl (fun k hk=>by rw [È]; exact (hks k hk).1) hnd d (t:=dues.length) (É _) hc fun k hk j b hQ e=>by
     obtain ⟨a1,a2⟩:=hal.2 k hk
     have a3:=(hks k hk).2.2.2.2
     have a4:=hpot k (by rw [È]; exact (hks k hk).1)
     rw [e] at a1 a2 a3 a4
     rw [uL] at a1 a3 a4
     rw [uK] at a2 a3 a4
     have e3:(G8 (iH dues) (i7 dues) (jN dues) (el x) QF j b).cost = QF b:=rfl
     rw [e3] at a3 a4
     omega
    intro j hj
    by_cases e:j = i
    ·subst e
     rw [m6]
     have a0:=hal.1
     refine ⟨fun _=>by omega,fun _=>by omega⟩
    ·rw [m4 j e]
     exact this j hj
   refine .inl ⟨_,?_,m2,m3,hcert,fun j hj=>?_,?_⟩
   ·unfold bX
    have hml:(u0 (l.map aJ) d x ks).length = dues.length:=by rw [EB,hl]
    have c5:0 <= (i:Int) ∧ (i:Int).toNat < (u0 (l.map aJ) d x ks).length:=⟨by omega,by rw [Ä]; omega⟩
    have e5:(u0 (l.map aJ) d x ks)[(i:Int).toNat]? = some (el x i):=by rw [Ä,DH _ i (by omega),m1]
    have hx0:=hB.lo i hi
    have c1' : ¬ decide (cw > 1) = true:=by rw [Ò]; exact c1
    have hsm:jN dues i = (el dues i).Sum:=rfl
    have wS:IntKind.wrap .i64 ((el dues i).Sum - el x i) = jN dues i - el x i:=gL (by omega) (by omega)
    have w5:IntKind.wrap .i64 (el x i + d) = el x i + d:=gL (by omega) (by omega)
    rw [eX,À,eD,À,Á c',wt,eS,À,À,À,eT,eF,eW,À,Ã c1',À,À,wS]
    dsimp only
    rw [e1,À,e2,À,Á c5,e5,À,Á c5,À,w5,Ä]
   ·rw [m4 j (by omega),m5 j fun b hQ=>by omega]
   ·rw [m6]; omega
 ·refine .inr ⟨.inl ?_,ZT hi (by omega)⟩
  unfold bX
  have c' : ¬ decide (el x i < (el dues i).Sum) = true:=by rw [Ò]; exact c
  rw [eX,À,eD,À,Ã c']
theorem aJK (h:D5 n dues) {i:Nat} (hi:i < dues.length) (hl:x.length = dues.length) (hB:oG (iH dues) (i7 dues) (jN dues) n dues.length (el x)) {p:Nat->Int} (hc:iP (iH dues) (i7 dues) (jN dues) dues.length (el x) p) :
  ∃ x',mG n dues x i = some x' ∧ x'.length = dues.length ∧ oG (iH dues) (i7 dues) (jN dues) n dues.length (el x') ∧ iP (iH dues) (i7 dues) (jN dues) dues.length (el x') p ∧ (∀ j,j < i->el x' j = el x j) ∧ BZ (iH dues) (i7 dues) (jN dues) n dues.length (el x') i:=by
 unfold mG pW
 obtain ⟨z,h1,h2⟩:=K7 (step:=fun (w:List Int)=>bX n dues i w) (fun w=>w.length = dues.length ∧ oG (iH dues) (i7 dues) (jN dues) n dues.length (el w) ∧ iP (iH dues) (i7 dues) (jN dues) dues.length (el w) p ∧ ∀ j,j < i->el w j = el x j) (fun w=>(jN dues i - el w i).toNat)
  (fun z=>∃ x' : List Int,(z = .inl x' ∨ z = .inr x') ∧ x'.length = dues.length ∧ oG (iH dues) (i7 dues) (jN dues) n dues.length (el x') ∧ iP (iH dues) (i7 dues) (jN dues) dues.length (el x') p ∧ (∀ j,j < i->el x' j = el x j) ∧ BZ (iH dues) (i7 dues) (jN dues) n dues.length (el x') i) (fun w ⟨i1,i2,i3,i4⟩=>by
   rcases aDD h hi i1 i2 i3 with ⟨x',s1,s2,s3,s4,s5,s6⟩ | ⟨s1 | s1,s2⟩
   ·exact .inl ⟨x',s1,⟨s2,s3,s4,fun j hj=>by rw [s5 j hj,i4 j hj]⟩,s6⟩
   ·exact .inr ⟨_,s1,w,.inl rfl,i1,i2,i3,i4,s2⟩
   ·exact .inr ⟨_,s1,w,.inr rfl,i1,i2,i3,i4,s2⟩) x ⟨hl,hB,hc,fun _ _=>rfl⟩
 obtain ⟨x',h3,h4⟩:=h2
 refine ⟨x',?_,h4⟩
 rw [h1,À]
 rcases h3 with rfl | rfl <;> rfl
theorem aQf (h:D5 n dues) (hl:x.length = dues.length) {p:Nat->Int} (hc:iP (iH dues) (i7 dues) (jN dues) dues.length (el x) p) :
  ∃ q,iI n dues x = some q ∧ q.length = n ∧ PP n ((iV dues (el x) dues.length).map aJ) (el q):=by
 have hlen:=h.len
 have hnn:=h.nn
 have eS:=XT (dues:=dues) (x:=x) (dues':=dues) (t:=dues.length) (f:=0) rfl hlen (fun _ _=>rfl) (by omega) (Ė _)
 have S:=UE h (el x)
 have hok:=VI (x:=x) h (f:=0) (k:=dues.length) (by omega)
 have hll:=DX dues (el x) dues.length
 have hs:=S.in_ h.fr h.tt
 have hpot:=S.pot hc
 rw [Nat.sub_zero,WO,show ((0:Nat):Int) = 0 from rfl] at eS
 rw [WO] at hok
 generalize iV dues (el x) dues.length = l at *
 have hway:=fun u v (hu:u < n) (hv:v < n)=>aJ1 (n:=n) (l:=l) hnn (fun g hg=>⟨(hok g hg).1,(hok g hg).2.1⟩) (by omega) hpot (u:=u) (v:=v) hu hv
 -- one merchant
 have hone:∀ v,v < n->∀ a:List Int,a.length = n->el a v = 0->∃ a',iR n v (l.map qI) 0 a = some a' ∧ a'.length = n ∧ (∀ j,j ≠ v->el a' j = el a j) ∧ el a' v <= 0 ∧ (∃ u k,u < n ∧ OC c9.src c9.dst c9.cost (l.map aJ) u k (el a' v) v) ∧ ∀ u k c,u < n->OC c9.src c9.dst c9.cost (l.map aJ) u k c v->el a' v <= c:=by
  intro v hv a ha ha0
  unfold iR
  refine bO (step:=fun (w:Int × List Int)=>bS n v (l.map qI) w.1 w.2) (fun k (b:List Int)=>((k:Int),b)) n (fun k a'=>a'.length = n ∧ (∀ j,j ≠ v->el a' j = el a j) ∧ el a' v <= 0 ∧ (∃ u k,u < n ∧ OC c9.src c9.dst c9.cost (l.map aJ) u k (el a' v) v) ∧ ∀ u k' c,u < k->OC c9.src c9.dst c9.cost (l.map aJ) u k' c v->el a' v <= c) _ ?_ ?_ _ ⟨ha,fun _ _=>rfl,by omega,⟨v,0,hv,by rw [ha0]; exact .zero⟩,fun u _ _ hu=>absurd hu (í _)⟩
  ·rintro u b hu ⟨i1,i2,i3,i4,i5⟩
   obtain ⟨cw,w,q,F,μ,last,eW,W⟩:=hway u v hu hv
   refine .inl ⟨b.set v (if cw < el b v then cw else el b v),?_,by rw [á]; exact i1,fun j hj=>?_,?_,?_,?_⟩
   ·show bS n v (l.map qI) u b = _
    unfold bS
    have c0:decide ((u:Int) < (n:Int)) = true:=by simpa using hu
    have cv:0 <= (v:Int) ∧ (v:Int).toNat < b.length:=⟨by omega,by rw [Ä]; omega⟩
    have ev:b[(v:Int).toNat]? = some (el b v):=by rw [Ä]; exact DH b v (by omega)
    have w3:=aO (n:=u) (by omega)
    simp only [Á c0,eW,À,Á cv,ev,w3]
    rw [Ä]
   ·rw [bR,Ã fun q=>hj q.1]; exact i2 j hj
   ·rw [bR,Á ⟨rfl,by omega⟩]; split <;> omega
   ·rw [bR,Á ⟨rfl,by omega⟩]
    by_cases c:cw < el b v
    ·rw [Á c]
     cases hF:F v with
     | true =>
      obtain ⟨k,wk⟩:=W.wk v hv hF
      rw [(W.yes hF).1]
      exact ⟨u,k,hu,wk⟩
     | false=>rw [W.no hF] at c; omega
    ·rw [Ã c]; exact i4
   ·intro u' k' c' hu' wk
    rw [bR,Á ⟨rfl,by omega⟩]
    by_cases e:u' = u
    ·subst e
     obtain ⟨hF,hle⟩:=W.le k' c' v wk
     have:=(W.yes hF).1
     split <;> omega
    ·have:=i5 u' k' c' (by omega) wk
     split <;> omega
  ·rintro b ⟨i1,i2,i3,i4,i5⟩
   refine ⟨b,?_,i1,i2,i3,i4,i5⟩
   show bS n v (l.map qI) n b = _
   unfold bS
   rw [Ã (by simp)]
 have hall:∃ q,iU n (l.map qI) 0 (List.replicate n (0:Int)) = some q ∧ q.length = n ∧ ∀ v,v < n->el q v <= 0 ∧ (∃ u k,u < n ∧ OC c9.src c9.dst c9.cost (l.map aJ) u k (el q v) v) ∧ ∀ u k c,u < n->OC c9.src c9.dst c9.cost (l.map aJ) u k c v->el q v <= c:=by
  unfold iU
  refine bO (step:=fun (w:Int × List Int)=>bU n (l.map qI) w.1 w.2) (fun k (b:List Int)=>((k:Int),b)) n (fun k q=>(q.length = n ∧ ∀ v,k <= v->v < n->el q v = 0) ∧ ∀ v,v < k->el q v <= 0 ∧ (∃ u k,u < n ∧ OC c9.src c9.dst c9.cost (l.map aJ) u k (el q v) v) ∧ ∀ u k c,u < n->OC c9.src c9.dst c9.cost (l.map aJ) u k c v->el q v <= c) _ ?_ ?_ _ ⟨⟨Ë,fun v _ hv=>cY _ _ _ hv⟩,fun v hv=>absurd hv (í _)⟩
  ·rintro v q hv ⟨⟨i1,i2⟩,i3⟩
   obtain ⟨q',e,j1,j2,j3⟩:=hone v hv q i1 (i2 v (É _) hv)
   refine .inl ⟨q',?_,⟨j1,fun v' h1 h2=>?_⟩,fun v' h1=>?_⟩
   ·show bU n (l.map qI) v q = _
    unfold bU
    have c0:decide ((v:Int) < (n:Int)) = true:=by simpa using hv
    rw [Á c0,e,À,aO (by omega)]
   ·rw [j2 v' (by omega)]; exact i2 v' (by omega) h2
   ·by_cases e' : v' = v
    ·subst e'; exact j3
    ·rw [j2 v' e']; exact i3 v' (by omega)
  ·rintro q ⟨⟨i1,_⟩,i3⟩
   refine ⟨q,?_,i1,i3⟩
   show bU n (l.map qI) n q = _
   unfold bU
   rw [Ã (by simp)]
 obtain ⟨q,e,hq1,hq2⟩:=hall
 refine ⟨q,?_,hq1,⟨fun v hv=>(hq2 v hv).1,fun v hv=>?_,fun i hi=>?_,fun v hv=>(hq2 v hv).2.1,fun u k c v hu w=>?_⟩⟩
 ·unfold iI
  rw [eS,À,Á (by omega),Ä,e]; rfl
 ·obtain ⟨u,k,hu,w⟩:=(hq2 v hv).2.1
  obtain ⟨j,c',hj,w',hc⟩:=w.short hpot hs hu
  have:=(hq2 v hv).2.2 u j c' hu w'
  have hge:=w'.cost_ge fun i hi'=>by
   rw [È] at hi'
   rw [eP aJ l i hi']
   exact (hok (el l i) (kS _ _ hi')).1.2.2.1
  omega
 ·obtain ⟨u,k,hu,w⟩:=(hq2 _ (hs i hi).1).2.1
  exact (hq2 _ (hs i hi).2).2.2 u (k + 1) _ hu (.step i hi w)
 ·by_cases hv:v < n
  ·exact (hq2 v hv).2.2 u k c hu w
  ·exfalso
   cases w with
   | zero=>exact hv hu
   | step i hi _=>exact hv (hs i hi).2
theorem aOl (h:D5 n dues):∃ x q,mF n dues = some (x,q,0) ∧ ZP n dues x q:=by
 have hlen:=h.len
 have hnn:=h.nn
 unfold mF
 rw [aDu,SG.2 ⟨n,rfl,h⟩,À,Ã (by decide),Á (by omega),Ä]
 have h1:∃ x,lQ n dues (List.replicate dues.length (0:Int)) 0 = some x ∧ x.length = dues.length ∧ oG (iH dues) (i7 dues) (jN dues) n dues.length (el x) ∧ ∃ p,iP (iH dues) (i7 dues) (jN dues) dues.length (el x) p:=by
  unfold lQ
  have hzero:∀ i,el (List.replicate dues.length (0:Int)) i = 0:=by
   intro i
   by_cases hi:i < dues.length
   ·exact cY _ _ _ hi
   ·simp [el,hi]
  obtain ⟨x,e1,e2,e3,e4⟩:=bO (step:=fun (w:List Int × Int)=>dN n dues w.1 w.2) (fun k (b:List Int)=>(b,(k:Int))) dues.length (fun k x=>(x.length = dues.length ∧ oG (iH dues) (i7 dues) (jN dues) n dues.length (el x)) ∧ (∀ j,k <= j->el x j = 0) ∧ ∃ p,iP (iH dues) (i7 dues) (jN dues) k (el x) p) (fun x=>x.length = dues.length ∧ oG (iH dues) (i7 dues) (jN dues) n dues.length (el x) ∧ ∃ p,iP (iH dues) (i7 dues) (jN dues) dues.length (el x) p) (by
    rintro t x ht ⟨⟨i1,i2⟩,i3,p,i4⟩
    obtain ⟨x',e,j1,j2,j3,j4⟩:=aRU h ht i1 i2 i4 (i3 t (É _))
    refine .inl ⟨x',?_,⟨j1,j2⟩,fun j hj=>by rw [j3 j (by omega)]; exact i3 j (by omega),j4⟩
    show dN n dues x t = _
    unfold dN
    have c0:decide ((t:Int) < (dues.length:Int)) = true:=by simpa using ht
    rw [Á c0,e,À,aO (by omega)]) (by
    rintro x ⟨⟨i1,i2⟩,_,i4⟩
    refine ⟨x,?_,i1,i2,i4⟩
    show dN n dues x dues.length = _
    unfold dN
    rw [Ã (by simp)]) (List.replicate dues.length (0:Int)) ⟨⟨Ë,⟨fun i hi=>by rw [hzero]; omega,fun i hi=>by rw [hzero]; have:=h.each i hi; unfold jN; omega,fun v hv=>by
     unfold netF
     rw [jJ (h:=fun _=>0) fun i _=>by simp [hzero],xG]⟩⟩,fun j _=>hzero j,fun _=>0,fun i hi=>absurd hi (í _)⟩
  exact ⟨x,e1,e2,e3,e4⟩
 obtain ⟨x0,a1,a2,a3,p,a4⟩:=h1
 have h2:∃ x,lU n dues x0 0 = some x ∧ x.length = dues.length ∧ oG (iH dues) (i7 dues) (jN dues) n dues.length (el x) ∧ iP (iH dues) (i7 dues) (jN dues) dues.length (el x) p ∧ ∀ i,i < dues.length->BZ (iH dues) (i7 dues) (jN dues) n dues.length (el x) i:=by
  unfold lU
  refine bO (step:=fun (w:List Int × Int)=>dT n dues w.1 w.2) (fun k (b:List Int)=>(b,(k:Int))) dues.length (fun k a=>a.length = dues.length ∧ oG (iH dues) (i7 dues) (jN dues) n dues.length (el a) ∧ iP (iH dues) (i7 dues) (jN dues) dues.length (el a) p ∧ ∀ i,i < k->BZ (iH dues) (i7 dues) (jN dues) n dues.length (el a) i) _ ?_ ?_ _ ⟨a2,a3,a4,fun j hj=>absurd hj (í _)⟩
  ·rintro k a hk ⟨i1,i2,i3,i4⟩
   obtain ⟨x',r1,r2,r3,r4,r5,r6⟩:=aJK h hk i1 i2 i3
   refine .inl ⟨x',?_,r2,r3,r4,fun j hj=>?_⟩
   ·show dT n dues a k = _
    unfold dT
    have c0:decide ((k:Int) < (dues.length:Int)) = true:=by simpa using hk
    rw [Á c0,r1,À,aO (by omega)]
   ·by_cases e:j = k
    ·subst e; exact r6
    ·exact (i4 j (by omega)).keep (fun j' hj'=>r5 j' (by omega)) (KZ h.fr h.tt r3 i2 r4)
  ·rintro a hI
   refine ⟨a,?_,hI⟩
   show dT n dues a dues.length = _
   unfold dT
   rw [Ã (by simp)]
 obtain ⟨x,d1,d2,d3,d4,d5⟩:=h2
 obtain ⟨q,f1,f2,f3⟩:=aQf h d2 d4
 rw [a1,À,d1,À,f1,À]
 exact ⟨x,q,rfl,d2,f2,d3,f3.cert h,d5,f3⟩
end
end
end Go.Proofs.Ytgjcnbgfaimepaa
