/- Clearing: the search for the cheapest ways is rounds of relaxations. Clearing: cheapest finds the cheapest ways. Clearing: the steps of a clearing. Clearing: walking back along the last steps, and moving sums along them. Clearing: balancing. Clearing: which merchant with too little is next. -/
import Derived.Test.YtgjcnbgfaimepaaFn
import Derived.Test.YtgjcnbgfaimepaaLoops3
import Derived.Test.YtgjcnbgfaimepaaFlM
set_option linter.unusedVariables false
set_option linter.unusedSimpArgs false
namespace Go.Proofs.Ytgjcnbgfaimepaa
open Go.RowKit Vm
def a8 (g:aC):eY:=⟨g.due,g.from_,g.to,g.cost,g.most,g.back⟩
def lY (a:SA):aD:=⟨a.c,a.k,a.fine⟩
theorem eW {α β:Type} [Inhabited α] [Inhabited β] (f:α->β) (l:List α) (i:Nat) (h:i < l.length):el (l.map f) i = f (el l i):=by
 simp [el,h]
theorem I9 {α:Type} [Inhabited α] (l:List α) (i:Nat) (h:i < l.length):l[i]? = some (el l i):=by
 simp [el,h]
theorem dU {α:Type} [Inhabited α] (l:List α) (i:Nat) (h:i < l.length):at? l (i:Int) = some (el l i):=by
 rw [at?_nat]; exact I9 l i h
theorem aIQ {α β:Type} (f:α->β) (l:List α) (i:Nat) (x:α):(l.set i x).map f = (l.map f).set i (f x):=by
 rw [List.map_set]
def JI (n:Nat) (g:aC):Prop:=(0 <= g.from_ ∧ g.from_ < n) ∧ (0 <= g.to ∧ g.to < n) ∧ (-1 <= g.cost ∧ g.cost <= 1)
theorem aHd {a:SA} {g:aC} (h1:-4611686018427387904 <= a.c ∧ a.c <= 4611686018427387904) (h2:0 <= a.k ∧ a.k <= 4611686018427387904) (hc:-1 <= g.cost ∧ g.cost <= 1) :
  fX (lY a) g = some (lY (vC a (a8 g))):=by
 unfold fX
 simp only [lY,vC,a8]
 rw [jG (by omega) (by omega),jG (by omega) (by omega)]
theorem U7 (a b:SA):eE (lY a) (lY b) = some (nX a b):=by
 unfold eE
 simp only [lY,nX]
 by_cases h1:a.fine = true <;> by_cases h2:b.fine = true <;> by_cases h3:a.c < b.c <;> by_cases h4:a.c = b.c <;> simp [h1,h2,h3,h4] <;> exact decide_eq_decide.2 Iff.rfl
def QV (n:Nat) (B:Int) (best:List SA):Prop:=∀ v,v < n->-B <= (el best v).c ∧ (el best v).c <= B ∧ 0 <= (el best v).k ∧ (el best v).k <= B
theorem OM {n:Nat} {l:List aC} {best:List SA} {last:List Int} {B:Int} (hl:∀ g ∈ l,JI n g) (hb:best.length = n) (hla:last.length = n) (h:QV n B best) (hB:0 <= B):∀ k,k <= l.length ->
  (((List.range k).foldl (gB nX vC eY.src eY.dst (l.map a8)) (best,last,false)).1.length = n ∧ ((List.range k).foldl (gB nX vC eY.src eY.dst (l.map a8)) (best,last,false)).2.1.length = n ∧ QV n (B + k) ((List.range k).foldl (gB nX vC eY.src eY.dst (l.map a8)) (best,last,false)).1):=by
 intro k
 induction k with
 | zero=>intro _; exact ⟨hb,hla,by simpa using h⟩
 | succ k ih =>
  intro hk
  obtain ⟨h1,h2,h3⟩:=ih (by omega)
  rw [List.range_succ,List.foldl_append,List.foldl_cons,List.foldl_nil]
  generalize (List.range k).foldl (gB nX vC eY.src eY.dst (l.map a8)) (best,last,false) = z at *
  have hg:=hl (el l k) (by rw [show el l k = l[k] from by simp [el,show k < l.length by omega]]; exact List.getElem_mem _)
  obtain ⟨⟨g1,g2⟩,⟨g3,g4⟩,g5,g6⟩:=hg
  have hmono:QV n (B + (k + 1:Nat)) z.1:=fun v hv=>by have:=h3 v hv; omega
  unfold gB
  rw [eW a8 l k (by omega)]
  split
  ·refine ⟨by simp [h1],by simp [h2],fun v hv=>?_⟩
   dsimp only
   rw [dJ]
   split
   ·have:=h3 (el l k).from_.toNat (by omega)
    simp only [vC,a8,eY.src]
    omega
   ·exact hmono v hv
  ·exact ⟨h1,h2,hmono⟩
theorem YP {n:Nat} {l:List aC} {best:List SA} {last:List Int} {B:Int} (hl:∀ g ∈ l,JI n g) (hb:best.length = n) (hla:last.length = n) (h:QV n B best) (hB:0 <= B) (hBl:B + l.length <= 4611686018427387904) :
  jL l false 0 (best.map lY) last = some ((oL nX vC eY.src eY.dst (l.map a8) best last).2.2,(oL nX vC eY.src eY.dst (l.map a8) best last).1.map lY,(oL nX vC eY.src eY.dst (l.map a8) best last).2.1):=by
 unfold jL oL
 rw [List.length_map]
 suffices hh:∃ x,dK (fun (w:Bool × Int × List aD × List Int)=>dG l w.1 w.2.1 w.2.2.1 w.2.2.2) (false,0,best.map lY,last) = some x ∧ x = (((List.range l.length).foldl (gB nX vC eY.src eY.dst (l.map a8)) (best,last,false)).2.2,((List.range l.length).foldl (gB nX vC eY.src eY.dst (l.map a8)) (best,last,false)).1.map lY,((List.range l.length).foldl (gB nX vC eY.src eY.dst (l.map a8)) (best,last,false)).2.1) by
  obtain ⟨x,h1,h2⟩:=hh
  rw [h2] at h1; exact h1
 refine hZ (step:=fun (w:Bool × Int × List aD × List Int)=>dG l w.1 w.2.1 w.2.2.1 w.2.2.2) (fun k (a:List SA × List Int × Bool)=>(a.2.2,(k:Int),a.1.map lY,a.2.1)) l.length
  (fun k a=>a = (List.range k).foldl (gB nX vC eY.src eY.dst (l.map a8)) (best,last,false)) (fun x=>x = (((List.range l.length).foldl (gB nX vC eY.src eY.dst (l.map a8)) (best,last,false)).2.2,((List.range l.length).foldl (gB nX vC eY.src eY.dst (l.map a8)) (best,last,false)).1.map lY,((List.range l.length).foldl (gB nX vC eY.src eY.dst (l.map a8)) (best,last,false)).2.1)) ?_ ?_ (best,last,false) rfl
 ·rintro k a hk rfl
  refine .inl ?_
  obtain ⟨q1,q2,q3⟩:=OM hl hb hla h hB k (by omega)
  rw [List.range_succ,List.foldl_append,List.foldl_cons,List.foldl_nil]
  generalize (List.range k).foldl (gB nX vC eY.src eY.dst (l.map a8)) (best,last,false) = z at *
  have hg:=hl (el l k) (by rw [show el l k = l[k] from by simp [el,hk]]; exact List.getElem_mem _)
  obtain ⟨⟨g1,g2⟩,⟨g3,g4⟩,g5,g6⟩:=hg
  refine ⟨_,?_,rfl⟩
  unfold dG
  rw [if_pos (by simpa using hk),dU l k hk,Option.bind_some]
  have e1:(z.1.map lY)[(el l k).from_.toNat]? = some (lY (el z.1 (el l k).from_.toNat)):=by rw [List.getElem?_map,I9 z.1 _ (by omega)]; rfl
  have e2:(z.1.map lY)[(el l k).to.toNat]? = some (lY (el z.1 (el l k).to.toNat)):=by rw [List.getElem?_map,I9 z.1 _ (by omega)]; rfl
  have b:=q3 (el l k).from_.toNat (by omega)
  rw [if_pos ⟨g1,by rw [List.length_map]; omega⟩,e1,Option.bind_some,aHd (by omega) (by omega) ⟨g5,g6⟩,Option.bind_some,if_pos ⟨g3,by rw [List.length_map]; omega⟩,e2,Option.bind_some,U7,Option.bind_some,I9 z.2.1 _ (by omega),cD (by omega)]
  unfold gB
  rw [eW a8 l k hk]
  have e3:eY.src (a8 (el l k)) = (el l k).from_.toNat:=rfl
  have e4:eY.dst (a8 (el l k)) = (el l k).to.toNat:=rfl
  rw [e3,e4]
  split
  ·rename_i hc
   have c1:0 <= (el l k).to ∧ (el l k).to.toNat < (z.1.map lY).length:=⟨g3,by rw [List.length_map]; omega⟩
   have c2:0 <= (el l k).to ∧ (el l k).to.toNat < z.2.1.length:=⟨g3,by omega⟩
   simp only [if_pos c1,if_pos c2,Option.bind_some,aIQ,e2]
  ·rfl
 ·rintro a rfl
  refine ⟨_,?_,rfl⟩
  unfold dG
  rw [if_neg (by simp)]
end Go.Proofs.Ytgjcnbgfaimepaa
namespace Go.Proofs.Ytgjcnbgfaimepaa
open Go.RowKit Vm
theorem QX {n:Nat} {l:List aC} (hl:∀ g ∈ l,JI n g):∀ (f:Nat) (best:List SA) (last:List Int) (B:Int) (b:List SA) (la:List Int),best.length = n->last.length = n->QV n B best->0 <= B->B + (f * l.length:Nat) <= 4611686018427387904 ->
  SP nX vC eY.src eY.dst (l.map a8) f best last = some (b,la)->jP l true (best.map lY) last = some (b.map lY,la)
 | 0,best,last,B,b,la,_,_,_,_,_,h=>by cases h
 | f + 1,best,last,B,b,la,hb,hla,hB,hB0,hBf,h=>by
  have hmul:(f + 1) * l.length = f * l.length + l.length:=Nat.succ_mul f l.length
  have hr:=YP hl hb hla hB hB0 (by omega)
  obtain ⟨q1,q2,q3⟩:=OM hl hb hla hB hB0 l.length (Nat.le_refl _)
  have e0:oL nX vC eY.src eY.dst (l.map a8) best last = (List.range l.length).foldl (gB nX vC eY.src eY.dst (l.map a8)) (best,last,false):=by unfold oL; rw [List.length_map]
  rw [← e0] at q1 q2 q3
  simp only [SP] at h
  generalize oL nX vC eY.src eY.dst (l.map a8) best last = z at *
  unfold jP
  rw [lO (s':=(z.2.2,z.1.map lY,z.2.1)) (by unfold fA; rw [if_pos rfl,hr]; rfl)]
  split at h
  ·rename_i hc
   rw [hc]
   exact QX hl f z.1 z.2.1 (B + l.length) b la q1 q2 q3 (by omega) (by omega) h
  ·rename_i hc
   cases h
   exact jQ (by unfold fA; exact if_neg hc)
def N5 (n:Nat) (too:List Int):List SA:=(List.range n).map fun v=>⟨0,0,decide (el too v > 0)⟩
theorem A9 (n:Nat) (too:List Int):(N5 n too).length = n:=by simp [N5]
theorem N6 {n:Nat} (too:List Int) {v:Nat} (h:v < n):el (N5 n too) v = ⟨0,0,decide (el too v > 0)⟩:=by
 simp [N5,el,h]
theorem ET {α:Type} [Inhabited α] {a b:List α} (h:a.length = b.length) (he:∀ i,i < a.length->el a i = el b i):a = b:=by
 apply List.ext_getElem h
 intro i h1 h2
 have:=he i h1
 simpa [el,h1,h2] using this
theorem aBY {n:Nat} (hn:n <= 100000) (l:List aC) {too:List Int} (ht:too.length = n):jN n l too 0 (List.replicate n ((aD.mk 0 0 false):aD)) = some ((N5 n too).map lY):=by
 unfold jN
 suffices hh:∃ x,dK (fun (w:Int × List aD)=>b8 n l too w.1 w.2) (0,List.replicate n ((aD.mk 0 0 false):aD)) = some x ∧ x = (N5 n too).map lY by
  obtain ⟨x,h1,h2⟩:=hh
  rw [h2] at h1; exact h1
 refine hZ (step:=fun (w:Int × List aD)=>b8 n l too w.1 w.2) (fun k (a:List aD)=>((k:Int),a)) n
  (fun k a=>a.length = n ∧ ∀ v,v < n->el a v = if v < k then (aD.mk 0 0 (decide (el too v > 0)):aD) else (aD.mk 0 0 false:aD)) _ ?_ ?_ _ ?_
 ·rintro k a hk ⟨h1,h2⟩
  refine .inl ⟨a.set k (aD.mk 0 0 (decide (el too k > 0))),?_,by simp [h1],fun v hv=>?_⟩
  ·show b8 n l too k a = _
   unfold b8
   rw [if_pos (by simpa using hk),dU too k (by omega),Option.bind_some,if_pos ⟨by omega,by rw [Int.toNat_natCast]; omega⟩,Int.toNat_natCast,I9 a k (by omega),Option.bind_some,cD (by omega),h2 k hk,if_neg (Nat.lt_irrefl k)]
  ·rw [dJ,h2 v hv]
   by_cases e:v = k
   ·subst e
    rw [if_pos ⟨rfl,by omega⟩,if_pos (Nat.lt_succ_self _)]
   ·rw [if_neg fun q=>e q.1]
    by_cases c:v < k
    ·rw [if_pos c,if_pos (by omega)]
    ·rw [if_neg c,if_neg (by omega)]
 ·rintro a ⟨h1,h2⟩
  refine ⟨a,?_,?_⟩
  ·show b8 n l too n a = _
   unfold b8
   rw [if_neg (by simp)]
  ·refine ET (by rw [h1,List.length_map,A9]) fun v hv=>?_
   rw [h1] at hv
   rw [h2 v hv,if_pos hv,eW lY _ _ (by rw [A9]; exact hv),N6 too hv]
   rfl
 ·refine ⟨List.length_replicate,fun v hv=>?_⟩
  rw [if_neg (Nat.not_lt_zero _),lP _ _ _ hv]
theorem aP9 {n:Nat} (hn:n <= 100000):fY [-1] (n:Int) = some (List.replicate n (-1)):=by
 show (if 0 <= (n:Int) ∧ (n:Int) <= 100000 then some (List.replicate (n:Int).toNat (-1:Int)) else none) = _
 rw [if_pos (by omega),Int.toNat_natCast]
theorem aEa {n:Nat} (hn:n <= 1000) {l:List aC} (hl:∀ g ∈ l,JI n g) (hll:l.length <= 100000) {too:List Int} (ht:too.length = n) {p:Nat->Int} (hp:Pot eY.src eY.dst eY.cost (l.map a8) p) :
  ∃ (best:List SA) (last:List Int),fM n l too = some (best.map lY,last) ∧ best.length = n ∧ last.length = n ∧
   QJ n (l.map a8) (fun v=>(el best v).fine = true) (fun v=>decide (el too v > 0) = true) (fun v=>(el best v).c) (fun v=>(el best v).k.toNat) last:=by
 have hs:∀ i,i < (l.map a8).length->(el (l.map a8) i).src < n ∧ (el (l.map a8) i).dst < n:=by
  intro i hi
  rw [List.length_map] at hi
  rw [eW a8 l i hi]
  have hg:=hl (el l i) (by rw [show el l i = l[i] from by simp [el,hi]]; exact List.getElem_mem _)
  obtain ⟨⟨g1,g2⟩,⟨g3,g4⟩,g5,g6⟩:=hg
  simp only [eY.src,eY.dst,a8]
  omega
 obtain ⟨best,last,h1,h2,h3,h4⟩:=aBi hp (fun v=>decide (el too v > 0)) hs (A9 n too) (fun v hv=>N6 too hv) (fuel:=n + 1) (Nat.le_refl _)
 refine ⟨best,last,?_,h2,h3,h4⟩
 unfold fM
 have hmul:(n + 1) * l.length <= 1001 * 100000:=Nat.mul_le_mul (by omega) hll
 rw [if_pos (by omega),Int.toNat_natCast,aBY (by omega) l ht,Option.bind_some,List.length_map,A9]
 rw [aP9 (by omega),Option.bind_some,QX hl (n + 1) _ _ 0 best last (A9 n too) (by simp) (fun v hv=>by rw [N6 too hv]; simp) (by omega) (by omega) h1]
 rfl
end Go.Proofs.Ytgjcnbgfaimepaa
namespace Go.Proofs.Ytgjcnbgfaimepaa
open Go.RowKit Vm
structure LR (n:Nat) (dues:List aI):Prop where
 nn:n <= 40
 len:dues.length <= 100
 each:∀ i,i < dues.length->(0 <= (el dues i).From ∧ (el dues i).From < n) ∧ (0 <= (el dues i).To ∧ (el dues i).To < n) ∧ (el dues i).From ≠ (el dues i).To ∧ 1 <= (el dues i).Sum ∧ (el dues i).Sum <= 1099511627776
def oW (dues:List aI) (i:Nat):Nat:=(el dues i).From.toNat
def qV (dues:List aI) (i:Nat):Nat:=(el dues i).To.toNat
def uD (dues:List aI) (i:Nat):Int:=(el dues i).Sum
def HO (dues:List aI) (x:Nat->Int) (i:Nat) (b:Bool):aC :=
 ⟨i,if b = true then (el dues i).To else (el dues i).From,if b = true then (el dues i).From else (el dues i).To,if b = true then 1 else -1,if b = true then x i else (el dues i).Sum - x i,b⟩
def RN (dues:List aI) (x:Nat->Int) (i:Nat):List aC :=
 (if x i < (el dues i).Sum then [HO dues x i false] else []) ++ (if x i > 0 then [HO dues x i true] else [])
def gX (dues:List aI) (x:Nat->Int) (m:Nat):List aC:=(List.range m).flatMap (RN dues x)
theorem aEP (dues:List aI) (x:Nat->Int) (i:Nat):(RN dues x i).length <= 2:=by
 unfold RN
 rw [List.length_append]
 split <;> split <;> simp
theorem OJ (dues:List aI) (x:Nat->Int) (m:Nat):gX dues x (m + 1) = gX dues x m ++ RN dues x m:=by
 simp [gX,List.range_succ,List.flatMap_append]
theorem BA (dues:List aI) (x:Nat->Int):∀ m,(gX dues x m).length <= 2 * m
 | 0=>by simp [gX]
 | m + 1=>by
  have:=BA dues x m
  have:=aEP dues x m
  rw [OJ,List.length_append]; omega
section
variable {n:Nat} {dues:List aI} {sums:List Int}
theorem LR.fr (h:LR n dues):∀ i,i < dues.length->oW dues i < n:=fun i hi=>by have:=h.each i hi; unfold oW; omega
theorem LR.tt (h:LR n dues):∀ i,i < dues.length->qV dues i < n:=fun i hi=>by have:=h.each i hi; unfold qV; omega
theorem V1 (h:LR n dues) (hl:sums.length = dues.length) (hr:InR (uD dues) dues.length (el sums)):fQ dues sums = some (gX dues (el sums) dues.length):=by
 unfold fQ qM
 suffices hh:∃ x,dK (fun (w:Int × List aC)=>c7 dues sums w.1 w.2) (0,[]) = some x ∧ x = gX dues (el sums) dues.length by
  obtain ⟨x,h1,h2⟩:=hh
  rw [h1,h2]; rfl
 have hlen:=h.len
 refine hZ (step:=fun (w:Int × List aC)=>c7 dues sums w.1 w.2) (fun k (a:List aC)=>((k:Int),a)) dues.length (fun k a=>a = gX dues (el sums) k) _ ?_ ?_ _ rfl
 ·rintro k a hk rfl
  refine .inl ⟨gX dues (el sums) (k + 1),?_,rfl⟩
  have hsl:=BA dues (el sums) k
  have hx:=hr k hk
  have hd:=h.each k hk
  unfold uD at hx
  show c7 dues sums k (gX dues (el sums) k) = _
  unfold c7
  rw [if_pos (by simpa using hk),dU dues k hk,Option.bind_some,dU sums k (by omega),Option.bind_some,cD (by omega),OJ]
  have hj:∀ L:List aC,L.length <= 2 * k + 1->jR dues sums k (el dues k) L = some (L ++ if el sums k > 0 then [HO dues (el sums) k true] else []):=by
   intro L hL
   unfold jR
   rw [dU sums k (by omega),Option.bind_some]
   by_cases c:el sums k > 0
   ·rw [if_pos (by simpa using c),if_pos c,Option.bind_some,if_pos (by omega)]; rfl
   ·rw [if_neg (by simpa using c),if_neg c,List.append_nil]
  by_cases c:el sums k < (el dues k).Sum
  ·rw [if_pos (by simpa using c),Option.bind_some,if_pos (by omega),jG (by omega) (by omega),hj _ (by simp; omega),Option.bind_some]
   unfold RN
   rw [if_pos c,← List.append_assoc]; rfl
  ·rw [if_neg (by simpa using c),hj _ (by omega),Option.bind_some]
   unfold RN
   rw [if_neg c,List.nil_append]
 ·rintro a rfl
  refine ⟨_,?_,rfl⟩
  show c7 dues sums dues.length _ = _
  unfold c7
  rw [if_neg (by simp)]
theorem xY {x:Nat->Int} {m:Nat} {g:aC}:g ∈ gX dues x m ↔ ∃ i b,i < m ∧ g = HO dues x i b ∧ 0 < (HO dues x i b).most:=by
 unfold gX RN
 rw [List.mem_flatMap]
 constructor
 ·rintro ⟨i,hi,hg⟩
  rw [List.mem_range] at hi
  rcases List.mem_append.1 hg with q | q
  ·split at q
   ·rename_i c
    exact ⟨i,false,hi,by simpa using q,by simp [HO]; omega⟩
   ·cases q
  ·split at q
   ·rename_i c
    exact ⟨i,true,hi,by simpa using q,by simp [HO]; omega⟩
   ·cases q
 ·rintro ⟨i,b,hi,rfl,hm⟩
  refine ⟨i,List.mem_range.2 hi,List.mem_append.2 ?_⟩
  cases b
  ·left
   have:x i < (el dues i).Sum:=by simp [HO] at hm; omega
   rw [if_pos this]; simp
  ·right
   have:x i > 0:=by simpa [HO] using hm
   rw [if_pos this]; simp
theorem rR (h:LR n dues) {x:Nat->Int} {i:Nat} (hi:i < dues.length) (b:Bool):a8 (HO dues x i b) = ID (oW dues) (qV dues) (uD dues) x W9 i b:=by
 have:=h.each i hi
 cases b <;> simp [a8,HO,ID,oW,qV,uD,W9] <;> omega
theorem RJ (h:LR n dues) (x:Nat->Int):qL (oW dues) (qV dues) (uD dues) dues.length x (fun _ _=>True) W9 ((gX dues x dues.length).map a8):=by
 constructor
 ·intro k hk
  rw [List.length_map] at hk
  rw [eW a8 _ k hk]
  obtain ⟨i,b,hi,e,hm⟩:=xY.1 (show el (gX dues x dues.length) k ∈ gX dues x dues.length by rw [show el (gX dues x dues.length) k = (gX dues x dues.length)[k] from by simp [el,hk]]; exact List.getElem_mem _)
  refine ⟨i,b,hi,trivial,?_,by rw [e,rR h hi]⟩
  rw [← rR h hi]
  exact hm
 ·intro i b hi _ hm
  rw [← rR h hi] at hm
  have:=(xY (dues:=dues) (x:=x) (m:=dues.length)).2 ⟨i,b,hi,rfl,hm⟩
  obtain ⟨k,hk,e⟩:=List.mem_iff_getElem.1 this
  refine ⟨k,by rw [List.length_map]; exact hk,?_⟩
  rw [eW a8 _ k hk,← rR h hi,← e]
  simp [el,hk]
theorem Q3 (h:LR n dues) (x:Nat->Int):∀ g ∈ gX dues x dues.length,JI n g:=by
 intro g hg
 obtain ⟨i,b,hi,rfl,_⟩:=xY.1 hg
 have:=h.each i hi
 cases b <;> simp [JI,HO] <;> omega
end
end Go.Proofs.Ytgjcnbgfaimepaa
namespace Go.Proofs.Ytgjcnbgfaimepaa
open Go.RowKit Vm
def QD (l:List aC) (a:Int) (ks:List Nat):Int:=ks.foldl (fun a k=>if (el l k).most < a then (el l k).most else a) a
theorem VL (l:List aC):∀ (ks:List Nat) (a:Int),QD l a ks <= a ∧ ∀ k ∈ ks,QD l a ks <= (el l k).most
 | [],a=>⟨Int.le_refl _,fun k h=>by cases h⟩
 | k :: ks,a=>by
  obtain ⟨h1,h2⟩:=VL l ks (if (el l k).most < a then (el l k).most else a)
  have e:QD l a (k :: ks) = QD l (if (el l k).most < a then (el l k).most else a) ks:=rfl
  rw [e]
  have hc:(if (el l k).most < a then (el l k).most else a) <= a ∧ (if (el l k).most < a then (el l k).most else a) <= (el l k).most:=by split <;> omega
  refine ⟨by omega,fun j hj=>?_⟩
  rcases List.mem_cons.1 hj with rfl | hj
  ·omega
  ·exact h2 j hj
theorem RT (l:List aC):∀ (ks:List Nat) (a:Int),0 < a->(∀ k ∈ ks,0 < (el l k).most)->0 < QD l a ks
 | [],a,h,_=>h
 | k :: ks,a,h,hk=>by
  have e:QD l a (k :: ks) = QD l (if (el l k).most < a then (el l k).most else a) ks:=rfl
  rw [e]
  refine RT l ks _ ?_ fun j hj=>hk j (List.mem_cons_of_mem _ hj)
  have:=hk k (List.mem_cons_self ..)
  split <;> omega
section
variable {n:Nat} {l:List aC} {last:List Int}
theorem IU {v k:Nat} (hv:v < last.length) (hl:el last v = (k:Int)) (hk:k < l.length):last[(v:Int).toNat]? = some (k:Int) ∧ l[(k:Int).toNat]? = some (el l k):=by
 rw [Int.toNat_natCast,Int.toNat_natCast,I9 last v hv,I9 l k hk,hl]
 exact ⟨rfl,rfl⟩
theorem VF {k:Nat} (hl:∀ g ∈ l,JI n g) (hk:k < l.length):(el (l.map a8) k).src < n ∧ (el l k).from_ = ((el (l.map a8) k).src:Nat):=by
 rw [eW a8 l k hk]
 have hg:=hl (el l k) (by rw [show el l k = l[k] from by simp [el,hk]]; exact List.getElem_mem _)
 obtain ⟨⟨g1,g2⟩,_⟩:=hg
 simp only [eY.src,a8]
 omega
theorem aF1 (hl:∀ g ∈ l,JI n g) (hla:last.length = n) (a0:Int) (a1:List aI) (p12 p13:List Int) (best:List aD) (r27:Int) {v u:Nat} {ks:List Nat} (w:Pth (l.map a8) last v ks u):v < n->∀ most:Int,fP a0 a1 p12 p13 l (best,last) r27 most v = some (QD l most ks,(u:Int)):=by
 induction w with
 | nil v hv =>
  intro hvn most
  unfold fP
  refine jQ ?_
  show dM a0 a1 p12 p13 l (best,last) r27 most v = _
  unfold dM
  dsimp only
  rw [if_pos ⟨by omega,by rw [Int.toNat_natCast]; omega⟩,Int.toNat_natCast,I9 last v (by omega),hv]
  rfl
 | @cons v k u ks hk hlv hd w ih =>
  intro hvn most
  rw [List.length_map] at hk
  obtain ⟨q1,q2⟩:=VF hl hk
  obtain ⟨b1,b2⟩:=IU (l:=l) (last:=last) (by omega:v < last.length) hlv hk
  unfold fP
  rw [lO (s':=((if (el l k).most < most then (el l k).most else most),(el l k).from_)) ?_]
  ·have:=ih q1 (if (el l k).most < most then (el l k).most else most)
   unfold fP at this
   rw [q2]
   exact this
  ·show dM a0 a1 p12 p13 l (best,last) r27 most v = _
   unfold dM
   dsimp only
   have cv:0 <= (v:Int) ∧ (v:Int).toNat < last.length:=⟨by omega,by rw [Int.toNat_natCast]; omega⟩
   have ck:0 <= (k:Int) ∧ (k:Int).toNat < l.length:=⟨by omega,by rw [Int.toNat_natCast]; exact hk⟩
   have cg:decide ((k:Int) ≥ 0) = true:=by simp
   simp only [if_pos cv,if_pos ck,b1,b2,Option.bind_some,if_pos cg]
theorem aCO (hl:∀ g ∈ l,JI n g) (hla:last.length = n) (a0:Int) (a1:List aI) (a3:List Int) (a4:Int) (p5:List Int) (best:List aD) {v u:Nat} {ks:List Nat} (w:Pth (l.map a8) last v ks u):v < n->∀ most:Int,gS a0 a1 a3 a4 p5 l (best,last) most v = some (QD l most ks):=by
 induction w with
 | nil v hv =>
  intro hvn most
  unfold gS
  refine jQ ?_
  show d9 a0 a1 a3 a4 p5 l (best,last) most v = _
  unfold d9
  dsimp only
  rw [if_pos ⟨by omega,by rw [Int.toNat_natCast]; omega⟩,Int.toNat_natCast,I9 last v (by omega),hv]
  rfl
 | @cons v k u ks hk hlv hd w ih =>
  intro hvn most
  rw [List.length_map] at hk
  obtain ⟨q1,q2⟩:=VF hl hk
  obtain ⟨b1,b2⟩:=IU (l:=l) (last:=last) (by omega:v < last.length) hlv hk
  unfold gS
  rw [lO (s':=((if (el l k).most < most then (el l k).most else most),(el l k).from_)) ?_]
  ·have:=ih q1 (if (el l k).most < most then (el l k).most else most)
   unfold gS at this
   rw [q2]
   exact this
  ·show d9 a0 a1 a3 a4 p5 l (best,last) most v = _
   unfold d9
   dsimp only
   have cv:0 <= (v:Int) ∧ (v:Int).toNat < last.length:=⟨by omega,by rw [Int.toNat_natCast]; omega⟩
   have ck:0 <= (k:Int) ∧ (k:Int).toNat < l.length:=⟨by omega,by rw [Int.toNat_natCast]; exact hk⟩
   have cg:decide ((k:Int) ≥ 0) = true:=by simp
   simp only [if_pos cv,if_pos ck,b1,b2,Option.bind_some,if_pos cg]
theorem aJt {g:aC} {x:List Int} {d B D:Int} (h0:0 <= g.due) (hd:g.due.toNat < x.length) (hx:∀ i,-B <= el x i ∧ el x i <= B) (hd0:0 <= d) (hdD:d <= D) (hB:B + D <= 4611686018427387904) :
  eJ g x d = some (x.set g.due.toNat (el x g.due.toNat + YO (a8 g) d)):=by
 have hj:∀ e:Int,-D <= e->e <= D->fC g x e = some (x.set g.due.toNat (el x g.due.toNat + e)):=by
  intro e h1 h2
  have:=hx g.due.toNat
  unfold fC
  rw [if_pos ⟨h0,hd⟩,I9 x _ hd,Option.bind_some,if_pos ⟨h0,hd⟩,Option.bind_some,jG (by omega) (by omega)]
 unfold eJ
 have hB0:=hx 0
 by_cases c:g.back = true
 ·rw [if_pos c,jG (by omega) (by omega),hj _ (by omega) (by omega),Option.bind_some]
  simp [YO,a8,c]
 ·rw [if_neg c,hj _ (by omega) hdD,Option.bind_some]
  simp [YO,a8,c]
theorem UB {x:List Int} {i:Nat} {a B D:Int} (hx:∀ i,-B <= el x i ∧ el x i <= B) (h1:-(B + D) <= a) (h2:a <= B + D) (hD:0 <= D):∀ j,-(B + D) <= el (x.set i a) j ∧ el (x.set i a) j <= B + D:=by
 intro j
 rw [dJ]
 have:=hx j
 split <;> omega
theorem aHF (hl:∀ g ∈ l,JI n g) (hla:last.length = n) {m:Nat} (hdue:∀ g ∈ l,0 <= g.due ∧ g.due < m) (a0:Int) (a1:List aI) (p12:List Int) (best:List aD) (r27:Int) (r38:Int × Int) (x39:Int) {D:Int} (hd0:0 <= (if x39 < r38.1 then x39 else r38.1)) (hdD:(if x39 < r38.1 then x39 else r38.1) <= D) {v u:Nat} {ks:List Nat} (w:Pth (l.map a8) last v ks u):v < n->∀ (x:List Int) (B:Int),x.length = m->(∀ i,-B <= el x i ∧ el x i <= B)->B + (ks.length:Int) * D <= 4611686018427387904 ->
  fK a0 a1 p12 l (best,last) r27 r38 x39 v x = some (DL (l.map a8) (if x39 < r38.1 then x39 else r38.1) x ks):=by
 induction w with
 | nil v hv =>
  intro hvn x B hxm hx hB
  unfold fK
  refine jQ ?_
  show dN a0 a1 p12 l (best,last) r27 r38 x39 v x = _
  unfold dN
  dsimp only
  rw [if_pos ⟨by omega,by rw [Int.toNat_natCast]; omega⟩,Int.toNat_natCast,I9 last v (by omega),hv]
  rfl
 | @cons v k u ks hk hlv hd w ih =>
  intro hvn x B hxm hx hB
  rw [List.length_map] at hk
  obtain ⟨q1,q2⟩:=VF hl hk
  obtain ⟨b1,b2⟩:=IU (l:=l) (last:=last) (by omega:v < last.length) hlv hk
  have hg:=hdue (el l k) (by rw [show el l k = l[k] from by simp [el,hk]]; exact List.getElem_mem _)
  have hD0:0 <= D:=by omega
  have hks:((k :: ks).length:Int) * D = (ks.length:Int) * D + D:=by
   rw [List.length_cons]; rw [show ((ks.length + 1:Nat):Int) = (ks.length:Int) + 1 by omega,Int.add_mul,Int.one_mul]
  have hpos:0 <= (ks.length:Int) * D:=Int.mul_nonneg (by omega) hD0
  have hmv:=aJt (g:=el l k) (x:=x) (B:=B) hg.1 (by omega) hx hd0 hdD (by omega)
  unfold fK
  rw [lO (s':=((el l k).from_,x.set (el l k).due.toNat (el x (el l k).due.toNat + YO (a8 (el l k)) (if x39 < r38.1 then x39 else r38.1)))) ?_]
  ·have hsg:-D <= YO (a8 (el l k)) (if x39 < r38.1 then x39 else r38.1) ∧ YO (a8 (el l k)) (if x39 < r38.1 then x39 else r38.1) <= D:=by unfold YO; split <;> omega
   have hxd:=hx (el l k).due.toNat
   have:=ih q1 (x.set (el l k).due.toNat (el x (el l k).due.toNat + YO (a8 (el l k)) (if x39 < r38.1 then x39 else r38.1))) (B + D) (by rw [List.length_set]; exact hxm) (UB hx (by omega) (by omega) hD0) (by omega)
   unfold fK at this
   rw [q2,this,DL,eW a8 l k hk]
   rfl
  ·show dN a0 a1 p12 l (best,last) r27 r38 x39 v x = _
   unfold dN
   dsimp only
   have cv:0 <= (v:Int) ∧ (v:Int).toNat < last.length:=⟨by omega,by rw [Int.toNat_natCast]; omega⟩
   have ck:0 <= (k:Int) ∧ (k:Int).toNat < l.length:=⟨by omega,by rw [Int.toNat_natCast]; exact hk⟩
   have cg:decide ((k:Int) ≥ 0) = true:=by simp
   simp only [if_pos cv,if_pos ck,b1,b2,Option.bind_some,if_pos cg,hmv]
end
end Go.Proofs.Ytgjcnbgfaimepaa
namespace Go.Proofs.Ytgjcnbgfaimepaa
open Go.RowKit Vm
theorem JC (fr tt:Nat->Nat) (k:Nat) (x:Nat->Int) (v:Nat):netF fr tt (k + 1) x v = netF fr tt k x v + ((if tt k = v then x k else 0) - (if fr k = v then x k else 0)):=rfl
theorem LA {fr tt:Nat->Nat} {x:Nat->Int} {S:Int} (hS:0 <= S):∀ k,(∀ i,i < k->0 <= x i ∧ x i <= S)->∀ v,-((k:Int) * S) <= netF fr tt k x v ∧ netF fr tt k x v <= (k:Int) * S
 | 0,_,v=>by simp [netF,dE]
 | k + 1,h,v=>by
  have:=LA hS k (fun i hi=>h i (by omega)) v (fr:=fr) (tt:=tt)
  have hk:=h k (by omega)
  rw [JC,show ((k + 1:Nat):Int) * S = (k:Int) * S + S by rw [show ((k + 1:Nat):Int) = (k:Int) + 1 by omega,Int.add_mul,Int.one_mul]]
  split <;> split <;> omega
section
variable {n:Nat} {dues:List aI} {sums:List Int}
def P9 (n:Nat) (dues:List aI) (x:Nat->Int):List Int:=(List.range n).map fun v=>netF (oW dues) (qV dues) dues.length x v
theorem R7 (x:Nat->Int):(P9 n dues x).length = n:=by simp [P9]
theorem VQ (x:Nat->Int) {v:Nat} (hv:v < n):el (P9 n dues x) v = netF (oW dues) (qV dues) dues.length x v:=by simp [P9,el,hv]
theorem aRQ (h:LR n dues) (hl:sums.length = dues.length) (hr:InR (uD dues) dues.length (el sums)):j6 n dues sums 0 (List.replicate n (0:Int)) = some (P9 n dues (el sums)):=by
 unfold j6
 suffices hh:∃ x,dK (fun (w:Int × List Int)=>cG n dues sums w.1 w.2) (0,List.replicate n (0:Int)) = some x ∧ x = P9 n dues (el sums) by
  obtain ⟨x,h1,h2⟩:=hh
  rw [h1,h2]
 have hlen:=h.len
 have hS:∀ i,i < dues.length->0 <= el sums i ∧ el sums i <= 1099511627776:=fun i hi=>by have:=hr i hi; have:=h.each i hi; unfold uD at *; omega
 refine hZ (step:=fun (w:Int × List Int)=>cG n dues sums w.1 w.2) (fun k (a:List Int)=>((k:Int),a)) dues.length (fun k a=>a.length = n ∧ ∀ v,v < n->el a v = netF (oW dues) (qV dues) k (el sums) v) _ ?_ ?_ _ ⟨List.length_replicate,fun v hv=>by rw [lP _ _ _ hv]; rfl⟩
 ·rintro k a hk ⟨h1,h2⟩
  obtain ⟨⟨f1,f2⟩,⟨t1,t2⟩,hne,_⟩:=h.each k hk
  have hx:=hS k hk
  have hb:=LA (fr:=oW dues) (tt:=qV dues) (x:=el sums) (S:=1099511627776) (by omega) k fun i hi=>hS i (by omega)
  have hk100:(k:Int) * 1099511627776 <= 100 * 1099511627776:=by omega
  have hT:(el dues k).To.toNat < n:=by omega
  have hF:(el dues k).From.toNat < n:=by omega
  have bT:=hb (el dues k).To.toNat
  have bF:=hb (el dues k).From.toNat
  have hnf:¬ (el dues k).From.toNat = (el dues k).To.toNat:=by omega
  refine .inl ⟨(a.set (el dues k).To.toNat (el a (el dues k).To.toNat + el sums k)).set (el dues k).From.toNat (el a (el dues k).From.toNat - el sums k),?_,by simp [h1],fun v hv=>?_⟩
  ·show cG n dues sums k a = _
   unfold cG
   have c0:decide ((k:Int) < (dues.length:Int)) = true:=by simpa using hk
   have cT:0 <= (el dues k).To ∧ (el dues k).To.toNat < a.length:=⟨t1,by omega⟩
   have ck:0 <= (k:Int) ∧ (k:Int).toNat < sums.length:=⟨by omega,by rw [Int.toNat_natCast]; omega⟩
   have eS:sums[(k:Int).toNat]? = some (el sums k):=by rw [Int.toNat_natCast]; exact I9 sums k (by omega)
   have eT:a[(el dues k).To.toNat]? = some (el a (el dues k).To.toNat):=I9 a _ (by omega)
   have w1:IntKind.wrap .i64 (el a (el dues k).To.toNat + el sums k) = el a (el dues k).To.toNat + el sums k:=jG (by rw [h2 _ hT]; omega) (by rw [h2 _ hT]; omega)
   have cF:0 <= (el dues k).From ∧ (el dues k).From.toNat < (a.set (el dues k).To.toNat (el a (el dues k).To.toNat + el sums k)).length:=⟨f1,by rw [List.length_set]; omega⟩
   have eF:(a.set (el dues k).To.toNat (el a (el dues k).To.toNat + el sums k))[(el dues k).From.toNat]? = some (el a (el dues k).From.toNat):=by
    rw [I9 _ _ (by rw [List.length_set]; omega),dJ,if_neg fun q=>hnf q.1]
   have w2:IntKind.wrap .i64 (el a (el dues k).From.toNat - el sums k) = el a (el dues k).From.toNat - el sums k:=jG (by rw [h2 _ hF]; omega) (by rw [h2 _ hF]; omega)
   have w3:IntKind.wrap .i64 ((k:Int) + 1) = ((k + 1:Nat):Int):=cD (by omega)
   simp only [if_pos c0,dU dues k hk,Option.bind_some,if_pos cT,eT,if_pos ck,eS,w1,if_pos cF,eF,w2,w3]
  ·rw [JC,dJ,List.length_set]
   unfold qV oW
   have h2v:=h2 v hv
   unfold qV oW at h2v
   by_cases e1:v = (el dues k).From.toNat
   ·have e2:¬ (el dues k).To.toNat = v:=by omega
    rw [if_pos ⟨e1,by omega⟩,if_neg e2,if_pos e1.symm,← e1,h2v]; omega
   ·have e1' : ¬ (el dues k).From.toNat = v:=fun q=>e1 q.symm
    have e1'' : ¬ (v = (el dues k).From.toNat ∧ (el dues k).From.toNat < a.length):=fun q=>e1 q.1
    rw [if_neg e1'',if_neg e1',dJ]
    by_cases e2:v = (el dues k).To.toNat
    ·rw [if_pos ⟨e2,by omega⟩,if_pos e2.symm,← e2,h2v]; omega
    ·have e2' : ¬ (el dues k).To.toNat = v:=fun q=>e2 q.symm
     have e2'' : ¬ (v = (el dues k).To.toNat ∧ (el dues k).To.toNat < a.length):=fun q=>e2 q.1
     rw [if_neg e2'',if_neg e2',h2v]; omega
 ·rintro a ⟨h1,h2⟩
  refine ⟨a,?_,ET (by rw [h1,R7]) fun v hv=>by rw [h1] at hv; rw [h2 v hv,VQ _ hv]⟩
  show cG n dues sums dues.length a = _
  unfold cG
  rw [if_neg (by simp)]
end
end Go.Proofs.Ytgjcnbgfaimepaa
namespace Go.Proofs.Ytgjcnbgfaimepaa
open Go.RowKit Vm
section
variable {n:Nat} {dues:List aI} {sums:List Int}
theorem aSi (hn:n <= 1000) {too:List Int} (ht:too.length = n) {best:List SA} (hb:best.length = n) (last:List Int) (l:List aC):∃ e:Int,kA n dues too sums l (best.map lY,last) (-1) 0 = some e ∧
  ((e = -1 ∧ ∀ v,v < n->el too v < 0->(el best v).fine = false) ∨ ∃ v:Nat,e = v ∧ v < n ∧ el too v < 0 ∧ (el best v).fine = true):=by
 unfold kA
 refine hZ (step:=fun (w:Int × Int)=>aZ n dues too sums l (best.map lY,last) w.1 w.2) (fun k (a:Int)=>(a,(k:Int))) n
  (fun k a=>(a = -1 ∧ ∀ v,v < k->el too v < 0->(el best v).fine = false) ∨ ∃ v:Nat,a = v ∧ v < n ∧ el too v < 0 ∧ (el best v).fine = true) _ ?_ ?_ _ (.inl ⟨rfl,fun v hv=>absurd hv (Nat.not_lt_zero _)⟩)
 ·intro k a hk hI
  refine .inl ?_
  have c0:decide ((k:Int) < (n:Int)) = true:=by simpa using hk
  have ck:0 <= (k:Int) ∧ (k:Int).toNat < too.length:=⟨by omega,by rw [Int.toNat_natCast]; omega⟩
  have ek:too[(k:Int).toNat]? = some (el too k):=by rw [Int.toNat_natCast]; exact I9 too k (by omega)
  have cb:0 <= (k:Int) ∧ (k:Int).toNat < (best.map lY).length:=⟨by omega,by rw [Int.toNat_natCast,List.length_map]; omega⟩
  have eb:(best.map lY)[(k:Int).toNat]? = some (lY (el best k)):=by rw [Int.toNat_natCast,List.getElem?_map,I9 best k (by omega)]; rfl
  have w3:IntKind.wrap .i64 ((k:Int) + 1) = ((k + 1:Nat):Int):=cD (by omega)
  have hfine:(lY (el best k)).fine = (el best k).fine:=rfl
  by_cases hneg:el too k < 0
  ·have cn:decide (el too k < 0) = true:=by simpa using hneg
   rcases hI with ⟨rfl,hI⟩ | ⟨v,rfl,hv,hv1,hv2⟩
   ·have ce:decide ((-1:Int) < 0) = true:=rfl
    have cg:¬ decide ((-1:Int) ≥ 0) = true:=by decide
    by_cases hf:(el best k).fine = true
    ·refine ⟨(k:Int),?_,.inr ⟨k,rfl,hk,hneg,hf⟩⟩
     show aZ n dues too sums l (best.map lY,last) (-1) k = _
     unfold aZ
     simp only [if_pos c0,if_pos ck,ek,Option.bind_some,if_pos cn,if_pos ce,if_pos cb,eb,hfine,if_pos hf,w3]
    ·refine ⟨-1,?_,.inl ⟨rfl,fun v hv hvn=>?_⟩⟩
     ·show aZ n dues too sums l (best.map lY,last) (-1) k = _
      unfold aZ
      simp only [if_pos c0,if_pos ck,ek,Option.bind_some,if_pos cn,if_pos ce,if_pos cb,eb,hfine,if_neg hf,if_neg cg,w3]
     ·by_cases e:v = k
      ·subst e; simpa using hf
      ·exact hI v (by omega) hvn
   ·have ce:¬ decide ((v:Int) < 0) = true:=by simp
    have cg:decide ((v:Int) ≥ 0) = true:=by simp
    have cv:0 <= (v:Int) ∧ (v:Int).toNat < (best.map lY).length:=⟨by omega,by rw [Int.toNat_natCast,List.length_map]; omega⟩
    have ev:(best.map lY)[(v:Int).toNat]? = some (lY (el best v)):=by rw [Int.toNat_natCast,List.getElem?_map,I9 best v (by omega)]; rfl
    by_cases hls:nX (el best k) (el best v) = true
    ·refine ⟨(k:Int),?_,.inr ⟨k,rfl,hk,hneg,((NE _ _).1 hls).1⟩⟩
     show aZ n dues too sums l (best.map lY,last) v k = _
     unfold aZ
     simp only [if_pos c0,if_pos ck,ek,Option.bind_some,if_pos cn,if_neg ce,if_pos cg,if_pos cb,eb,if_pos cv,ev,U7,if_pos hls,w3]
    ·refine ⟨(v:Int),?_,.inr ⟨v,rfl,hv,hv1,hv2⟩⟩
     show aZ n dues too sums l (best.map lY,last) v k = _
     unfold aZ
     simp only [if_pos c0,if_pos ck,ek,Option.bind_some,if_pos cn,if_neg ce,if_pos cg,if_pos cb,eb,if_pos cv,ev,U7,if_neg hls,w3]
  ·have cn:¬ decide (el too k < 0) = true:=by simpa using hneg
   refine ⟨a,?_,?_⟩
   ·show aZ n dues too sums l (best.map lY,last) a k = _
    unfold aZ
    simp only [if_pos c0,if_pos ck,ek,Option.bind_some,if_neg cn,w3]
   ·rcases hI with ⟨h1,h2⟩ | q
    ·refine .inl ⟨h1,fun v hv hvn=>?_⟩
     by_cases e:v = k
     ·subst e; exact absurd hvn hneg
     ·exact h2 v (by omega) hvn
    ·exact .inr q
 ·intro a hI
  refine ⟨a,?_,hI⟩
  show aZ n dues too sums l (best.map lY,last) a n = _
  unfold aZ
  rw [if_neg (by simp)]
end
end Go.Proofs.Ytgjcnbgfaimepaa
