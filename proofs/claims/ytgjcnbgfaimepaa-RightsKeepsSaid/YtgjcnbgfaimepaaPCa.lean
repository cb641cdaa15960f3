/- Clearing: the search for the cheapest ways is rounds of relaxations. Clearing: cheapest finds the cheapest ways. Clearing: the steps of a clearing. Clearing: walking back along the last steps, and moving sums along them. Clearing: balancing. Clearing: which merchant with too little is next. -/
import Derived.Test.YtgjcnbgfaimepaaFn
import Derived.Test.YtgjcnbgfaimepaaLoops3
import Derived.Test.YtgjcnbgfaimepaaFlM
set_option linter.unusedVariables false
set_option linter.unusedSimpArgs false
namespace Go.Proofs.Ytgjcnbgfaimepaa
open Go.RowKit Vm
def aV (g:aC):eO:=⟨g.due,g.from_,g.to,g.cost,g.most,g.back⟩
def lK (a:RS):aD:=⟨a.c,a.k,a.fine⟩
theorem eN {α β:Type} [Inhabited α] [Inhabited β] (f:α->β) (l:List α) (i:Nat) (h:i < l.length):el (l.map f) i = f (el l i):=by
 simp [el,h]
theorem FP {α:Type} [Inhabited α] (l:List α) (i:Nat) (h:i < l.length):l[i]? = some (el l i):=by
 simp [el,h]
theorem dK {α:Type} [Inhabited α] (l:List α) (i:Nat) (h:i < l.length):at? l (i:Int) = some (el l i):=by
 rw [at?_nat]; exact FP l i h
theorem aKE {α β:Type} (f:α->β) (l:List α) (i:Nat) (x:α):(l.set i x).map f = (l.map f).set i (f x):=by
 rw [List.map_set]
def JA (n:Nat) (g:aC):Prop:=(0 <= g.from_ ∧ g.from_ < n) ∧ (0 <= g.to ∧ g.to < n) ∧ (-1 <= g.cost ∧ g.cost <= 1)
theorem aFv {a:RS} {g:aC} (h1:-4611686018427387904 <= a.c ∧ a.c <= 4611686018427387904) (h2:0 <= a.k ∧ a.k <= 4611686018427387904) (hc:-1 <= g.cost ∧ g.cost <= 1) :
  fS (lK a) g = some (lK (uO a (aV g))):=by
 unfold fS
 simp only [lK,uO,aV]
 rw [jM (by omega) (by omega),jM (by omega) (by omega)]
theorem VV (a b:RS):dX (lK a) (lK b) = some (nN a b):=by
 unfold dX
 simp only [lK,nN]
 by_cases h1:a.fine = true <;> by_cases h2:b.fine = true <;> by_cases h3:a.c < b.c <;> by_cases h4:a.c = b.c <;> simp [h1,h2,h3,h4] <;> exact decide_eq_decide.2 Iff.rfl
def RM (n:Nat) (B:Int) (best:List RS):Prop:=∀ v,v < n->-B <= (el best v).c ∧ (el best v).c <= B ∧ 0 <= (el best v).k ∧ (el best v).k <= B
theorem OU {n:Nat} {l:List aC} {best:List RS} {last:List Int} {B:Int} (hl:∀ g ∈ l,JA n g) (hb:best.length = n) (hla:last.length = n) (h:RM n B best) (hB:0 <= B):∀ k,k <= l.length ->
  (((List.range k).foldl (fX nN uO eO.src eO.dst (l.map aV)) (best,last,false)).1.length = n ∧ ((List.range k).foldl (fX nN uO eO.src eO.dst (l.map aV)) (best,last,false)).2.1.length = n ∧ RM n (B + k) ((List.range k).foldl (fX nN uO eO.src eO.dst (l.map aV)) (best,last,false)).1):=by
 intro k
 induction k with
 | zero=>intro _; exact ⟨hb,hla,by simpa using h⟩
 | succ k ih =>
  intro hk
  obtain ⟨h1,h2,h3⟩:=ih (by omega)
  rw [List.range_succ,List.foldl_append,List.foldl_cons,List.foldl_nil]
  generalize (List.range k).foldl (fX nN uO eO.src eO.dst (l.map aV)) (best,last,false) = z at *
  have hg:=hl (el l k) (by rw [show el l k = l[k] from by simp [el,show k < l.length by omega]]; exact List.getElem_mem _)
  obtain ⟨⟨g1,g2⟩,⟨g3,g4⟩,g5,g6⟩:=hg
  have hmono:RM n (B + (k + 1:Nat)) z.1:=fun v hv=>by have:=h3 v hv; omega
  unfold fX
  rw [eN aV l k (by omega)]
  split
  ·refine ⟨by simp [h1],by simp [h2],fun v hv=>?_⟩
   dsimp only
   rw [cE]
   split
   ·have:=h3 (el l k).from_.toNat (by omega)
    simp only [uO,aV,eO.src]
    omega
   ·exact hmono v hv
  ·exact ⟨h1,h2,hmono⟩
theorem ZH {n:Nat} {l:List aC} {best:List RS} {last:List Int} {B:Int} (hl:∀ g ∈ l,JA n g) (hb:best.length = n) (hla:last.length = n) (h:RM n B best) (hB:0 <= B) (hBl:B + l.length <= 4611686018427387904) :
  jB l false 0 (best.map lK) last = some ((n6 nN uO eO.src eO.dst (l.map aV) best last).2.2,(n6 nN uO eO.src eO.dst (l.map aV) best last).1.map lK,(n6 nN uO eO.src eO.dst (l.map aV) best last).2.1):=by
 unfold jB n6
 rw [List.length_map]
 suffices hh:∃ x,dE (fun (w:Bool × Int × List aD × List Int)=>c9 l w.1 w.2.1 w.2.2.1 w.2.2.2) (false,0,best.map lK,last) = some x ∧ x = (((List.range l.length).foldl (fX nN uO eO.src eO.dst (l.map aV)) (best,last,false)).2.2,((List.range l.length).foldl (fX nN uO eO.src eO.dst (l.map aV)) (best,last,false)).1.map lK,((List.range l.length).foldl (fX nN uO eO.src eO.dst (l.map aV)) (best,last,false)).2.1) by
  obtain ⟨x,h1,h2⟩:=hh
  rw [h2] at h1; exact h1
 refine iM (step:=fun (w:Bool × Int × List aD × List Int)=>c9 l w.1 w.2.1 w.2.2.1 w.2.2.2) (fun k (a:List RS × List Int × Bool)=>(a.2.2,(k:Int),a.1.map lK,a.2.1)) l.length
  (fun k a=>a = (List.range k).foldl (fX nN uO eO.src eO.dst (l.map aV)) (best,last,false)) (fun x=>x = (((List.range l.length).foldl (fX nN uO eO.src eO.dst (l.map aV)) (best,last,false)).2.2,((List.range l.length).foldl (fX nN uO eO.src eO.dst (l.map aV)) (best,last,false)).1.map lK,((List.range l.length).foldl (fX nN uO eO.src eO.dst (l.map aV)) (best,last,false)).2.1)) ?_ ?_ (best,last,false) rfl
 ·rintro k a hk rfl
  refine .inl ?_
  obtain ⟨q1,q2,q3⟩:=OU hl hb hla h hB k (by omega)
  rw [List.range_succ,List.foldl_append,List.foldl_cons,List.foldl_nil]
  generalize (List.range k).foldl (fX nN uO eO.src eO.dst (l.map aV)) (best,last,false) = z at *
  have hg:=hl (el l k) (by rw [show el l k = l[k] from by simp [el,hk]]; exact List.getElem_mem _)
  obtain ⟨⟨g1,g2⟩,⟨g3,g4⟩,g5,g6⟩:=hg
  refine ⟨_,?_,rfl⟩
  unfold c9
  rw [if_pos (by simpa using hk),dK l k hk,Option.bind_some]
  have e1:(z.1.map lK)[(el l k).from_.toNat]? = some (lK (el z.1 (el l k).from_.toNat)):=by rw [List.getElem?_map,FP z.1 _ (by omega)]; rfl
  have e2:(z.1.map lK)[(el l k).to.toNat]? = some (lK (el z.1 (el l k).to.toNat)):=by rw [List.getElem?_map,FP z.1 _ (by omega)]; rfl
  have b:=q3 (el l k).from_.toNat (by omega)
  rw [if_pos ⟨g1,by rw [List.length_map]; omega⟩,e1,Option.bind_some,aFv (by omega) (by omega) ⟨g5,g6⟩,Option.bind_some,if_pos ⟨g3,by rw [List.length_map]; omega⟩,e2,Option.bind_some,VV,Option.bind_some,FP z.2.1 _ (by omega),bW (by omega)]
  unfold fX
  rw [eN aV l k hk]
  have e3:eO.src (aV (el l k)) = (el l k).from_.toNat:=rfl
  have e4:eO.dst (aV (el l k)) = (el l k).to.toNat:=rfl
  rw [e3,e4]
  split
  ·rename_i hc
   have c1:0 <= (el l k).to ∧ (el l k).to.toNat < (z.1.map lK).length:=⟨g3,by rw [List.length_map]; omega⟩
   have c2:0 <= (el l k).to ∧ (el l k).to.toNat < z.2.1.length:=⟨g3,by omega⟩
   simp only [if_pos c1,if_pos c2,Option.bind_some,aKE,e2]
  ·rfl
 ·rintro a rfl
  refine ⟨_,?_,rfl⟩
  unfold c9
  rw [if_neg (by simp)]
end Go.Proofs.Ytgjcnbgfaimepaa
namespace Go.Proofs.Ytgjcnbgfaimepaa
open Go.RowKit Vm
theorem RG {n:Nat} {l:List aC} (hl:∀ g ∈ l,JA n g):∀ (f:Nat) (best:List RS) (last:List Int) (B:Int) (b:List RS) (la:List Int),best.length = n->last.length = n->RM n B best->0 <= B->B + (f * l.length:Nat) <= 4611686018427387904 ->
  R6 nN uO eO.src eO.dst (l.map aV) f best last = some (b,la)->jA l true (best.map lK) last = some (b.map lK,la)
 | 0,best,last,B,b,la,_,_,_,_,_,h=>by cases h
 | f + 1,best,last,B,b,la,hb,hla,hB,hB0,hBf,h=>by
  have hmul:(f + 1) * l.length = f * l.length + l.length:=Nat.succ_mul f l.length
  have hr:=ZH hl hb hla hB hB0 (by omega)
  obtain ⟨q1,q2,q3⟩:=OU hl hb hla hB hB0 l.length (Nat.le_refl _)
  have e0:n6 nN uO eO.src eO.dst (l.map aV) best last = (List.range l.length).foldl (fX nN uO eO.src eO.dst (l.map aV)) (best,last,false):=by unfold n6; rw [List.length_map]
  rw [← e0] at q1 q2 q3
  simp only [R6] at h
  generalize n6 nN uO eO.src eO.dst (l.map aV) best last = z at *
  unfold jA
  rw [oK (s':=(z.2.2,z.1.map lK,z.2.1)) (by unfold eZ; rw [if_pos rfl,hr]; rfl)]
  split at h
  ·rename_i hc
   rw [hc]
   exact RG hl f z.1 z.2.1 (B + l.length) b la q1 q2 q3 (by omega) (by omega) h
  ·rename_i hc
   cases h
   exact lI (by unfold eZ; exact if_neg hc)
def NK (n:Nat) (too:List Int):List RS:=(List.range n).map fun v=>⟨0,0,decide (el too v > 0)⟩
theorem BA (n:Nat) (too:List Int):(NK n too).length = n:=by simp [NK]
theorem NP {n:Nat} (too:List Int) {v:Nat} (h:v < n):el (NK n too) v = ⟨0,0,decide (el too v > 0)⟩:=by
 simp [NK,el,h]
theorem CA {α:Type} [Inhabited α] {a b:List α} (h:a.length = b.length) (he:∀ i,i < a.length->el a i = el b i):a = b:=by
 apply List.ext_getElem h
 intro i h1 h2
 have:=he i h1
 simpa [el,h1,h2] using this
theorem aB6 {n:Nat} (hn:n <= 100000) (l:List aC) {too:List Int} (ht:too.length = n):jC n l too 0 (List.replicate n ((aD.mk 0 0 false):aD)) = some ((NK n too).map lK):=by
 unfold jC
 suffices hh:∃ x,dE (fun (w:Int × List aD)=>bX n l too w.1 w.2) (0,List.replicate n ((aD.mk 0 0 false):aD)) = some x ∧ x = (NK n too).map lK by
  obtain ⟨x,h1,h2⟩:=hh
  rw [h2] at h1; exact h1
 refine iM (step:=fun (w:Int × List aD)=>bX n l too w.1 w.2) (fun k (a:List aD)=>((k:Int),a)) n
  (fun k a=>a.length = n ∧ ∀ v,v < n->el a v = if v < k then (aD.mk 0 0 (decide (el too v > 0)):aD) else (aD.mk 0 0 false:aD)) _ ?_ ?_ _ ?_
 ·rintro k a hk ⟨h1,h2⟩
  refine .inl ⟨a.set k (aD.mk 0 0 (decide (el too k > 0))),?_,by simp [h1],fun v hv=>?_⟩
  ·show bX n l too k a = _
   unfold bX
   rw [if_pos (by simpa using hk),dK too k (by omega),Option.bind_some,if_pos ⟨by omega,by rw [Int.toNat_natCast]; omega⟩,Int.toNat_natCast,FP a k (by omega),Option.bind_some,bW (by omega),h2 k hk,if_neg (Nat.lt_irrefl k)]
  ·rw [cE,h2 v hv]
   by_cases e:v = k
   ·subst e
    rw [if_pos ⟨rfl,by omega⟩,if_pos (Nat.lt_succ_self _)]
   ·rw [if_neg fun q=>e q.1]
    by_cases c:v < k
    ·rw [if_pos c,if_pos (by omega)]
    ·rw [if_neg c,if_neg (by omega)]
 ·rintro a ⟨h1,h2⟩
  refine ⟨a,?_,?_⟩
  ·show bX n l too n a = _
   unfold bX
   rw [if_neg (by simp)]
  ·refine CA (by rw [h1,List.length_map,BA]) fun v hv=>?_
   rw [h1] at hv
   rw [h2 v hv,if_pos hv,eN lK _ _ (by rw [BA]; exact hv),NP too hv]
   rfl
 ·refine ⟨List.length_replicate,fun v hv=>?_⟩
  rw [if_neg (Nat.not_lt_zero _),jD _ _ _ hv]
theorem aPj {n:Nat} (hn:n <= 100000):fP [-1] (n:Int) = some (List.replicate n (-1)):=by
 show (if 0 <= (n:Int) ∧ (n:Int) <= 100000 then some (List.replicate (n:Int).toNat (-1:Int)) else none) = _
 rw [if_pos (by omega),Int.toNat_natCast]
theorem aCY {n:Nat} (hn:n <= 1000) {l:List aC} (hl:∀ g ∈ l,JA n g) (hll:l.length <= 100000) {too:List Int} (ht:too.length = n) {p:Nat->Int} (hp:Pot eO.src eO.dst eO.cost (l.map aV) p) :
  ∃ (best:List RS) (last:List Int),fG n l too = some (best.map lK,last) ∧ best.length = n ∧ last.length = n ∧
   QQ n (l.map aV) (fun v=>(el best v).fine = true) (fun v=>decide (el too v > 0) = true) (fun v=>(el best v).c) (fun v=>(el best v).k.toNat) last:=by
 have hs:∀ i,i < (l.map aV).length->(el (l.map aV) i).src < n ∧ (el (l.map aV) i).dst < n:=by
  intro i hi
  rw [List.length_map] at hi
  rw [eN aV l i hi]
  have hg:=hl (el l i) (by rw [show el l i = l[i] from by simp [el,hi]]; exact List.getElem_mem _)
  obtain ⟨⟨g1,g2⟩,⟨g3,g4⟩,g5,g6⟩:=hg
  simp only [eO.src,eO.dst,aV]
  omega
 obtain ⟨best,last,h1,h2,h3,h4⟩:=aCb hp (fun v=>decide (el too v > 0)) hs (BA n too) (fun v hv=>NP too hv) (fuel:=n + 1) (Nat.le_refl _)
 refine ⟨best,last,?_,h2,h3,h4⟩
 unfold fG
 have hmul:(n + 1) * l.length <= 1001 * 100000:=Nat.mul_le_mul (by omega) hll
 rw [if_pos (by omega),Int.toNat_natCast,aB6 (by omega) l ht,Option.bind_some,List.length_map,BA]
 rw [aPj (by omega),Option.bind_some,RG hl (n + 1) _ _ 0 best last (BA n too) (by simp) (fun v hv=>by rw [NP too hv]; simp) (by omega) (by omega) h1]
 rfl
end Go.Proofs.Ytgjcnbgfaimepaa
namespace Go.Proofs.Ytgjcnbgfaimepaa
open Go.RowKit Vm
structure I1 (n:Nat) (dues:List aF):Prop where
 nn:n <= 40
 len:dues.length <= 100
 each:∀ i,i < dues.length->(0 <= (el dues i).From ∧ (el dues i).From < n) ∧ (0 <= (el dues i).To ∧ (el dues i).To < n) ∧ (el dues i).From ≠ (el dues i).To ∧ 1 <= (el dues i).Sum ∧ (el dues i).Sum <= 1099511627776
def k9 (dues:List aF) (i:Nat):Nat:=(el dues i).From.toNat
def mD (dues:List aF) (i:Nat):Nat:=(el dues i).To.toNat
def qQ (dues:List aF) (i:Nat):Int:=(el dues i).Sum
def GV (dues:List aF) (x:Nat->Int) (i:Nat) (b:Bool):aC :=
 ⟨i,if b = true then (el dues i).To else (el dues i).From,if b = true then (el dues i).From else (el dues i).To,if b = true then 1 else -1,if b = true then x i else (el dues i).Sum - x i,b⟩
def Q9 (dues:List aF) (x:Nat->Int) (i:Nat):List aC :=
 (if x i < (el dues i).Sum then [GV dues x i false] else []) ++ (if x i > 0 then [GV dues x i true] else [])
def gF (dues:List aF) (x:Nat->Int) (m:Nat):List aC:=(List.range m).flatMap (Q9 dues x)
theorem aEh (dues:List aF) (x:Nat->Int) (i:Nat):(Q9 dues x i).length <= 2:=by
 unfold Q9
 rw [List.length_append]
 split <;> split <;> simp
theorem OM (dues:List aF) (x:Nat->Int) (m:Nat):gF dues x (m + 1) = gF dues x m ++ Q9 dues x m:=by
 simp [gF,List.range_succ,List.flatMap_append]
theorem xJ (dues:List aF) (x:Nat->Int):∀ m,(gF dues x m).length <= 2 * m
 | 0=>by simp [gF]
 | m + 1=>by
  have:=xJ dues x m
  have:=aEh dues x m
  rw [OM,List.length_append]; omega
section
variable {n:Nat} {dues:List aF} {sums:List Int}
theorem I1.fr (h:I1 n dues):∀ i,i < dues.length->k9 dues i < n:=fun i hi=>by have:=h.each i hi; unfold k9; omega
theorem I1.tt (h:I1 n dues):∀ i,i < dues.length->mD dues i < n:=fun i hi=>by have:=h.each i hi; unfold mD; omega
theorem PJ (h:I1 n dues) (hl:sums.length = dues.length) (hr:InR (qQ dues) dues.length (el sums)):dS dues sums = some (gF dues (el sums) dues.length):=by
 unfold dS qA
 suffices hh:∃ x,dE (fun (w:Int × List aC)=>cR dues sums w.1 w.2) (0,[]) = some x ∧ x = gF dues (el sums) dues.length by
  obtain ⟨x,h1,h2⟩:=hh
  rw [h1,h2]; rfl
 have hlen:=h.len
 refine iM (step:=fun (w:Int × List aC)=>cR dues sums w.1 w.2) (fun k (a:List aC)=>((k:Int),a)) dues.length (fun k a=>a = gF dues (el sums) k) _ ?_ ?_ _ rfl
 ·rintro k a hk rfl
  refine .inl ⟨gF dues (el sums) (k + 1),?_,rfl⟩
  have hsl:=xJ dues (el sums) k
  have hx:=hr k hk
  have hd:=h.each k hk
  unfold qQ at hx
  show cR dues sums k (gF dues (el sums) k) = _
  unfold cR
  rw [if_pos (by simpa using hk),dK dues k hk,Option.bind_some,dK sums k (by omega),Option.bind_some,bW (by omega),OM]
  have hj:∀ L:List aC,L.length <= 2 * k + 1->jJ dues sums k (el dues k) L = some (L ++ if el sums k > 0 then [GV dues (el sums) k true] else []):=by
   intro L hL
   unfold jJ
   rw [dK sums k (by omega),Option.bind_some]
   by_cases c:el sums k > 0
   ·rw [if_pos (by simpa using c),if_pos c,Option.bind_some,if_pos (by omega)]; rfl
   ·rw [if_neg (by simpa using c),if_neg c,List.append_nil]
  by_cases c:el sums k < (el dues k).Sum
  ·rw [if_pos (by simpa using c),Option.bind_some,if_pos (by omega),jM (by omega) (by omega),hj _ (by simp; omega),Option.bind_some]
   unfold Q9
   rw [if_pos c,← List.append_assoc]; rfl
  ·rw [if_neg (by simpa using c),hj _ (by omega),Option.bind_some]
   unfold Q9
   rw [if_neg c,List.nil_append]
 ·rintro a rfl
  refine ⟨_,?_,rfl⟩
  show cR dues sums dues.length _ = _
  unfold cR
  rw [if_neg (by simp)]
theorem xY {x:Nat->Int} {m:Nat} {g:aC}:g ∈ gF dues x m ↔ ∃ i b,i < m ∧ g = GV dues x i b ∧ 0 < (GV dues x i b).most:=by
 unfold gF Q9
 rw [List.mem_flatMap]
 constructor
 ·rintro ⟨i,hi,hg⟩
  rw [List.mem_range] at hi
  rcases List.mem_append.1 hg with q | q
  ·split at q
   ·rename_i c
    exact ⟨i,false,hi,by simpa using q,by simp [GV]; omega⟩
   ·cases q
  ·split at q
   ·rename_i c
    exact ⟨i,true,hi,by simpa using q,by simp [GV]; omega⟩
   ·cases q
 ·rintro ⟨i,b,hi,rfl,hm⟩
  refine ⟨i,List.mem_range.2 hi,List.mem_append.2 ?_⟩
  cases b
  ·left
   have:x i < (el dues i).Sum:=by simp [GV] at hm; omega
   rw [if_pos this]; simp
  ·right
   have:x i > 0:=by simpa [GV] using hm
   rw [if_pos this]; simp
theorem rT (h:I1 n dues) {x:Nat->Int} {i:Nat} (hi:i < dues.length) (b:Bool):aV (GV dues x i b) = G7 (k9 dues) (mD dues) (qQ dues) x WD i b:=by
 have:=h.each i hi
 cases b <;> simp [aV,GV,G7,k9,mD,qQ,WD] <;> omega
theorem L0 (h:I1 n dues) (x:Nat->Int):qG (k9 dues) (mD dues) (qQ dues) dues.length x (fun _ _=>True) WD ((gF dues x dues.length).map aV):=by
 constructor
 ·intro k hk
  rw [List.length_map] at hk
  rw [eN aV _ k hk]
  obtain ⟨i,b,hi,e,hm⟩:=xY.1 (show el (gF dues x dues.length) k ∈ gF dues x dues.length by rw [show el (gF dues x dues.length) k = (gF dues x dues.length)[k] from by simp [el,hk]]; exact List.getElem_mem _)
  refine ⟨i,b,hi,trivial,?_,by rw [e,rT h hi]⟩
  rw [← rT h hi]
  exact hm
 ·intro i b hi _ hm
  rw [← rT h hi] at hm
  have:=(xY (dues:=dues) (x:=x) (m:=dues.length)).2 ⟨i,b,hi,rfl,hm⟩
  obtain ⟨k,hk,e⟩:=List.mem_iff_getElem.1 this
  refine ⟨k,by rw [List.length_map]; exact hk,?_⟩
  rw [eN aV _ k hk,← rT h hi,← e]
  simp [el,hk]
theorem MH (h:I1 n dues) (x:Nat->Int):∀ g ∈ gF dues x dues.length,JA n g:=by
 intro g hg
 obtain ⟨i,b,hi,rfl,_⟩:=xY.1 hg
 have:=h.each i hi
 cases b <;> simp [JA,GV] <;> omega
end
end Go.Proofs.Ytgjcnbgfaimepaa
namespace Go.Proofs.Ytgjcnbgfaimepaa
open Go.RowKit Vm
def PW (l:List aC) (a:Int) (ks:List Nat):Int:=ks.foldl (fun a k=>if (el l k).most < a then (el l k).most else a) a
theorem VD (l:List aC):∀ (ks:List Nat) (a:Int),PW l a ks <= a ∧ ∀ k ∈ ks,PW l a ks <= (el l k).most
 | [],a=>⟨Int.le_refl _,fun k h=>by cases h⟩
 | k :: ks,a=>by
  obtain ⟨h1,h2⟩:=VD l ks (if (el l k).most < a then (el l k).most else a)
  have e:PW l a (k :: ks) = PW l (if (el l k).most < a then (el l k).most else a) ks:=rfl
  rw [e]
  have hc:(if (el l k).most < a then (el l k).most else a) <= a ∧ (if (el l k).most < a then (el l k).most else a) <= (el l k).most:=by split <;> omega
  refine ⟨by omega,fun j hj=>?_⟩
  rcases List.mem_cons.1 hj with rfl | hj
  ·omega
  ·exact h2 j hj
theorem RO (l:List aC):∀ (ks:List Nat) (a:Int),0 < a->(∀ k ∈ ks,0 < (el l k).most)->0 < PW l a ks
 | [],a,h,_=>h
 | k :: ks,a,h,hk=>by
  have e:PW l a (k :: ks) = PW l (if (el l k).most < a then (el l k).most else a) ks:=rfl
  rw [e]
  refine RO l ks _ ?_ fun j hj=>hk j (List.mem_cons_of_mem _ hj)
  have:=hk k (List.mem_cons_self ..)
  split <;> omega
section
variable {n:Nat} {l:List aC} {last:List Int}
theorem IK {v k:Nat} (hv:v < last.length) (hl:el last v = (k:Int)) (hk:k < l.length):last[(v:Int).toNat]? = some (k:Int) ∧ l[(k:Int).toNat]? = some (el l k):=by
 rw [Int.toNat_natCast,Int.toNat_natCast,FP last v hv,FP l k hk,hl]
 exact ⟨rfl,rfl⟩
theorem VJ {k:Nat} (hl:∀ g ∈ l,JA n g) (hk:k < l.length):(el (l.map aV) k).src < n ∧ (el l k).from_ = ((el (l.map aV) k).src:Nat):=by
 rw [eN aV l k hk]
 have hg:=hl (el l k) (by rw [show el l k = l[k] from by simp [el,hk]]; exact List.getElem_mem _)
 obtain ⟨⟨g1,g2⟩,_⟩:=hg
 simp only [eO.src,aV]
 omega
theorem aGD (hl:∀ g ∈ l,JA n g) (hla:last.length = n) (a0:Int) (a1:List aF) (p12 p13:List Int) (best:List aD) (r27:Int) {v u:Nat} {ks:List Nat} (w:Pth (l.map aV) last v ks u):v < n->∀ most:Int,fH a0 a1 p12 p13 l (best,last) r27 most v = some (PW l most ks,(u:Int)):=by
 induction w with
 | nil v hv =>
  intro hvn most
  unfold fH
  refine lI ?_
  show dH a0 a1 p12 p13 l (best,last) r27 most v = _
  unfold dH
  dsimp only
  rw [if_pos ⟨by omega,by rw [Int.toNat_natCast]; omega⟩,Int.toNat_natCast,FP last v (by omega),hv]
  rfl
 | @cons v k u ks hk hlv hd w ih =>
  intro hvn most
  rw [List.length_map] at hk
  obtain ⟨q1,q2⟩:=VJ hl hk
  obtain ⟨b1,b2⟩:=IK (l:=l) (last:=last) (by omega:v < last.length) hlv hk
  unfold fH
  rw [oK (s':=((if (el l k).most < most then (el l k).most else most),(el l k).from_)) ?_]
  ·have:=ih q1 (if (el l k).most < most then (el l k).most else most)
   unfold fH at this
   rw [q2]
   exact this
  ·show dH a0 a1 p12 p13 l (best,last) r27 most v = _
   unfold dH
   dsimp only
   have cv:0 <= (v:Int) ∧ (v:Int).toNat < last.length:=⟨by omega,by rw [Int.toNat_natCast]; omega⟩
   have ck:0 <= (k:Int) ∧ (k:Int).toNat < l.length:=⟨by omega,by rw [Int.toNat_natCast]; exact hk⟩
   have cg:decide ((k:Int) ≥ 0) = true:=by simp
   simp only [if_pos cv,if_pos ck,b1,b2,Option.bind_some,if_pos cg]
theorem aCR (hl:∀ g ∈ l,JA n g) (hla:last.length = n) (a0:Int) (a1:List aF) (a3:List Int) (a4:Int) (p5:List Int) (best:List aD) {v u:Nat} {ks:List Nat} (w:Pth (l.map aV) last v ks u):v < n->∀ most:Int,gM a0 a1 a3 a4 p5 l (best,last) most v = some (PW l most ks):=by
 induction w with
 | nil v hv =>
  intro hvn most
  unfold gM
  refine lI ?_
  show dZ a0 a1 a3 a4 p5 l (best,last) most v = _
  unfold dZ
  dsimp only
  rw [if_pos ⟨by omega,by rw [Int.toNat_natCast]; omega⟩,Int.toNat_natCast,FP last v (by omega),hv]
  rfl
 | @cons v k u ks hk hlv hd w ih =>
  intro hvn most
  rw [List.length_map] at hk
  obtain ⟨q1,q2⟩:=VJ hl hk
  obtain ⟨b1,b2⟩:=IK (l:=l) (last:=last) (by omega:v < last.length) hlv hk
  unfold gM
  rw [oK (s':=((if (el l k).most < most then (el l k).most else most),(el l k).from_)) ?_]
  ·have:=ih q1 (if (el l k).most < most then (el l k).most else most)
   unfold gM at this
   rw [q2]
   exact this
  ·show dZ a0 a1 a3 a4 p5 l (best,last) most v = _
   unfold dZ
   dsimp only
   have cv:0 <= (v:Int) ∧ (v:Int).toNat < last.length:=⟨by omega,by rw [Int.toNat_natCast]; omega⟩
   have ck:0 <= (k:Int) ∧ (k:Int).toNat < l.length:=⟨by omega,by rw [Int.toNat_natCast]; exact hk⟩
   have cg:decide ((k:Int) ≥ 0) = true:=by simp
   simp only [if_pos cv,if_pos ck,b1,b2,Option.bind_some,if_pos cg]
theorem aK9 {g:aC} {x:List Int} {d B D:Int} (h0:0 <= g.due) (hd:g.due.toNat < x.length) (hx:∀ i,-B <= el x i ∧ el x i <= B) (hd0:0 <= d) (hdD:d <= D) (hB:B + D <= 4611686018427387904) :
  d7 g x d = some (x.set g.due.toNat (el x g.due.toNat + WY (aV g) d)):=by
 have hj:∀ e:Int,-D <= e->e <= D->eV g x e = some (x.set g.due.toNat (el x g.due.toNat + e)):=by
  intro e h1 h2
  have:=hx g.due.toNat
  unfold eV
  rw [if_pos ⟨h0,hd⟩,FP x _ hd,Option.bind_some,if_pos ⟨h0,hd⟩,Option.bind_some,jM (by omega) (by omega)]
 unfold d7
 have hB0:=hx 0
 by_cases c:g.back = true
 ·rw [if_pos c,jM (by omega) (by omega),hj _ (by omega) (by omega),Option.bind_some]
  simp [WY,aV,c]
 ·rw [if_neg c,hj _ (by omega) hdD,Option.bind_some]
  simp [WY,aV,c]
theorem TY {x:List Int} {i:Nat} {a B D:Int} (hx:∀ i,-B <= el x i ∧ el x i <= B) (h1:-(B + D) <= a) (h2:a <= B + D) (hD:0 <= D):∀ j,-(B + D) <= el (x.set i a) j ∧ el (x.set i a) j <= B + D:=by
 intro j
 rw [cE]
 have:=hx j
 split <;> omega
theorem aFy (hl:∀ g ∈ l,JA n g) (hla:last.length = n) {m:Nat} (hdue:∀ g ∈ l,0 <= g.due ∧ g.due < m) (a0:Int) (a1:List aF) (p12:List Int) (best:List aD) (r27:Int) (r38:Int × Int) (x39:Int) {D:Int} (hd0:0 <= (if x39 < r38.1 then x39 else r38.1)) (hdD:(if x39 < r38.1 then x39 else r38.1) <= D) {v u:Nat} {ks:List Nat} (w:Pth (l.map aV) last v ks u):v < n->∀ (x:List Int) (B:Int),x.length = m->(∀ i,-B <= el x i ∧ el x i <= B)->B + (ks.length:Int) * D <= 4611686018427387904 ->
  fF a0 a1 p12 l (best,last) r27 r38 x39 v x = some (CS (l.map aV) (if x39 < r38.1 then x39 else r38.1) x ks):=by
 induction w with
 | nil v hv =>
  intro hvn x B hxm hx hB
  unfold fF
  refine lI ?_
  show dG a0 a1 p12 l (best,last) r27 r38 x39 v x = _
  unfold dG
  dsimp only
  rw [if_pos ⟨by omega,by rw [Int.toNat_natCast]; omega⟩,Int.toNat_natCast,FP last v (by omega),hv]
  rfl
 | @cons v k u ks hk hlv hd w ih =>
  intro hvn x B hxm hx hB
  rw [List.length_map] at hk
  obtain ⟨q1,q2⟩:=VJ hl hk
  obtain ⟨b1,b2⟩:=IK (l:=l) (last:=last) (by omega:v < last.length) hlv hk
  have hg:=hdue (el l k) (by rw [show el l k = l[k] from by simp [el,hk]]; exact List.getElem_mem _)
  have hD0:0 <= D:=by omega
  have hks:((k :: ks).length:Int) * D = (ks.length:Int) * D + D:=by
   rw [List.length_cons]; rw [show ((ks.length + 1:Nat):Int) = (ks.length:Int) + 1 by omega,Int.add_mul,Int.one_mul]
  have hpos:0 <= (ks.length:Int) * D:=Int.mul_nonneg (by omega) hD0
  have hmv:=aK9 (g:=el l k) (x:=x) (B:=B) hg.1 (by omega) hx hd0 hdD (by omega)
  unfold fF
  rw [oK (s':=((el l k).from_,x.set (el l k).due.toNat (el x (el l k).due.toNat + WY (aV (el l k)) (if x39 < r38.1 then x39 else r38.1)))) ?_]
  ·have hsg:-D <= WY (aV (el l k)) (if x39 < r38.1 then x39 else r38.1) ∧ WY (aV (el l k)) (if x39 < r38.1 then x39 else r38.1) <= D:=by unfold WY; split <;> omega
   have hxd:=hx (el l k).due.toNat
   have:=ih q1 (x.set (el l k).due.toNat (el x (el l k).due.toNat + WY (aV (el l k)) (if x39 < r38.1 then x39 else r38.1))) (B + D) (by rw [List.length_set]; exact hxm) (TY hx (by omega) (by omega) hD0) (by omega)
   unfold fF at this
   rw [q2,this,CS,eN aV l k hk]
   rfl
  ·show dG a0 a1 p12 l (best,last) r27 r38 x39 v x = _
   unfold dG
   dsimp only
   have cv:0 <= (v:Int) ∧ (v:Int).toNat < last.length:=⟨by omega,by rw [Int.toNat_natCast]; omega⟩
   have ck:0 <= (k:Int) ∧ (k:Int).toNat < l.length:=⟨by omega,by rw [Int.toNat_natCast]; exact hk⟩
   have cg:decide ((k:Int) ≥ 0) = true:=by simp
   simp only [if_pos cv,if_pos ck,b1,b2,Option.bind_some,if_pos cg,hmv]
end
end Go.Proofs.Ytgjcnbgfaimepaa
namespace Go.Proofs.Ytgjcnbgfaimepaa
open Go.RowKit Vm
theorem AC (fr tt:Nat->Nat) (k:Nat) (x:Nat->Int) (v:Nat):netF fr tt (k + 1) x v = netF fr tt k x v + ((if tt k = v then x k else 0) - (if fr k = v then x k else 0)):=rfl
theorem FA {fr tt:Nat->Nat} {x:Nat->Int} {S:Int} (hS:0 <= S):∀ k,(∀ i,i < k->0 <= x i ∧ x i <= S)->∀ v,-((k:Int) * S) <= netF fr tt k x v ∧ netF fr tt k x v <= (k:Int) * S
 | 0,_,v=>by simp [netF,fU]
 | k + 1,h,v=>by
  have:=FA hS k (fun i hi=>h i (by omega)) v (fr:=fr) (tt:=tt)
  have hk:=h k (by omega)
  rw [AC,show ((k + 1:Nat):Int) * S = (k:Int) * S + S by rw [show ((k + 1:Nat):Int) = (k:Int) + 1 by omega,Int.add_mul,Int.one_mul]]
  split <;> split <;> omega
section
variable {n:Nat} {dues:List aF} {sums:List Int}
def ER (n:Nat) (dues:List aF) (x:Nat->Int):List Int:=(List.range n).map fun v=>netF (k9 dues) (mD dues) dues.length x v
theorem DL (x:Nat->Int):(ER n dues x).length = n:=by simp [ER]
theorem L4 (x:Nat->Int) {v:Nat} (hv:v < n):el (ER n dues x) v = netF (k9 dues) (mD dues) dues.length x v:=by simp [ER,el,hv]
theorem aQc (h:I1 n dues) (hl:sums.length = dues.length) (hr:InR (qQ dues) dues.length (el sums)):jP n dues sums 0 (List.replicate n (0:Int)) = some (ER n dues (el sums)):=by
 unfold jP
 suffices hh:∃ x,dE (fun (w:Int × List Int)=>cA n dues sums w.1 w.2) (0,List.replicate n (0:Int)) = some x ∧ x = ER n dues (el sums) by
  obtain ⟨x,h1,h2⟩:=hh
  rw [h1,h2]
 have hlen:=h.len
 have hS:∀ i,i < dues.length->0 <= el sums i ∧ el sums i <= 1099511627776:=fun i hi=>by have:=hr i hi; have:=h.each i hi; unfold qQ at *; omega
 refine iM (step:=fun (w:Int × List Int)=>cA n dues sums w.1 w.2) (fun k (a:List Int)=>((k:Int),a)) dues.length (fun k a=>a.length = n ∧ ∀ v,v < n->el a v = netF (k9 dues) (mD dues) k (el sums) v) _ ?_ ?_ _ ⟨List.length_replicate,fun v hv=>by rw [jD _ _ _ hv]; rfl⟩
 ·rintro k a hk ⟨h1,h2⟩
  obtain ⟨⟨f1,f2⟩,⟨t1,t2⟩,hne,_⟩:=h.each k hk
  have hx:=hS k hk
  have hb:=FA (fr:=k9 dues) (tt:=mD dues) (x:=el sums) (S:=1099511627776) (by omega) k fun i hi=>hS i (by omega)
  have hk100:(k:Int) * 1099511627776 <= 100 * 1099511627776:=by omega
  have hT:(el dues k).To.toNat < n:=by omega
  have hF:(el dues k).From.toNat < n:=by omega
  have bT:=hb (el dues k).To.toNat
  have bF:=hb (el dues k).From.toNat
  have hnf:¬ (el dues k).From.toNat = (el dues k).To.toNat:=by omega
  refine .inl ⟨(a.set (el dues k).To.toNat (el a (el dues k).To.toNat + el sums k)).set (el dues k).From.toNat (el a (el dues k).From.toNat - el sums k),?_,by simp [h1],fun v hv=>?_⟩
  ·show cA n dues sums k a = _
   unfold cA
   have c0:decide ((k:Int) < (dues.length:Int)) = true:=by simpa using hk
   have cT:0 <= (el dues k).To ∧ (el dues k).To.toNat < a.length:=⟨t1,by omega⟩
   have ck:0 <= (k:Int) ∧ (k:Int).toNat < sums.length:=⟨by omega,by rw [Int.toNat_natCast]; omega⟩
   have eS:sums[(k:Int).toNat]? = some (el sums k):=by rw [Int.toNat_natCast]; exact FP sums k (by omega)
   have eT:a[(el dues k).To.toNat]? = some (el a (el dues k).To.toNat):=FP a _ (by omega)
   have w1:IntKind.wrap .i64 (el a (el dues k).To.toNat + el sums k) = el a (el dues k).To.toNat + el sums k:=jM (by rw [h2 _ hT]; omega) (by rw [h2 _ hT]; omega)
   have cF:0 <= (el dues k).From ∧ (el dues k).From.toNat < (a.set (el dues k).To.toNat (el a (el dues k).To.toNat + el sums k)).length:=⟨f1,by rw [List.length_set]; omega⟩
   have eF:(a.set (el dues k).To.toNat (el a (el dues k).To.toNat + el sums k))[(el dues k).From.toNat]? = some (el a (el dues k).From.toNat):=by
    rw [FP _ _ (by rw [List.length_set]; omega),cE,if_neg fun q=>hnf q.1]
   have w2:IntKind.wrap .i64 (el a (el dues k).From.toNat - el sums k) = el a (el dues k).From.toNat - el sums k:=jM (by rw [h2 _ hF]; omega) (by rw [h2 _ hF]; omega)
   have w3:IntKind.wrap .i64 ((k:Int) + 1) = ((k + 1:Nat):Int):=bW (by omega)
   simp only [if_pos c0,dK dues k hk,Option.bind_some,if_pos cT,eT,if_pos ck,eS,w1,if_pos cF,eF,w2,w3]
  ·rw [AC,cE,List.length_set]
   unfold mD k9
   have h2v:=h2 v hv
   unfold mD k9 at h2v
   by_cases e1:v = (el dues k).From.toNat
   ·have e2:¬ (el dues k).To.toNat = v:=by omega
    rw [if_pos ⟨e1,by omega⟩,if_neg e2,if_pos e1.symm,← e1,h2v]; omega
   ·have e1' : ¬ (el dues k).From.toNat = v:=fun q=>e1 q.symm
    have e1'' : ¬ (v = (el dues k).From.toNat ∧ (el dues k).From.toNat < a.length):=fun q=>e1 q.1
    rw [if_neg e1'',if_neg e1',cE]
    by_cases e2:v = (el dues k).To.toNat
    ·rw [if_pos ⟨e2,by omega⟩,if_pos e2.symm,← e2,h2v]; omega
    ·have e2' : ¬ (el dues k).To.toNat = v:=fun q=>e2 q.symm
     have e2'' : ¬ (v = (el dues k).To.toNat ∧ (el dues k).To.toNat < a.length):=fun q=>e2 q.1
     rw [if_neg e2'',if_neg e2',h2v]; omega
 ·rintro a ⟨h1,h2⟩
  refine ⟨a,?_,CA (by rw [h1,DL]) fun v hv=>by rw [h1] at hv; rw [h2 v hv,L4 _ hv]⟩
  show cA n dues sums dues.length a = _
  unfold cA
  rw [if_neg (by simp)]
end
end Go.Proofs.Ytgjcnbgfaimepaa
namespace Go.Proofs.Ytgjcnbgfaimepaa
open Go.RowKit Vm
section
variable {n:Nat} {dues:List aF} {sums:List Int}
theorem aSx (hn:n <= 1000) {too:List Int} (ht:too.length = n) {best:List RS} (hb:best.length = n) (last:List Int) (l:List aC):∃ e:Int,jT n dues too sums l (best.map lK,last) (-1) 0 = some e ∧
  ((e = -1 ∧ ∀ v,v < n->el too v < 0->(el best v).fine = false) ∨ ∃ v:Nat,e = v ∧ v < n ∧ el too v < 0 ∧ (el best v).fine = true):=by
 unfold jT
 refine iM (step:=fun (w:Int × Int)=>aW n dues too sums l (best.map lK,last) w.1 w.2) (fun k (a:Int)=>(a,(k:Int))) n
  (fun k a=>(a = -1 ∧ ∀ v,v < k->el too v < 0->(el best v).fine = false) ∨ ∃ v:Nat,a = v ∧ v < n ∧ el too v < 0 ∧ (el best v).fine = true) _ ?_ ?_ _ (.inl ⟨rfl,fun v hv=>absurd hv (Nat.not_lt_zero _)⟩)
 ·intro k a hk hI
  refine .inl ?_
  have c0:decide ((k:Int) < (n:Int)) = true:=by simpa using hk
  have ck:0 <= (k:Int) ∧ (k:Int).toNat < too.length:=⟨by omega,by rw [Int.toNat_natCast]; omega⟩
  have ek:too[(k:Int).toNat]? = some (el too k):=by rw [Int.toNat_natCast]; exact FP too k (by omega)
  have cb:0 <= (k:Int) ∧ (k:Int).toNat < (best.map lK).length:=⟨by omega,by rw [Int.toNat_natCast,List.length_map]; omega⟩
  have eb:(best.map lK)[(k:Int).toNat]? = some (lK (el best k)):=by rw [Int.toNat_natCast,List.getElem?_map,FP best k (by omega)]; rfl
  have w3:IntKind.wrap .i64 ((k:Int) + 1) = ((k + 1:Nat):Int):=bW (by omega)
  have hfine:(lK (el best k)).fine = (el best k).fine:=rfl
  by_cases hneg:el too k < 0
  ·have cn:decide (el too k < 0) = true:=by simpa using hneg
   rcases hI with ⟨rfl,hI⟩ | ⟨v,rfl,hv,hv1,hv2⟩
   ·have ce:decide ((-1:Int) < 0) = true:=rfl
    have cg:¬ decide ((-1:Int) ≥ 0) = true:=by decide
    by_cases hf:(el best k).fine = true
    ·refine ⟨(k:Int),?_,.inr ⟨k,rfl,hk,hneg,hf⟩⟩
     show aW n dues too sums l (best.map lK,last) (-1) k = _
     unfold aW
     simp only [if_pos c0,if_pos ck,ek,Option.bind_some,if_pos cn,if_pos ce,if_pos cb,eb,hfine,if_pos hf,w3]
    ·refine ⟨-1,?_,.inl ⟨rfl,fun v hv hvn=>?_⟩⟩
     ·show aW n dues too sums l (best.map lK,last) (-1) k = _
      unfold aW
      simp only [if_pos c0,if_pos ck,ek,Option.bind_some,if_pos cn,if_pos ce,if_pos cb,eb,hfine,if_neg hf,if_neg cg,w3]
     ·by_cases e:v = k
      ·subst e; simpa using hf
      ·exact hI v (by omega) hvn
   ·have ce:¬ decide ((v:Int) < 0) = true:=by simp
    have cg:decide ((v:Int) ≥ 0) = true:=by simp
    have cv:0 <= (v:Int) ∧ (v:Int).toNat < (best.map lK).length:=⟨by omega,by rw [Int.toNat_natCast,List.length_map]; omega⟩
    have ev:(best.map lK)[(v:Int).toNat]? = some (lK (el best v)):=by rw [Int.toNat_natCast,List.getElem?_map,FP best v (by omega)]; rfl
    by_cases hls:nN (el best k) (el best v) = true
    ·refine ⟨(k:Int),?_,.inr ⟨k,rfl,hk,hneg,((M9 _ _).1 hls).1⟩⟩
     show aW n dues too sums l (best.map lK,last) v k = _
     unfold aW
     simp only [if_pos c0,if_pos ck,ek,Option.bind_some,if_pos cn,if_neg ce,if_pos cg,if_pos cb,eb,if_pos cv,ev,VV,if_pos hls,w3]
    ·refine ⟨(v:Int),?_,.inr ⟨v,rfl,hv,hv1,hv2⟩⟩
     show aW n dues too sums l (best.map lK,last) v k = _
     unfold aW
     simp only [if_pos c0,if_pos ck,ek,Option.bind_some,if_pos cn,if_neg ce,if_pos cg,if_pos cb,eb,if_pos cv,ev,VV,if_neg hls,w3]
  ·have cn:¬ decide (el too k < 0) = true:=by simpa using hneg
   refine ⟨a,?_,?_⟩
   ·show aW n dues too sums l (best.map lK,last) a k = _
    unfold aW
    simp only [if_pos c0,if_pos ck,ek,Option.bind_some,if_neg cn,w3]
   ·rcases hI with ⟨h1,h2⟩ | q
    ·refine .inl ⟨h1,fun v hv hvn=>?_⟩
     by_cases e:v = k
     ·subst e; exact absurd hvn hneg
     ·exact h2 v (by omega) hvn
    ·exact .inr q
 ·intro a hI
  refine ⟨a,?_,hI⟩
  show aW n dues too sums l (best.map lK,last) a n = _
  unfold aW
  rw [if_neg (by simp)]
end
end Go.Proofs.Ytgjcnbgfaimepaa
