/- Clearing: the search for the cheapest ways is rounds of relaxations. Clearing: cheapest finds the cheapest ways. Clearing: the steps of a clearing. Clearing: walking back along the last steps, and moving sums along them. Clearing: balancing. Clearing: which merchant with too little is next. -/
import Derived.Test.YtgjcnbgfaimepaaFn
import Derived.Test.YtgjcnbgfaimepaaLoops3
import Derived.Test.YtgjcnbgfaimepaaFlM
set_option linter.unusedVariables false
set_option linter.unusedSimpArgs false
namespace Go.Proofs.Ytgjcnbgfaimepaa
open Go.RowKit Vm
def aV (g:aC):eN:=⟨g.due,g.from_,g.to,g.cost,g.most,g.back⟩
def lA (a:PD):aD:=⟨a.c,a.k,a.fine⟩
theorem fN {α β:Type} [Inhabited α] [Inhabited β] (f:α->β) (l:List α) (i:Nat) (h:i < l.length):el (l.map f) i = f (el l i):=by
 simp [el,h]
theorem HE {α:Type} [Inhabited α] (l:List α) (i:Nat) (h:i < l.length):l[i]? = some (el l i):=by
 simp [el,h]
theorem eO {α:Type} [Inhabited α] (l:List α) (i:Nat) (h:i < l.length):at? l (i:Int) = some (el l i):=by
 rw [at?_nat]; exact HE l i h
theorem aHF {α β:Type} (f:α->β) (l:List α) (i:Nat) (x:α):(l.set i x).map f = (l.map f).set i (f x):=by
 rw [List.map_set]
def H6 (n:Nat) (g:aC):Prop:=(0 <= g.from_ ∧ g.from_ < n) ∧ (0 <= g.to ∧ g.to < n) ∧ (-1 <= g.cost ∧ g.cost <= 1)
theorem aEB {a:PD} {g:aC} (h1:-4611686018427387904 <= a.c ∧ a.c <= 4611686018427387904) (h2:0 <= a.k ∧ a.k <= 4611686018427387904) (hc:-1 <= g.cost ∧ g.cost <= 1) :
  fP (lA a) g = some (lA (tQ a (aV g))):=by
 unfold fP
 simp only [lA,tQ,aV]
 rw [jS (by omega) (by omega),jS (by omega) (by omega)]
theorem T8 (a b:PD):dX (lA a) (lA b) = some (nD a b):=by
 unfold dX
 simp only [lA,nD]
 by_cases h1:a.fine = true <;> by_cases h2:b.fine = true <;> by_cases h3:a.c < b.c <;> by_cases h4:a.c = b.c <;> simp [h1,h2,h3,h4] <;> exact decide_eq_decide.2 Iff.rfl
def QM (n:Nat) (B:Int) (best:List PD):Prop:=∀ v,v < n->-B <= (el best v).c ∧ (el best v).c <= B ∧ 0 <= (el best v).k ∧ (el best v).k <= B
theorem NA {n:Nat} {l:List aC} {best:List PD} {last:List Int} {B:Int} (hl:∀ g ∈ l,H6 n g) (hb:best.length = n) (hla:last.length = n) (h:QM n B best) (hB:0 <= B):∀ k,k <= l.length ->
  (((List.range k).foldl (fW nD tQ eN.src eN.dst (l.map aV)) (best,last,false)).1.length = n ∧ ((List.range k).foldl (fW nD tQ eN.src eN.dst (l.map aV)) (best,last,false)).2.1.length = n ∧ QM n (B + k) ((List.range k).foldl (fW nD tQ eN.src eN.dst (l.map aV)) (best,last,false)).1):=by
 intro k
 induction k with
 | zero=>intro _; exact ⟨hb,hla,by simpa using h⟩
 | succ k ih =>
  intro hk
  obtain ⟨h1,h2,h3⟩:=ih (by omega)
  rw [List.range_succ,List.foldl_append,List.foldl_cons,List.foldl_nil]
  generalize (List.range k).foldl (fW nD tQ eN.src eN.dst (l.map aV)) (best,last,false) = z at *
  have hg:=hl (el l k) (by rw [show el l k = l[k] from by simp [el,show k < l.length by omega]]; exact List.getElem_mem _)
  obtain ⟨⟨g1,g2⟩,⟨g3,g4⟩,g5,g6⟩:=hg
  have hmono:QM n (B + (k + 1:Nat)) z.1:=fun v hv=>by have:=h3 v hv; omega
  unfold fW
  rw [fN aV l k (by omega)]
  split
  ·refine ⟨by simp [h1],by simp [h2],fun v hv=>?_⟩
   dsimp only
   rw [c8]
   split
   ·have:=h3 (el l k).from_.toNat (by omega)
    simp only [tQ,aV,eN.src]
    omega
   ·exact hmono v hv
  ·exact ⟨h1,h2,hmono⟩
theorem WX {n:Nat} {l:List aC} {best:List PD} {last:List Int} {B:Int} (hl:∀ g ∈ l,H6 n g) (hb:best.length = n) (hla:last.length = n) (h:QM n B best) (hB:0 <= B) (hBl:B + l.length <= 4611686018427387904) :
  jB l false 0 (best.map lA) last = some ((n8 nD tQ eN.src eN.dst (l.map aV) best last).2.2,(n8 nD tQ eN.src eN.dst (l.map aV) best last).1.map lA,(n8 nD tQ eN.src eN.dst (l.map aV) best last).2.1):=by
 unfold jB n8
 rw [List.length_map]
 suffices hh:∃ x,dO (fun (w:Bool × Int × List aD × List Int)=>cZ l w.1 w.2.1 w.2.2.1 w.2.2.2) (false,0,best.map lA,last) = some x ∧ x = (((List.range l.length).foldl (fW nD tQ eN.src eN.dst (l.map aV)) (best,last,false)).2.2,((List.range l.length).foldl (fW nD tQ eN.src eN.dst (l.map aV)) (best,last,false)).1.map lA,((List.range l.length).foldl (fW nD tQ eN.src eN.dst (l.map aV)) (best,last,false)).2.1) by
  obtain ⟨x,h1,h2⟩:=hh
  rw [h2] at h1; exact h1
 refine iM (step:=fun (w:Bool × Int × List aD × List Int)=>cZ l w.1 w.2.1 w.2.2.1 w.2.2.2) (fun k (a:List PD × List Int × Bool)=>(a.2.2,(k:Int),a.1.map lA,a.2.1)) l.length
  (fun k a=>a = (List.range k).foldl (fW nD tQ eN.src eN.dst (l.map aV)) (best,last,false)) (fun x=>x = (((List.range l.length).foldl (fW nD tQ eN.src eN.dst (l.map aV)) (best,last,false)).2.2,((List.range l.length).foldl (fW nD tQ eN.src eN.dst (l.map aV)) (best,last,false)).1.map lA,((List.range l.length).foldl (fW nD tQ eN.src eN.dst (l.map aV)) (best,last,false)).2.1)) ?_ ?_ (best,last,false) rfl
 ·rintro k a hk rfl
  refine .inl ?_
  obtain ⟨q1,q2,q3⟩:=NA hl hb hla h hB k (by omega)
  rw [List.range_succ,List.foldl_append,List.foldl_cons,List.foldl_nil]
  generalize (List.range k).foldl (fW nD tQ eN.src eN.dst (l.map aV)) (best,last,false) = z at *
  have hg:=hl (el l k) (by rw [show el l k = l[k] from by simp [el,hk]]; exact List.getElem_mem _)
  obtain ⟨⟨g1,g2⟩,⟨g3,g4⟩,g5,g6⟩:=hg
  refine ⟨_,?_,rfl⟩
  unfold cZ
  rw [if_pos (by simpa using hk),eO l k hk,Option.bind_some]
  have e1:(z.1.map lA)[(el l k).from_.toNat]? = some (lA (el z.1 (el l k).from_.toNat)):=by rw [List.getElem?_map,HE z.1 _ (by omega)]; rfl
  have e2:(z.1.map lA)[(el l k).to.toNat]? = some (lA (el z.1 (el l k).to.toNat)):=by rw [List.getElem?_map,HE z.1 _ (by omega)]; rfl
  have b:=q3 (el l k).from_.toNat (by omega)
  rw [if_pos ⟨g1,by rw [List.length_map]; omega⟩,e1,Option.bind_some,aEB (by omega) (by omega) ⟨g5,g6⟩,Option.bind_some,if_pos ⟨g3,by rw [List.length_map]; omega⟩,e2,Option.bind_some,T8,Option.bind_some,HE z.2.1 _ (by omega),cD (by omega)]
  unfold fW
  rw [fN aV l k hk]
  have e3:eN.src (aV (el l k)) = (el l k).from_.toNat:=rfl
  have e4:eN.dst (aV (el l k)) = (el l k).to.toNat:=rfl
  rw [e3,e4]
  split
  ·rename_i hc
   have c1:0 <= (el l k).to ∧ (el l k).to.toNat < (z.1.map lA).length:=⟨g3,by rw [List.length_map]; omega⟩
   have c2:0 <= (el l k).to ∧ (el l k).to.toNat < z.2.1.length:=⟨g3,by omega⟩
   simp only [if_pos c1,if_pos c2,Option.bind_some,aHF,e2]
  ·rfl
 ·rintro a rfl
  refine ⟨_,?_,rfl⟩
  unfold cZ
  rw [if_neg (by simp)]
end Go.Proofs.Ytgjcnbgfaimepaa
namespace Go.Proofs.Ytgjcnbgfaimepaa
open Go.RowKit Vm
theorem OW {n:Nat} {l:List aC} (hl:∀ g ∈ l,H6 n g):∀ (f:Nat) (best:List PD) (last:List Int) (B:Int) (b:List PD) (la:List Int),best.length = n->last.length = n->QM n B best->0 <= B->B + (f * l.length:Nat) <= 4611686018427387904 ->
  RB nD tQ eN.src eN.dst (l.map aV) f best last = some (b,la)->jA l true (best.map lA) last = some (b.map lA,la)
 | 0,best,last,B,b,la,_,_,_,_,_,h=>by cases h
 | f + 1,best,last,B,b,la,hb,hla,hB,hB0,hBf,h=>by
  have hmul:(f + 1) * l.length = f * l.length + l.length:=Nat.succ_mul f l.length
  have hr:=WX hl hb hla hB hB0 (by omega)
  obtain ⟨q1,q2,q3⟩:=NA hl hb hla hB hB0 l.length (Nat.le_refl _)
  have e0:n8 nD tQ eN.src eN.dst (l.map aV) best last = (List.range l.length).foldl (fW nD tQ eN.src eN.dst (l.map aV)) (best,last,false):=by unfold n8; rw [List.length_map]
  rw [← e0] at q1 q2 q3
  simp only [RB] at h
  generalize n8 nD tQ eN.src eN.dst (l.map aV) best last = z at *
  unfold jA
  rw [nX (s':=(z.2.2,z.1.map lA,z.2.1)) (by unfold eW; rw [if_pos rfl,hr]; rfl)]
  split at h
  ·rename_i hc
   rw [hc]
   exact OW hl f z.1 z.2.1 (B + l.length) b la q1 q2 q3 (by omega) (by omega) h
  ·rename_i hc
   cases h
   exact kX (by unfold eW; exact if_neg hc)
def LX (n:Nat) (too:List Int):List PD:=(List.range n).map fun v=>⟨0,0,decide (el too v > 0)⟩
theorem AN (n:Nat) (too:List Int):(LX n too).length = n:=by simp [LX]
theorem L8 {n:Nat} (too:List Int) {v:Nat} (h:v < n):el (LX n too) v = ⟨0,0,decide (el too v > 0)⟩:=by
 simp [LX,el,h]
theorem DV {α:Type} [Inhabited α] {a b:List α} (h:a.length = b.length) (he:∀ i,i < a.length->el a i = el b i):a = b:=by
 apply List.ext_getElem h
 intro i h1 h2
 have:=he i h1
 simpa [el,h1,h2] using this
theorem Z7 {n:Nat} (hn:n <= 100000) (l:List aC) {too:List Int} (ht:too.length = n):jE n l too 0 (List.replicate n ((aD.mk 0 0 false):aD)) = some ((LX n too).map lA):=by
 unfold jE
 suffices hh:∃ x,dO (fun (w:Int × List aD)=>bU n l too w.1 w.2) (0,List.replicate n ((aD.mk 0 0 false):aD)) = some x ∧ x = (LX n too).map lA by
  obtain ⟨x,h1,h2⟩:=hh
  rw [h2] at h1; exact h1
 refine iM (step:=fun (w:Int × List aD)=>bU n l too w.1 w.2) (fun k (a:List aD)=>((k:Int),a)) n
  (fun k a=>a.length = n ∧ ∀ v,v < n->el a v = if v < k then (aD.mk 0 0 (decide (el too v > 0)):aD) else (aD.mk 0 0 false:aD)) _ ?_ ?_ _ ?_
 ·rintro k a hk ⟨h1,h2⟩
  refine .inl ⟨a.set k (aD.mk 0 0 (decide (el too k > 0))),?_,by simp [h1],fun v hv=>?_⟩
  ·show bU n l too k a = _
   unfold bU
   rw [if_pos (by simpa using hk),eO too k (by omega),Option.bind_some,if_pos ⟨by omega,by rw [Int.toNat_natCast]; omega⟩,Int.toNat_natCast,HE a k (by omega),Option.bind_some,cD (by omega),h2 k hk,if_neg (Nat.lt_irrefl k)]
  ·rw [c8,h2 v hv]
   by_cases e:v = k
   ·subst e
    rw [if_pos ⟨rfl,by omega⟩,if_pos (Nat.lt_succ_self _)]
   ·rw [if_neg fun q=>e q.1]
    by_cases c:v < k
    ·rw [if_pos c,if_pos (by omega)]
    ·rw [if_neg c,if_neg (by omega)]
 ·rintro a ⟨h1,h2⟩
  refine ⟨a,?_,?_⟩
  ·show bU n l too n a = _
   unfold bU
   rw [if_neg (by simp)]
  ·refine DV (by rw [h1,List.length_map,AN]) fun v hv=>?_
   rw [h1] at hv
   rw [h2 v hv,if_pos hv,fN lA _ _ (by rw [AN]; exact hv),L8 too hv]
   rfl
 ·refine ⟨List.length_replicate,fun v hv=>?_⟩
  rw [if_neg (Nat.not_lt_zero _),kV _ _ _ hv]
theorem aPf {n:Nat} (hn:n <= 100000):fQ [-1] (n:Int) = some (List.replicate n (-1)):=by
 show (if 0 <= (n:Int) ∧ (n:Int) <= 100000 then some (List.replicate (n:Int).toNat (-1:Int)) else none) = _
 rw [if_pos (by omega),Int.toNat_natCast]
theorem aCI {n:Nat} (hn:n <= 1000) {l:List aC} (hl:∀ g ∈ l,H6 n g) (hll:l.length <= 100000) {too:List Int} (ht:too.length = n) {p:Nat->Int} (hp:Pot eN.src eN.dst eN.cost (l.map aV) p) :
  ∃ (best:List PD) (last:List Int),fH n l too = some (best.map lA,last) ∧ best.length = n ∧ last.length = n ∧
   QJ n (l.map aV) (fun v=>(el best v).fine = true) (fun v=>decide (el too v > 0) = true) (fun v=>(el best v).c) (fun v=>(el best v).k.toNat) last:=by
 have hs:∀ i,i < (l.map aV).length->(el (l.map aV) i).src < n ∧ (el (l.map aV) i).dst < n:=by
  intro i hi
  rw [List.length_map] at hi
  rw [fN aV l i hi]
  have hg:=hl (el l i) (by rw [show el l i = l[i] from by simp [el,hi]]; exact List.getElem_mem _)
  obtain ⟨⟨g1,g2⟩,⟨g3,g4⟩,g5,g6⟩:=hg
  simp only [eN.src,eN.dst,aV]
  omega
 obtain ⟨best,last,h1,h2,h3,h4⟩:=aCp hp (fun v=>decide (el too v > 0)) hs (AN n too) (fun v hv=>L8 too hv) (fuel:=n + 1) (Nat.le_refl _)
 refine ⟨best,last,?_,h2,h3,h4⟩
 unfold fH
 have hmul:(n + 1) * l.length <= 1001 * 100000:=Nat.mul_le_mul (by omega) hll
 rw [if_pos (by omega),Int.toNat_natCast,Z7 (by omega) l ht,Option.bind_some,List.length_map,AN]
 rw [aPf (by omega),Option.bind_some,OW hl (n + 1) _ _ 0 best last (AN n too) (by simp) (fun v hv=>by rw [L8 too hv]; simp) (by omega) (by omega) h1]
 rfl
end Go.Proofs.Ytgjcnbgfaimepaa
namespace Go.Proofs.Ytgjcnbgfaimepaa
open Go.RowKit Vm
structure IW (n:Nat) (dues:List aF):Prop where
 nn:n <= 40
 len:dues.length <= 100
 each:∀ i,i < dues.length->(0 <= (el dues i).From ∧ (el dues i).From < n) ∧ (0 <= (el dues i).To ∧ (el dues i).To < n) ∧ (el dues i).From ≠ (el dues i).To ∧ 1 <= (el dues i).Sum ∧ (el dues i).Sum <= 1099511627776
def nH (dues:List aF) (i:Nat):Nat:=(el dues i).From.toNat
def pR (dues:List aF) (i:Nat):Nat:=(el dues i).To.toNat
def sM (dues:List aF) (i:Nat):Int:=(el dues i).Sum
def FZ (dues:List aF) (x:Nat->Int) (i:Nat) (b:Bool):aC :=
 ⟨i,if b = true then (el dues i).To else (el dues i).From,if b = true then (el dues i).From else (el dues i).To,if b = true then 1 else -1,if b = true then x i else (el dues i).Sum - x i,b⟩
def P5 (dues:List aF) (x:Nat->Int) (i:Nat):List aC :=
 (if x i < (el dues i).Sum then [FZ dues x i false] else []) ++ (if x i > 0 then [FZ dues x i true] else [])
def gI (dues:List aF) (x:Nat->Int) (m:Nat):List aC:=(List.range m).flatMap (P5 dues x)
theorem aGx (dues:List aF) (x:Nat->Int) (i:Nat):(P5 dues x i).length <= 2:=by
 unfold P5
 rw [List.length_append]
 split <;> split <;> simp
theorem M1 (dues:List aF) (x:Nat->Int) (m:Nat):gI dues x (m + 1) = gI dues x m ++ P5 dues x m:=by
 simp [gI,List.range_succ,List.flatMap_append]
theorem AP (dues:List aF) (x:Nat->Int):∀ m,(gI dues x m).length <= 2 * m
 | 0=>by simp [gI]
 | m + 1=>by
  have:=AP dues x m
  have:=aGx dues x m
  rw [M1,List.length_append]; omega
section
variable {n:Nat} {dues:List aF} {sums:List Int}
theorem IW.fr (h:IW n dues):∀ i,i < dues.length->nH dues i < n:=fun i hi=>by have:=h.each i hi; unfold nH; omega
theorem IW.tt (h:IW n dues):∀ i,i < dues.length->pR dues i < n:=fun i hi=>by have:=h.each i hi; unfold pR; omega
theorem UQ (h:IW n dues) (hl:sums.length = dues.length) (hr:InR (sM dues) dues.length (el sums)):fJ dues sums = some (gI dues (el sums) dues.length):=by
 unfold fJ oK
 suffices hh:∃ x,dO (fun (w:Int × List aC)=>cQ dues sums w.1 w.2) (0,[]) = some x ∧ x = gI dues (el sums) dues.length by
  obtain ⟨x,h1,h2⟩:=hh
  rw [h1,h2]; rfl
 have hlen:=h.len
 refine iM (step:=fun (w:Int × List aC)=>cQ dues sums w.1 w.2) (fun k (a:List aC)=>((k:Int),a)) dues.length (fun k a=>a = gI dues (el sums) k) _ ?_ ?_ _ rfl
 ·rintro k a hk rfl
  refine .inl ⟨gI dues (el sums) (k + 1),?_,rfl⟩
  have hsl:=AP dues (el sums) k
  have hx:=hr k hk
  have hd:=h.each k hk
  unfold sM at hx
  show cQ dues sums k (gI dues (el sums) k) = _
  unfold cQ
  rw [if_pos (by simpa using hk),eO dues k hk,Option.bind_some,eO sums k (by omega),Option.bind_some,cD (by omega),M1]
  have hj:∀ L:List aC,L.length <= 2 * k + 1->jF dues sums k (el dues k) L = some (L ++ if el sums k > 0 then [FZ dues (el sums) k true] else []):=by
   intro L hL
   unfold jF
   rw [eO sums k (by omega),Option.bind_some]
   by_cases c:el sums k > 0
   ·rw [if_pos (by simpa using c),if_pos c,Option.bind_some,if_pos (by omega)]; rfl
   ·rw [if_neg (by simpa using c),if_neg c,List.append_nil]
  by_cases c:el sums k < (el dues k).Sum
  ·rw [if_pos (by simpa using c),Option.bind_some,if_pos (by omega),jS (by omega) (by omega),hj _ (by simp; omega),Option.bind_some]
   unfold P5
   rw [if_pos c,← List.append_assoc]; rfl
  ·rw [if_neg (by simpa using c),hj _ (by omega),Option.bind_some]
   unfold P5
   rw [if_neg c,List.nil_append]
 ·rintro a rfl
  refine ⟨_,?_,rfl⟩
  show cQ dues sums dues.length _ = _
  unfold cQ
  rw [if_neg (by simp)]
theorem wM {x:Nat->Int} {m:Nat} {g:aC}:g ∈ gI dues x m ↔ ∃ i b,i < m ∧ g = FZ dues x i b ∧ 0 < (FZ dues x i b).most:=by
 unfold gI P5
 rw [List.mem_flatMap]
 constructor
 ·rintro ⟨i,hi,hg⟩
  rw [List.mem_range] at hi
  rcases List.mem_append.1 hg with q | q
  ·split at q
   ·rename_i c
    exact ⟨i,false,hi,by simpa using q,by simp [FZ]; omega⟩
   ·cases q
  ·split at q
   ·rename_i c
    exact ⟨i,true,hi,by simpa using q,by simp [FZ]; omega⟩
   ·cases q
 ·rintro ⟨i,b,hi,rfl,hm⟩
  refine ⟨i,List.mem_range.2 hi,List.mem_append.2 ?_⟩
  cases b
  ·left
   have:x i < (el dues i).Sum:=by simp [FZ] at hm; omega
   rw [if_pos this]; simp
  ·right
   have:x i > 0:=by simpa [FZ] using hm
   rw [if_pos this]; simp
theorem rD (h:IW n dues) {x:Nat->Int} {i:Nat} (hi:i < dues.length) (b:Bool):aV (FZ dues x i b) = F7 (nH dues) (pR dues) (sM dues) x VN i b:=by
 have:=h.each i hi
 cases b <;> simp [aV,FZ,F7,nH,pR,sM,VN] <;> omega
theorem PQ (h:IW n dues) (x:Nat->Int):pF (nH dues) (pR dues) (sM dues) dues.length x (fun _ _=>True) VN ((gI dues x dues.length).map aV):=by
 constructor
 ·intro k hk
  rw [List.length_map] at hk
  rw [fN aV _ k hk]
  obtain ⟨i,b,hi,e,hm⟩:=wM.1 (show el (gI dues x dues.length) k ∈ gI dues x dues.length by rw [show el (gI dues x dues.length) k = (gI dues x dues.length)[k] from by simp [el,hk]]; exact List.getElem_mem _)
  refine ⟨i,b,hi,trivial,?_,by rw [e,rD h hi]⟩
  rw [← rD h hi]
  exact hm
 ·intro i b hi _ hm
  rw [← rD h hi] at hm
  have:=(wM (dues:=dues) (x:=x) (m:=dues.length)).2 ⟨i,b,hi,rfl,hm⟩
  obtain ⟨k,hk,e⟩:=List.mem_iff_getElem.1 this
  refine ⟨k,by rw [List.length_map]; exact hk,?_⟩
  rw [fN aV _ k hk,← rD h hi,← e]
  simp [el,hk]
theorem QU (h:IW n dues) (x:Nat->Int):∀ g ∈ gI dues x dues.length,H6 n g:=by
 intro g hg
 obtain ⟨i,b,hi,rfl,_⟩:=wM.1 hg
 have:=h.each i hi
 cases b <;> simp [H6,FZ] <;> omega
end
end Go.Proofs.Ytgjcnbgfaimepaa
namespace Go.Proofs.Ytgjcnbgfaimepaa
open Go.RowKit Vm
def PF (l:List aC) (a:Int) (ks:List Nat):Int:=ks.foldl (fun a k=>if (el l k).most < a then (el l k).most else a) a
theorem UT (l:List aC):∀ (ks:List Nat) (a:Int),PF l a ks <= a ∧ ∀ k ∈ ks,PF l a ks <= (el l k).most
 | [],a=>⟨Int.le_refl _,fun k h=>by cases h⟩
 | k :: ks,a=>by
  obtain ⟨h1,h2⟩:=UT l ks (if (el l k).most < a then (el l k).most else a)
  have e:PF l a (k :: ks) = PF l (if (el l k).most < a then (el l k).most else a) ks:=rfl
  rw [e]
  have hc:(if (el l k).most < a then (el l k).most else a) <= a ∧ (if (el l k).most < a then (el l k).most else a) <= (el l k).most:=by split <;> omega
  refine ⟨by omega,fun j hj=>?_⟩
  rcases List.mem_cons.1 hj with rfl | hj
  ·omega
  ·exact h2 j hj
theorem QD (l:List aC):∀ (ks:List Nat) (a:Int),0 < a->(∀ k ∈ ks,0 < (el l k).most)->0 < PF l a ks
 | [],a,h,_=>h
 | k :: ks,a,h,hk=>by
  have e:PF l a (k :: ks) = PF l (if (el l k).most < a then (el l k).most else a) ks:=rfl
  rw [e]
  refine QD l ks _ ?_ fun j hj=>hk j (List.mem_cons_of_mem _ hj)
  have:=hk k (List.mem_cons_self ..)
  split <;> omega
section
variable {n:Nat} {l:List aC} {last:List Int}
theorem HM {v k:Nat} (hv:v < last.length) (hl:el last v = (k:Int)) (hk:k < l.length):last[(v:Int).toNat]? = some (k:Int) ∧ l[(k:Int).toNat]? = some (el l k):=by
 rw [Int.toNat_natCast,Int.toNat_natCast,HE last v hv,HE l k hk,hl]
 exact ⟨rfl,rfl⟩
theorem U8 {k:Nat} (hl:∀ g ∈ l,H6 n g) (hk:k < l.length):(el (l.map aV) k).src < n ∧ (el l k).from_ = ((el (l.map aV) k).src:Nat):=by
 rw [fN aV l k hk]
 have hg:=hl (el l k) (by rw [show el l k = l[k] from by simp [el,hk]]; exact List.getElem_mem _)
 obtain ⟨⟨g1,g2⟩,_⟩:=hg
 simp only [eN.src,aV]
 omega
theorem aEQ (hl:∀ g ∈ l,H6 n g) (hla:last.length = n) (a0:Int) (a1:List aF) (p12 p13:List Int) (best:List aD) (r27:Int) {v u:Nat} {ks:List Nat} (w:Pth (l.map aV) last v ks u):v < n->∀ most:Int,fF a0 a1 p12 p13 l (best,last) r27 most v = some (PF l most ks,(u:Int)):=by
 induction w with
 | nil v hv =>
  intro hvn most
  unfold fF
  refine kX ?_
  show dG a0 a1 p12 p13 l (best,last) r27 most v = _
  unfold dG
  dsimp only
  rw [if_pos ⟨by omega,by rw [Int.toNat_natCast]; omega⟩,Int.toNat_natCast,HE last v (by omega),hv]
  rfl
 | @cons v k u ks hk hlv hd w ih =>
  intro hvn most
  rw [List.length_map] at hk
  obtain ⟨q1,q2⟩:=U8 hl hk
  obtain ⟨b1,b2⟩:=HM (l:=l) (last:=last) (by omega:v < last.length) hlv hk
  unfold fF
  rw [nX (s':=((if (el l k).most < most then (el l k).most else most),(el l k).from_)) ?_]
  ·have:=ih q1 (if (el l k).most < most then (el l k).most else most)
   unfold fF at this
   rw [q2]
   exact this
  ·show dG a0 a1 p12 p13 l (best,last) r27 most v = _
   unfold dG
   dsimp only
   have cv:0 <= (v:Int) ∧ (v:Int).toNat < last.length:=⟨by omega,by rw [Int.toNat_natCast]; omega⟩
   have ck:0 <= (k:Int) ∧ (k:Int).toNat < l.length:=⟨by omega,by rw [Int.toNat_natCast]; exact hk⟩
   have cg:decide ((k:Int) ≥ 0) = true:=by simp
   simp only [if_pos cv,if_pos ck,b1,b2,Option.bind_some,if_pos cg]
theorem aBi (hl:∀ g ∈ l,H6 n g) (hla:last.length = n) (a0:Int) (a1:List aF) (a3:List Int) (a4:Int) (p5:List Int) (best:List aD) {v u:Nat} {ks:List Nat} (w:Pth (l.map aV) last v ks u):v < n->∀ most:Int,gS a0 a1 a3 a4 p5 l (best,last) most v = some (PF l most ks):=by
 induction w with
 | nil v hv =>
  intro hvn most
  unfold gS
  refine kX ?_
  show dW a0 a1 a3 a4 p5 l (best,last) most v = _
  unfold dW
  dsimp only
  rw [if_pos ⟨by omega,by rw [Int.toNat_natCast]; omega⟩,Int.toNat_natCast,HE last v (by omega),hv]
  rfl
 | @cons v k u ks hk hlv hd w ih =>
  intro hvn most
  rw [List.length_map] at hk
  obtain ⟨q1,q2⟩:=U8 hl hk
  obtain ⟨b1,b2⟩:=HM (l:=l) (last:=last) (by omega:v < last.length) hlv hk
  unfold gS
  rw [nX (s':=((if (el l k).most < most then (el l k).most else most),(el l k).from_)) ?_]
  ·have:=ih q1 (if (el l k).most < most then (el l k).most else most)
   unfold gS at this
   rw [q2]
   exact this
  ·show dW a0 a1 a3 a4 p5 l (best,last) most v = _
   unfold dW
   dsimp only
   have cv:0 <= (v:Int) ∧ (v:Int).toNat < last.length:=⟨by omega,by rw [Int.toNat_natCast]; omega⟩
   have ck:0 <= (k:Int) ∧ (k:Int).toNat < l.length:=⟨by omega,by rw [Int.toNat_natCast]; exact hk⟩
   have cg:decide ((k:Int) ≥ 0) = true:=by simp
   simp only [if_pos cv,if_pos ck,b1,b2,Option.bind_some,if_pos cg]
theorem aGZ {g:aC} {x:List Int} {d B D:Int} (h0:0 <= g.due) (hd:g.due.toNat < x.length) (hx:∀ i,-B <= el x i ∧ el x i <= B) (hd0:0 <= d) (hdD:d <= D) (hB:B + D <= 4611686018427387904) :
  dY g x d = some (x.set g.due.toNat (el x g.due.toNat + ZC (aV g) d)):=by
 have hj:∀ e:Int,-D <= e->e <= D->eY g x e = some (x.set g.due.toNat (el x g.due.toNat + e)):=by
  intro e h1 h2
  have:=hx g.due.toNat
  unfold eY
  rw [if_pos ⟨h0,hd⟩,HE x _ hd,Option.bind_some,if_pos ⟨h0,hd⟩,Option.bind_some,jS (by omega) (by omega)]
 unfold dY
 have hB0:=hx 0
 by_cases c:g.back = true
 ·rw [if_pos c,jS (by omega) (by omega),hj _ (by omega) (by omega),Option.bind_some]
  simp [ZC,aV,c]
 ·rw [if_neg c,hj _ (by omega) hdD,Option.bind_some]
  simp [ZC,aV,c]
theorem S0 {x:List Int} {i:Nat} {a B D:Int} (hx:∀ i,-B <= el x i ∧ el x i <= B) (h1:-(B + D) <= a) (h2:a <= B + D) (hD:0 <= D):∀ j,-(B + D) <= el (x.set i a) j ∧ el (x.set i a) j <= B + D:=by
 intro j
 rw [c8]
 have:=hx j
 split <;> omega
theorem aF0 (hl:∀ g ∈ l,H6 n g) (hla:last.length = n) {m:Nat} (hdue:∀ g ∈ l,0 <= g.due ∧ g.due < m) (a0:Int) (a1:List aF) (p12:List Int) (best:List aD) (r27:Int) (r38:Int × Int) (x39:Int) {D:Int} (hd0:0 <= (if x39 < r38.1 then x39 else r38.1)) (hdD:(if x39 < r38.1 then x39 else r38.1) <= D) {v u:Nat} {ks:List Nat} (w:Pth (l.map aV) last v ks u):v < n->∀ (x:List Int) (B:Int),x.length = m->(∀ i,-B <= el x i ∧ el x i <= B)->B + (ks.length:Int) * D <= 4611686018427387904 ->
  fI a0 a1 p12 l (best,last) r27 r38 x39 v x = some (B2 (l.map aV) (if x39 < r38.1 then x39 else r38.1) x ks):=by
 induction w with
 | nil v hv =>
  intro hvn x B hxm hx hB
  unfold fI
  refine kX ?_
  show dA a0 a1 p12 l (best,last) r27 r38 x39 v x = _
  unfold dA
  dsimp only
  rw [if_pos ⟨by omega,by rw [Int.toNat_natCast]; omega⟩,Int.toNat_natCast,HE last v (by omega),hv]
  rfl
 | @cons v k u ks hk hlv hd w ih =>
  intro hvn x B hxm hx hB
  rw [List.length_map] at hk
  obtain ⟨q1,q2⟩:=U8 hl hk
  obtain ⟨b1,b2⟩:=HM (l:=l) (last:=last) (by omega:v < last.length) hlv hk
  have hg:=hdue (el l k) (by rw [show el l k = l[k] from by simp [el,hk]]; exact List.getElem_mem _)
  have hD0:0 <= D:=by omega
  have hks:((k :: ks).length:Int) * D = (ks.length:Int) * D + D:=by
   rw [List.length_cons]; rw [show ((ks.length + 1:Nat):Int) = (ks.length:Int) + 1 by omega,Int.add_mul,Int.one_mul]
  have hpos:0 <= (ks.length:Int) * D:=Int.mul_nonneg (by omega) hD0
  have hmv:=aGZ (g:=el l k) (x:=x) (B:=B) hg.1 (by omega) hx hd0 hdD (by omega)
  unfold fI
  rw [nX (s':=((el l k).from_,x.set (el l k).due.toNat (el x (el l k).due.toNat + ZC (aV (el l k)) (if x39 < r38.1 then x39 else r38.1)))) ?_]
  ·have hsg:-D <= ZC (aV (el l k)) (if x39 < r38.1 then x39 else r38.1) ∧ ZC (aV (el l k)) (if x39 < r38.1 then x39 else r38.1) <= D:=by unfold ZC; split <;> omega
   have hxd:=hx (el l k).due.toNat
   have:=ih q1 (x.set (el l k).due.toNat (el x (el l k).due.toNat + ZC (aV (el l k)) (if x39 < r38.1 then x39 else r38.1))) (B + D) (by rw [List.length_set]; exact hxm) (S0 hx (by omega) (by omega) hD0) (by omega)
   unfold fI at this
   rw [q2,this,B2,fN aV l k hk]
   rfl
  ·show dA a0 a1 p12 l (best,last) r27 r38 x39 v x = _
   unfold dA
   dsimp only
   have cv:0 <= (v:Int) ∧ (v:Int).toNat < last.length:=⟨by omega,by rw [Int.toNat_natCast]; omega⟩
   have ck:0 <= (k:Int) ∧ (k:Int).toNat < l.length:=⟨by omega,by rw [Int.toNat_natCast]; exact hk⟩
   have cg:decide ((k:Int) ≥ 0) = true:=by simp
   simp only [if_pos cv,if_pos ck,b1,b2,Option.bind_some,if_pos cg,hmv]
end
end Go.Proofs.Ytgjcnbgfaimepaa
namespace Go.Proofs.Ytgjcnbgfaimepaa
open Go.RowKit Vm
theorem HD (fr tt:Nat->Nat) (k:Nat) (x:Nat->Int) (v:Nat):netF fr tt (k + 1) x v = netF fr tt k x v + ((if tt k = v then x k else 0) - (if fr k = v then x k else 0)):=rfl
theorem JZ {fr tt:Nat->Nat} {x:Nat->Int} {S:Int} (hS:0 <= S):∀ k,(∀ i,i < k->0 <= x i ∧ x i <= S)->∀ v,-((k:Int) * S) <= netF fr tt k x v ∧ netF fr tt k x v <= (k:Int) * S
 | 0,_,v=>by simp [netF,dH]
 | k + 1,h,v=>by
  have:=JZ hS k (fun i hi=>h i (by omega)) v (fr:=fr) (tt:=tt)
  have hk:=h k (by omega)
  rw [HD,show ((k + 1:Nat):Int) * S = (k:Int) * S + S by rw [show ((k + 1:Nat):Int) = (k:Int) + 1 by omega,Int.add_mul,Int.one_mul]]
  split <;> split <;> omega
section
variable {n:Nat} {dues:List aF} {sums:List Int}
def OT (n:Nat) (dues:List aF) (x:Nat->Int):List Int:=(List.range n).map fun v=>netF (nH dues) (pR dues) dues.length x v
theorem PA (x:Nat->Int):(OT n dues x).length = n:=by simp [OT]
theorem T2 (x:Nat->Int) {v:Nat} (hv:v < n):el (OT n dues x) v = netF (nH dues) (pR dues) dues.length x v:=by simp [OT,el,hv]
theorem aP8 (h:IW n dues) (hl:sums.length = dues.length) (hr:InR (sM dues) dues.length (el sums)):jL n dues sums 0 (List.replicate n (0:Int)) = some (OT n dues (el sums)):=by
 unfold jL
 suffices hh:∃ x,dO (fun (w:Int × List Int)=>b6 n dues sums w.1 w.2) (0,List.replicate n (0:Int)) = some x ∧ x = OT n dues (el sums) by
  obtain ⟨x,h1,h2⟩:=hh
  rw [h1,h2]
 have hlen:=h.len
 have hS:∀ i,i < dues.length->0 <= el sums i ∧ el sums i <= 1099511627776:=fun i hi=>by have:=hr i hi; have:=h.each i hi; unfold sM at *; omega
 refine iM (step:=fun (w:Int × List Int)=>b6 n dues sums w.1 w.2) (fun k (a:List Int)=>((k:Int),a)) dues.length (fun k a=>a.length = n ∧ ∀ v,v < n->el a v = netF (nH dues) (pR dues) k (el sums) v) _ ?_ ?_ _ ⟨List.length_replicate,fun v hv=>by rw [kV _ _ _ hv]; rfl⟩
 ·rintro k a hk ⟨h1,h2⟩
  obtain ⟨⟨f1,f2⟩,⟨t1,t2⟩,hne,_⟩:=h.each k hk
  have hx:=hS k hk
  have hb:=JZ (fr:=nH dues) (tt:=pR dues) (x:=el sums) (S:=1099511627776) (by omega) k fun i hi=>hS i (by omega)
  have hk100:(k:Int) * 1099511627776 <= 100 * 1099511627776:=by omega
  have hT:(el dues k).To.toNat < n:=by omega
  have hF:(el dues k).From.toNat < n:=by omega
  have bT:=hb (el dues k).To.toNat
  have bF:=hb (el dues k).From.toNat
  have hnf:¬ (el dues k).From.toNat = (el dues k).To.toNat:=by omega
  refine .inl ⟨(a.set (el dues k).To.toNat (el a (el dues k).To.toNat + el sums k)).set (el dues k).From.toNat (el a (el dues k).From.toNat - el sums k),?_,by simp [h1],fun v hv=>?_⟩
  ·show b6 n dues sums k a = _
   unfold b6
   have c0:decide ((k:Int) < (dues.length:Int)) = true:=by simpa using hk
   have cT:0 <= (el dues k).To ∧ (el dues k).To.toNat < a.length:=⟨t1,by omega⟩
   have ck:0 <= (k:Int) ∧ (k:Int).toNat < sums.length:=⟨by omega,by rw [Int.toNat_natCast]; omega⟩
   have eS:sums[(k:Int).toNat]? = some (el sums k):=by rw [Int.toNat_natCast]; exact HE sums k (by omega)
   have eT:a[(el dues k).To.toNat]? = some (el a (el dues k).To.toNat):=HE a _ (by omega)
   have w1:IntKind.wrap .i64 (el a (el dues k).To.toNat + el sums k) = el a (el dues k).To.toNat + el sums k:=jS (by rw [h2 _ hT]; omega) (by rw [h2 _ hT]; omega)
   have cF:0 <= (el dues k).From ∧ (el dues k).From.toNat < (a.set (el dues k).To.toNat (el a (el dues k).To.toNat + el sums k)).length:=⟨f1,by rw [List.length_set]; omega⟩
   have eF:(a.set (el dues k).To.toNat (el a (el dues k).To.toNat + el sums k))[(el dues k).From.toNat]? = some (el a (el dues k).From.toNat):=by
    rw [HE _ _ (by rw [List.length_set]; omega),c8,if_neg fun q=>hnf q.1]
   have w2:IntKind.wrap .i64 (el a (el dues k).From.toNat - el sums k) = el a (el dues k).From.toNat - el sums k:=jS (by rw [h2 _ hF]; omega) (by rw [h2 _ hF]; omega)
   have w3:IntKind.wrap .i64 ((k:Int) + 1) = ((k + 1:Nat):Int):=cD (by omega)
   simp only [if_pos c0,eO dues k hk,Option.bind_some,if_pos cT,eT,if_pos ck,eS,w1,if_pos cF,eF,w2,w3]
  ·rw [HD,c8,List.length_set]
   unfold pR nH
   have h2v:=h2 v hv
   unfold pR nH at h2v
   by_cases e1:v = (el dues k).From.toNat
   ·have e2:¬ (el dues k).To.toNat = v:=by omega
    rw [if_pos ⟨e1,by omega⟩,if_neg e2,if_pos e1.symm,← e1,h2v]; omega
   ·have e1' : ¬ (el dues k).From.toNat = v:=fun q=>e1 q.symm
    have e1'' : ¬ (v = (el dues k).From.toNat ∧ (el dues k).From.toNat < a.length):=fun q=>e1 q.1
    rw [if_neg e1'',if_neg e1',c8]
    by_cases e2:v = (el dues k).To.toNat
    ·rw [if_pos ⟨e2,by omega⟩,if_pos e2.symm,← e2,h2v]; omega
    ·have e2' : ¬ (el dues k).To.toNat = v:=fun q=>e2 q.symm
     have e2'' : ¬ (v = (el dues k).To.toNat ∧ (el dues k).To.toNat < a.length):=fun q=>e2 q.1
     rw [if_neg e2'',if_neg e2',h2v]; omega
 ·rintro a ⟨h1,h2⟩
  refine ⟨a,?_,DV (by rw [h1,PA]) fun v hv=>by rw [h1] at hv; rw [h2 v hv,T2 _ hv]⟩
  show b6 n dues sums dues.length a = _
  unfold b6
  rw [if_neg (by simp)]
end
end Go.Proofs.Ytgjcnbgfaimepaa
namespace Go.Proofs.Ytgjcnbgfaimepaa
open Go.RowKit Vm
section
variable {n:Nat} {dues:List aF} {sums:List Int}
theorem aRe (hn:n <= 1000) {too:List Int} (ht:too.length = n) {best:List PD} (hb:best.length = n) (last:List Int) (l:List aC):∃ e:Int,jO n dues too sums l (best.map lA,last) (-1) 0 = some e ∧
  ((e = -1 ∧ ∀ v,v < n->el too v < 0->(el best v).fine = false) ∨ ∃ v:Nat,e = v ∧ v < n ∧ el too v < 0 ∧ (el best v).fine = true):=by
 unfold jO
 refine iM (step:=fun (w:Int × Int)=>aU n dues too sums l (best.map lA,last) w.1 w.2) (fun k (a:Int)=>(a,(k:Int))) n
  (fun k a=>(a = -1 ∧ ∀ v,v < k->el too v < 0->(el best v).fine = false) ∨ ∃ v:Nat,a = v ∧ v < n ∧ el too v < 0 ∧ (el best v).fine = true) _ ?_ ?_ _ (.inl ⟨rfl,fun v hv=>absurd hv (Nat.not_lt_zero _)⟩)
 ·intro k a hk hI
  refine .inl ?_
  have c0:decide ((k:Int) < (n:Int)) = true:=by simpa using hk
  have ck:0 <= (k:Int) ∧ (k:Int).toNat < too.length:=⟨by omega,by rw [Int.toNat_natCast]; omega⟩
  have ek:too[(k:Int).toNat]? = some (el too k):=by rw [Int.toNat_natCast]; exact HE too k (by omega)
  have cb:0 <= (k:Int) ∧ (k:Int).toNat < (best.map lA).length:=⟨by omega,by rw [Int.toNat_natCast,List.length_map]; omega⟩
  have eb:(best.map lA)[(k:Int).toNat]? = some (lA (el best k)):=by rw [Int.toNat_natCast,List.getElem?_map,HE best k (by omega)]; rfl
  have w3:IntKind.wrap .i64 ((k:Int) + 1) = ((k + 1:Nat):Int):=cD (by omega)
  have hfine:(lA (el best k)).fine = (el best k).fine:=rfl
  by_cases hneg:el too k < 0
  ·have cn:decide (el too k < 0) = true:=by simpa using hneg
   rcases hI with ⟨rfl,hI⟩ | ⟨v,rfl,hv,hv1,hv2⟩
   ·have ce:decide ((-1:Int) < 0) = true:=rfl
    have cg:¬ decide ((-1:Int) ≥ 0) = true:=by decide
    by_cases hf:(el best k).fine = true
    ·refine ⟨(k:Int),?_,.inr ⟨k,rfl,hk,hneg,hf⟩⟩
     show aU n dues too sums l (best.map lA,last) (-1) k = _
     unfold aU
     simp only [if_pos c0,if_pos ck,ek,Option.bind_some,if_pos cn,if_pos ce,if_pos cb,eb,hfine,if_pos hf,w3]
    ·refine ⟨-1,?_,.inl ⟨rfl,fun v hv hvn=>?_⟩⟩
     ·show aU n dues too sums l (best.map lA,last) (-1) k = _
      unfold aU
      simp only [if_pos c0,if_pos ck,ek,Option.bind_some,if_pos cn,if_pos ce,if_pos cb,eb,hfine,if_neg hf,if_neg cg,w3]
     ·by_cases e:v = k
      ·subst e; simpa using hf
      ·exact hI v (by omega) hvn
   ·have ce:¬ decide ((v:Int) < 0) = true:=by simp
    have cg:decide ((v:Int) ≥ 0) = true:=by simp
    have cv:0 <= (v:Int) ∧ (v:Int).toNat < (best.map lA).length:=⟨by omega,by rw [Int.toNat_natCast,List.length_map]; omega⟩
    have ev:(best.map lA)[(v:Int).toNat]? = some (lA (el best v)):=by rw [Int.toNat_natCast,List.getElem?_map,HE best v (by omega)]; rfl
    by_cases hls:nD (el best k) (el best v) = true
    ·refine ⟨(k:Int),?_,.inr ⟨k,rfl,hk,hneg,((M0 _ _).1 hls).1⟩⟩
     show aU n dues too sums l (best.map lA,last) v k = _
     unfold aU
     simp only [if_pos c0,if_pos ck,ek,Option.bind_some,if_pos cn,if_neg ce,if_pos cg,if_pos cb,eb,if_pos cv,ev,T8,if_pos hls,w3]
    ·refine ⟨(v:Int),?_,.inr ⟨v,rfl,hv,hv1,hv2⟩⟩
     show aU n dues too sums l (best.map lA,last) v k = _
     unfold aU
     simp only [if_pos c0,if_pos ck,ek,Option.bind_some,if_pos cn,if_neg ce,if_pos cg,if_pos cb,eb,if_pos cv,ev,T8,if_neg hls,w3]
  ·have cn:¬ decide (el too k < 0) = true:=by simpa using hneg
   refine ⟨a,?_,?_⟩
   ·show aU n dues too sums l (best.map lA,last) a k = _
    unfold aU
    simp only [if_pos c0,if_pos ck,ek,Option.bind_some,if_neg cn,w3]
   ·rcases hI with ⟨h1,h2⟩ | q
    ·refine .inl ⟨h1,fun v hv hvn=>?_⟩
     by_cases e:v = k
     ·subst e; exact absurd hvn hneg
     ·exact h2 v (by omega) hvn
    ·exact .inr q
 ·intro a hI
  refine ⟨a,?_,hI⟩
  show aU n dues too sums l (best.map lA,last) a n = _
  unfold aU
  rw [if_neg (by simp)]
end
end Go.Proofs.Ytgjcnbgfaimepaa
