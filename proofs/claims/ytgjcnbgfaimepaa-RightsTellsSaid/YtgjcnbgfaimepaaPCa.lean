/- Clearing: the search for the cheapest ways is rounds of relaxations. Clearing: cheapest finds the cheapest ways. Clearing: the steps of a clearing. Clearing: walking back along the last steps, and moving sums along them. Clearing: balancing. Clearing: which merchant with too little is next. -/
import Derived.Test.YtgjcnbgfaimepaaFn
import Derived.Test.YtgjcnbgfaimepaaLoops3
import Derived.Test.YtgjcnbgfaimepaaFlM
namespace Go.Proofs.Ytgjcnbgfaimepaa
section
open Go.RowKit Vm
def aJ (g:aC):c9:=⟨g.due,g.from_,g.to,g.cost,g.most,g.back⟩
def qR (a:J3):aE:=⟨a.c,a.k,a.fine⟩
theorem eP {α β:Type} [Inhabited α] [Inhabited β] (f:α->β) (l:List α) (i:Nat) (h:i < l.length):el (l.map f) i = f (el l i):=by
 simp [el,h]
theorem DH {α:Type} [Inhabited α] (l:List α) (i:Nat) (h:i < l.length):l[i]? = some (el l i):=by
 simp [el,h]
theorem bA {α:Type} [Inhabited α] (l:List α) (i:Nat) (h:i < l.length):at? l (i:Int) = some (el l i):=by
 rw [at?_nat]; exact DH l i h
theorem aCJ {α β:Type} (f:α->β) (l:List α) (i:Nat) (x:α):(l.set i x).map f = (l.map f).set i (f x):=by
 rw [List.map_set]
def GI (n:Nat) (g:aC):Prop:=(0 <= g.from_ ∧ g.from_ < n) ∧ (0 <= g.to ∧ g.to < n) ∧ (-1 <= g.cost ∧ g.cost <= 1)
theorem aH3 {a:J3} {g:aC} (h1:-4611686018427387904 <= a.c ∧ a.c <= 4611686018427387904) (h2:0 <= a.k ∧ a.k <= 4611686018427387904) (hc:-1 <= g.cost ∧ g.cost <= 1) :
  jS (qR a) g = some (qR (kO a (aJ g))):=by
 unfold jS
 simp only [qR,kO,aJ]
 rw [gL (by omega) (by omega),gL (by omega) (by omega)]
theorem aBu (a b:J3):gT (qR a) (qR b) = some (fN a b):=by
 unfold gT
 simp only [qR,fN]
 by_cases h1:a.fine = true <;> by_cases h2:b.fine = true <;> by_cases h3:a.c < b.c <;> by_cases h4:a.c = b.c <;> simp [h1,h2,h3,h4] <;> exact decide_eq_decide.2 Iff.rfl
def E7 (n:Nat) (B:Int) (best:List J3):Prop:=∀ v,v < n->-B <= (el best v).c ∧ (el best v).c <= B ∧ 0 <= (el best v).k ∧ (el best v).k <= B
theorem OW {n:Nat} {l:List aC} {best:List J3} {last:List Int} {B:Int} (hl:∀ g ∈ l,GI n g) (hb:best.length = n) (hla:last.length = n) (h:E7 n B best) (hB:0 <= B):∀ k,k <= l.length ->
  (((List.range k).foldl (iN fN kO c9.src c9.dst (l.map aJ)) (best,last,false)).1.length = n ∧ ((List.range k).foldl (iN fN kO c9.src c9.dst (l.map aJ)) (best,last,false)).2.1.length = n ∧ E7 n (B + k) ((List.range k).foldl (iN fN kO c9.src c9.dst (l.map aJ)) (best,last,false)).1):=by
 intro k
 induction k with
 | zero=>intro _; exact ⟨hb,hla,by simpa using h⟩
 | succ k ih =>
  intro hk
  obtain ⟨h1,h2,h3⟩:=ih (by omega)
  rw [Ĉ,ü,ð,ġ]
  generalize (List.range k).foldl (iN fN kO c9.src c9.dst (l.map aJ)) (best,last,false) = z at *
  have hg:=hl (el l k) (by rw [show el l k = l[k] from by simp [el,show k < l.length by omega]]; exact ú _)
  obtain ⟨⟨g1,g2⟩,⟨g3,g4⟩,g5,g6⟩:=hg
  have hmono:E7 n (B + (k + 1:Nat)) z.1:=fun v hv=>by have:=h3 v hv; omega
  unfold iN
  rw [eP aJ l k (by omega)]
  split
  ·refine ⟨by simp [h1],by simp [h2],fun v hv=>?_⟩
   dsimp only
   rw [bR]
   split
   ·have:=h3 (el l k).from_.toNat (by omega)
    simp only [kO,aJ,c9.src]
    omega
   ·exact hmono v hv
  ·exact ⟨h1,h2,hmono⟩
theorem aEd {n:Nat} {l:List aC} {best:List J3} {last:List Int} {B:Int} (hl:∀ g ∈ l,GI n g) (hb:best.length = n) (hla:last.length = n) (h:E7 n B best) (hB:0 <= B) (hBl:B + l.length <= 4611686018427387904) :
  mY l false 0 (best.map qR) last = some ((tY fN kO c9.src c9.dst (l.map aJ) best last).2.2,(tY fN kO c9.src c9.dst (l.map aJ) best last).1.map qR,(tY fN kO c9.src c9.dst (l.map aJ) best last).2.1):=by
 unfold mY tY
 rw [È]
 suffices hh:∃ x,bV (fun (w:Bool × Int × List aE × List Int)=>fI l w.1 w.2.1 w.2.2.1 w.2.2.2) (false,0,best.map qR,last) = some x ∧ x = (((List.range l.length).foldl (iN fN kO c9.src c9.dst (l.map aJ)) (best,last,false)).2.2,((List.range l.length).foldl (iN fN kO c9.src c9.dst (l.map aJ)) (best,last,false)).1.map qR,((List.range l.length).foldl (iN fN kO c9.src c9.dst (l.map aJ)) (best,last,false)).2.1) by
  obtain ⟨x,h1,h2⟩:=hh
  rw [h2] at h1; exact h1
 refine bO (step:=fun (w:Bool × Int × List aE × List Int)=>fI l w.1 w.2.1 w.2.2.1 w.2.2.2) (fun k (a:List J3 × List Int × Bool)=>(a.2.2,(k:Int),a.1.map qR,a.2.1)) l.length
  (fun k a=>a = (List.range k).foldl (iN fN kO c9.src c9.dst (l.map aJ)) (best,last,false)) (fun x=>x = (((List.range l.length).foldl (iN fN kO c9.src c9.dst (l.map aJ)) (best,last,false)).2.2,((List.range l.length).foldl (iN fN kO c9.src c9.dst (l.map aJ)) (best,last,false)).1.map qR,((List.range l.length).foldl (iN fN kO c9.src c9.dst (l.map aJ)) (best,last,false)).2.1)) ?_ ?_ (best,last,false) rfl
 ·rintro k a hk rfl
  refine .inl ?_
  obtain ⟨q1,q2,q3⟩:=OW hl hb hla h hB k (by omega)
  rw [Ĉ,ü,ð,ġ]
  generalize (List.range k).foldl (iN fN kO c9.src c9.dst (l.map aJ)) (best,last,false) = z at *
  have hg:=hl (el l k) (by rw [show el l k = l[k] from by simp [el,hk]]; exact ú _)
  obtain ⟨⟨g1,g2⟩,⟨g3,g4⟩,g5,g6⟩:=hg
  refine ⟨_,?_,rfl⟩
  unfold fI
  rw [Á (by simpa using hk),bA l k hk,À]
  have e1:(z.1.map qR)[(el l k).from_.toNat]? = some (qR (el z.1 (el l k).from_.toNat)):=by rw [Ç,DH z.1 _ (by omega)]; rfl
  have e2:(z.1.map qR)[(el l k).to.toNat]? = some (qR (el z.1 (el l k).to.toNat)):=by rw [Ç,DH z.1 _ (by omega)]; rfl
  have b:=q3 (el l k).from_.toNat (by omega)
  rw [Á ⟨g1,by rw [È]; omega⟩,e1,À,aH3 (by omega) (by omega) ⟨g5,g6⟩,À,Á ⟨g3,by rw [È]; omega⟩,e2,À,aBu,À,DH z.2.1 _ (by omega),aO (by omega)]
  unfold iN
  rw [eP aJ l k hk]
  have e3:c9.src (aJ (el l k)) = (el l k).from_.toNat:=rfl
  have e4:c9.dst (aJ (el l k)) = (el l k).to.toNat:=rfl
  rw [e3,e4]
  split
  ·rename_i hc
   have c1:0 <= (el l k).to ∧ (el l k).to.toNat < (z.1.map qR).length:=⟨g3,by rw [È]; omega⟩
   have c2:0 <= (el l k).to ∧ (el l k).to.toNat < z.2.1.length:=⟨g3,by omega⟩
   simp only [Á c1,Á c2,À,aCJ,e2]
  ·rfl
 ·rintro a rfl
  refine ⟨_,?_,rfl⟩
  unfold fI
  rw [Ã (by simp)]
end
section
open Go.RowKit Vm
theorem Y2 {n:Nat} {l:List aC} (hl:∀ g ∈ l,GI n g):∀ (f:Nat) (best:List J3) (last:List Int) (B:Int) (b:List J3) (la:List Int),best.length = n->last.length = n->E7 n B best->0 <= B->B + (f * l.length:Nat) <= 4611686018427387904 ->
  Z9 fN kO c9.src c9.dst (l.map aJ) f best last = some (b,la)->mX l true (best.map qR) last = some (b.map qR,la)
 | 0,best,last,B,b,la,_,_,_,_,_,h=>by cases h
 | f + 1,best,last,B,b,la,hb,hla,hB,hB0,hBf,h=>by
  have hmul:(f + 1) * l.length = f * l.length + l.length:=Nat.succ_mul f l.length
  have hr:=aEd hl hb hla hB hB0 (by omega)
  obtain ⟨q1,q2,q3⟩:=OW hl hb hla hB hB0 l.length (É _)
  have e0:tY fN kO c9.src c9.dst (l.map aJ) best last = (List.range l.length).foldl (iN fN kO c9.src c9.dst (l.map aJ)) (best,last,false):=by unfold tY; rw [È]
  rw [← e0] at q1 q2 q3
  simp only [Z9] at h
  generalize tY fN kO c9.src c9.dst (l.map aJ) best last = z at *
  unfold mX
  rw [uW (s':=(z.2.2,z.1.map qR,z.2.1)) (by unfold iY; rw [Á rfl,hr]; rfl)]
  split at h
  ·rename_i hc
   rw [hc]
   exact Y2 hl f z.1 z.2.1 (B + l.length) b la q1 q2 q3 (by omega) (by omega) h
  ·rename_i hc
   cases h
   exact pJ (by unfold iY; exact Ã hc)
def VQ (n:Nat) (too:List Int):List J3:=(List.range n).map fun v=>⟨0,0,decide (el too v > 0)⟩
theorem GV (n:Nat) (too:List Int):(VQ n too).length = n:=by simp [VQ]
theorem U6 {n:Nat} (too:List Int) {v:Nat} (h:v < n):el (VQ n too) v = ⟨0,0,decide (el too v > 0)⟩:=by
 simp [VQ,el,h]
theorem FO {α:Type} [Inhabited α] {a b:List α} (h:a.length = b.length) (he:∀ i,i < a.length->el a i = el b i):a = b:=by
 apply List.ext_getElem h
 intro i h1 h2
 have:=he i h1
 simpa [el,h1,h2] using this
theorem aEW {n:Nat} (hn:n <= 100000) (l:List aC) {too:List Int} (ht:too.length = n):m7 n l too 0 (List.replicate n ((aE.mk 0 0 false):aE)) = some ((VQ n too).map qR):=by
 unfold m7
 suffices hh:∃ x,bV (fun (w:Int × List aE)=>dE n l too w.1 w.2) (0,List.replicate n ((aE.mk 0 0 false):aE)) = some x ∧ x = (VQ n too).map qR by
  obtain ⟨x,h1,h2⟩:=hh
  rw [h2] at h1; exact h1
 refine bO (step:=fun (w:Int × List aE)=>dE n l too w.1 w.2) (fun k (a:List aE)=>((k:Int),a)) n
  (fun k a=>a.length = n ∧ ∀ v,v < n->el a v = if v < k then (aE.mk 0 0 (decide (el too v > 0)):aE) else (aE.mk 0 0 false:aE)) _ ?_ ?_ _ ?_
 ·rintro k a hk ⟨h1,h2⟩
  refine .inl ⟨a.set k (aE.mk 0 0 (decide (el too k > 0))),?_,by simp [h1],fun v hv=>?_⟩
  ·show dE n l too k a = _
   unfold dE
   rw [Á (by simpa using hk),bA too k (by omega),À,Á ⟨by omega,by rw [Ä]; omega⟩,Ä,DH a k (by omega),À,aO (by omega),h2 k hk,Ã (Nat.lt_irrefl k)]
  ·rw [bR,h2 v hv]
   by_cases e:v = k
   ·subst e
    rw [Á ⟨rfl,by omega⟩,Á (Ġ _)]
   ·rw [Ã fun q=>e q.1]
    by_cases c:v < k
    ·rw [Á c,Á (by omega)]
    ·rw [Ã c,Ã (by omega)]
 ·rintro a ⟨h1,h2⟩
  refine ⟨a,?_,?_⟩
  ·show dE n l too n a = _
   unfold dE
   rw [Ã (by simp)]
  ·refine FO (by rw [h1,È,GV]) fun v hv=>?_
   rw [h1] at hv
   rw [h2 v hv,Á hv,eP qR _ _ (by rw [GV]; exact hv),U6 too hv]
   rfl
 ·refine ⟨Ë,fun v hv=>?_⟩
  rw [Ã (í _),cY _ _ _ hv]
theorem aQz {n:Nat} (hn:n <= 100000):jU [-1] (n:Int) = some (List.replicate n (-1)):=by
 show (if 0 <= (n:Int) ∧ (n:Int) <= 100000 then some (List.replicate (n:Int).toNat (-1:Int)) else none) = _
 rw [Á (by omega),Ä]
theorem aGv {n:Nat} (hn:n <= 1000) {l:List aC} (hl:∀ g ∈ l,GI n g) (hll:l.length <= 100000) {too:List Int} (ht:too.length = n) {p:Nat->Int} (hp:Pot c9.src c9.dst c9.cost (l.map aJ) p) :
  ∃ (best:List J3) (last:List Int),jF n l too = some (best.map qR,last) ∧ best.length = n ∧ last.length = n ∧
   P6 n (l.map aJ) (fun v=>(el best v).fine = true) (fun v=>decide (el too v > 0) = true) (fun v=>(el best v).c) (fun v=>(el best v).k.toNat) last:=by
 have hs:∀ i,i < (l.map aJ).length->(el (l.map aJ) i).src < n ∧ (el (l.map aJ) i).dst < n:=by
  intro i hi
  rw [È] at hi
  rw [eP aJ l i hi]
  have hg:=hl (el l i) (by rw [show el l i = l[i] from by simp [el,hi]]; exact ú _)
  obtain ⟨⟨g1,g2⟩,⟨g3,g4⟩,g5,g6⟩:=hg
  simp only [c9.src,c9.dst,aJ]
  omega
 obtain ⟨best,last,h1,h2,h3,h4⟩:=aFc hp (fun v=>decide (el too v > 0)) hs (GV n too) (fun v hv=>U6 too hv) (fuel:=n + 1) (É _)
 refine ⟨best,last,?_,h2,h3,h4⟩
 unfold jF
 have hmul:(n + 1) * l.length <= 1001 * 100000:=ř (by omega) hll
 rw [Á (by omega),Ä,aEW (by omega) l ht,À,È,GV]
 rw [aQz (by omega),À,Y2 hl (n + 1) _ _ 0 best last (GV n too) (by simp) (fun v hv=>by rw [U6 too hv]; simp) (by omega) (by omega) h1]
 rfl
end
section
open Go.RowKit Vm
structure D5 (n:Nat) (dues:List aI):Prop where
 nn:n <= 40
 len:dues.length <= 100
 each:∀ i,i < dues.length->(0 <= (el dues i).From ∧ (el dues i).From < n) ∧ (0 <= (el dues i).To ∧ (el dues i).To < n) ∧ (el dues i).From ≠ (el dues i).To ∧ 1 <= (el dues i).Sum ∧ (el dues i).Sum <= 1099511627776
def iH (dues:List aI) (i:Nat):Nat:=(el dues i).From.toNat
def i7 (dues:List aI) (i:Nat):Nat:=(el dues i).To.toNat
def jN (dues:List aI) (i:Nat):Int:=(el dues i).Sum
def pD (dues:List aI) (x:Nat->Int) (i:Nat) (b:Bool):aC :=
 ⟨i,if b = true then (el dues i).To else (el dues i).From,if b = true then (el dues i).From else (el dues i).To,if b = true then 1 else -1,if b = true then x i else (el dues i).Sum - x i,b⟩
def H3 (dues:List aI) (x:Nat->Int) (i:Nat):List aC :=
 (if x i < (el dues i).Sum then [pD dues x i false] else []) ++ (if x i > 0 then [pD dues x i true] else [])
def iV (dues:List aI) (x:Nat->Int) (m:Nat):List aC:=(List.range m).flatMap (H3 dues x)
theorem aBa (dues:List aI) (x:Nat->Int) (i:Nat):(H3 dues x i).length <= 2:=by
 unfold H3
 rw [ß]
 split <;> split <;> simp
theorem QA (dues:List aI) (x:Nat->Int) (m:Nat):iV dues x (m + 1) = iV dues x m ++ H3 dues x m:=by
 simp [iV,Ĉ,Ī]
theorem DX (dues:List aI) (x:Nat->Int):∀ m,(iV dues x m).length <= 2 * m
 | 0=>by simp [iV]
 | m + 1=>by
  have:=DX dues x m
  have:=aBa dues x m
  rw [QA,ß]; omega
section
variable {n:Nat} {dues:List aI} {sums:List Int}
theorem D5.fr (h:D5 n dues):∀ i,i < dues.length->iH dues i < n:=fun i hi=>by have:=h.each i hi; unfold iH; omega
theorem D5.tt (h:D5 n dues):∀ i,i < dues.length->i7 dues i < n:=fun i hi=>by have:=h.each i hi; unfold i7; omega
theorem aBq (h:D5 n dues) (hl:sums.length = dues.length) (hr:InR (jN dues) dues.length (el sums)):jM dues sums = some (iV dues (el sums) dues.length):=by
 unfold jM w6
 suffices hh:∃ x,bV (fun (w:Int × List aC)=>e9 dues sums w.1 w.2) (0,[]) = some x ∧ x = iV dues (el sums) dues.length by
  obtain ⟨x,h1,h2⟩:=hh
  rw [h1,h2]; rfl
 have hlen:=h.len
 refine bO (step:=fun (w:Int × List aC)=>e9 dues sums w.1 w.2) (fun k (a:List aC)=>((k:Int),a)) dues.length (fun k a=>a = iV dues (el sums) k) _ ?_ ?_ _ rfl
 ·rintro k a hk rfl
  refine .inl ⟨iV dues (el sums) (k + 1),?_,rfl⟩
  have hsl:=DX dues (el sums) k
  have hx:=hr k hk
  have hd:=h.each k hk
  unfold jN at hx
  show e9 dues sums k (iV dues (el sums) k) = _
  unfold e9
  rw [Á (by simpa using hk),bA dues k hk,À,bA sums k (by omega),À,aO (by omega),QA]
  have hj:∀ L:List aC,L.length <= 2 * k + 1->m9 dues sums k (el dues k) L = some (L ++ if el sums k > 0 then [pD dues (el sums) k true] else []):=by
   intro L hL
   unfold m9
   rw [bA sums k (by omega),À]
   by_cases c:el sums k > 0
   ·rw [Á (by simpa using c),Á c,À,Á (by omega)]; rfl
   ·rw [Ã (by simpa using c),Ã c,Û]
  by_cases c:el sums k < (el dues k).Sum
  ·rw [Á (by simpa using c),À,Á (by omega),gL (by omega) (by omega),hj _ (by simp; omega),À]
   unfold H3
   rw [Á c,← è]; rfl
  ·rw [Ã (by simpa using c),hj _ (by omega),À]
   unfold H3
   rw [Ã c,Đ]
 ·rintro a rfl
  refine ⟨_,?_,rfl⟩
  show e9 dues sums dues.length _ = _
  unfold e9
  rw [Ã (by simp)]
theorem D1 {x:Nat->Int} {m:Nat} {g:aC}:g ∈ iV dues x m ↔ ∃ i b,i < m ∧ g = pD dues x i b ∧ 0 < (pD dues x i b).most:=by
 unfold iV H3
 rw [Ð]
 constructor
 ·rintro ⟨i,hi,hg⟩
  rw [Ď] at hi
  rcases Ê.1 hg with q | q
  ·split at q
   ·rename_i c
    exact ⟨i,false,hi,by simpa using q,by simp [pD]; omega⟩
   ·cases q
  ·split at q
   ·rename_i c
    exact ⟨i,true,hi,by simpa using q,by simp [pD]; omega⟩
   ·cases q
 ·rintro ⟨i,b,hi,rfl,hm⟩
  refine ⟨i,Ď.2 hi,Ê.2 ?_⟩
  cases b
  ·left
   have:x i < (el dues i).Sum:=by simp [pD] at hm; omega
   rw [Á this]; simp
  ·right
   have:x i > 0:=by simpa [pD] using hm
   rw [Á this]; simp
theorem pI (h:D5 n dues) {x:Nat->Int} {i:Nat} (hi:i < dues.length) (b:Bool):aJ (pD dues x i b) = G8 (iH dues) (i7 dues) (jN dues) x QF i b:=by
 have:=h.each i hi
 cases b <;> simp [aJ,pD,G8,iH,i7,jN,QF] <;> omega
theorem UE (h:D5 n dues) (x:Nat->Int):lY (iH dues) (i7 dues) (jN dues) dues.length x (fun _ _=>True) QF ((iV dues x dues.length).map aJ):=by
 constructor
 ·intro k hk
  rw [È] at hk
  rw [eP aJ _ k hk]
  obtain ⟨i,b,hi,e,hm⟩:=D1.1 (show el (iV dues x dues.length) k ∈ iV dues x dues.length by rw [show el (iV dues x dues.length) k = (iV dues x dues.length)[k] from by simp [el,hk]]; exact ú _)
  refine ⟨i,b,hi,trivial,?_,by rw [e,pI h hi]⟩
  rw [← pI h hi]
  exact hm
 ·intro i b hi _ hm
  rw [← pI h hi] at hm
  have:=(D1 (dues:=dues) (x:=x) (m:=dues.length)).2 ⟨i,b,hi,rfl,hm⟩
  obtain ⟨k,hk,e⟩:=ē.1 this
  refine ⟨k,by rw [È]; exact hk,?_⟩
  rw [eP aJ _ k hk,← pI h hi,← e]
  simp [el,hk]
theorem ZD (h:D5 n dues) (x:Nat->Int):∀ g ∈ iV dues x dues.length,GI n g:=by
 intro g hg
 obtain ⟨i,b,hi,rfl,_⟩:=D1.1 hg
 have:=h.each i hi
 cases b <;> simp [GI,pD] <;> omega
end
end
section
open Go.RowKit Vm
def ZC (l:List aC) (a:Int) (ks:List Nat):Int:=ks.foldl (fun a k=>if (el l k).most < a then (el l k).most else a) a
theorem aBJ (l:List aC):∀ (ks:List Nat) (a:Int),ZC l a ks <= a ∧ ∀ k ∈ ks,ZC l a ks <= (el l k).most
 | [],a=>⟨į _,fun k h=>by cases h⟩
 | k :: ks,a=>by
  obtain ⟨h1,h2⟩:=aBJ l ks (if (el l k).most < a then (el l k).most else a)
  have e:ZC l a (k :: ks) = ZC l (if (el l k).most < a then (el l k).most else a) ks:=rfl
  rw [e]
  have hc:(if (el l k).most < a then (el l k).most else a) <= a ∧ (if (el l k).most < a then (el l k).most else a) <= (el l k).most:=by split <;> omega
  refine ⟨by omega,fun j hj=>?_⟩
  rcases Ô.1 hj with rfl | hj
  ·omega
  ·exact h2 j hj
theorem X0 (l:List aC):∀ (ks:List Nat) (a:Int),0 < a->(∀ k ∈ ks,0 < (el l k).most)->0 < ZC l a ks
 | [],a,h,_=>h
 | k :: ks,a,h,hk=>by
  have e:ZC l a (k :: ks) = ZC l (if (el l k).most < a then (el l k).most else a) ks:=rfl
  rw [e]
  refine X0 l ks _ ?_ fun j hj=>hk j (Õ _ hj)
  have:=hk k (à ..)
  split <;> omega
section
variable {n:Nat} {l:List aC} {last:List Int}
theorem QR {v k:Nat} (hv:v < last.length) (hl:el last v = (k:Int)) (hk:k < l.length):last[(v:Int).toNat]? = some (k:Int) ∧ l[(k:Int).toNat]? = some (el l k):=by
 rw [Ä,Ä,DH last v hv,DH l k hk,hl]
 exact ⟨rfl,rfl⟩
theorem aBF {k:Nat} (hl:∀ g ∈ l,GI n g) (hk:k < l.length):(el (l.map aJ) k).src < n ∧ (el l k).from_ = ((el (l.map aJ) k).src:Nat):=by
 rw [eP aJ l k hk]
 have hg:=hl (el l k) (by rw [show el l k = l[k] from by simp [el,hk]]; exact ú _)
 obtain ⟨⟨g1,g2⟩,_⟩:=hg
 simp only [c9.src,aJ]
 omega
theorem aHZ (hl:∀ g ∈ l,GI n g) (hla:last.length = n) (a0:Int) (a1:List aI) (p12 p13:List Int) (best:List aE) (r27:Int) {v u:Nat} {ks:List Nat} (w:Pth (l.map aJ) last v ks u):v < n->∀ most:Int,jL a0 a1 p12 p13 l (best,last) r27 most v = some (ZC l most ks,(u:Int)):=by
 induction w with
 | nil v hv =>
  intro hvn most
  unfold jL
  refine pJ ?_
  show fS a0 a1 p12 p13 l (best,last) r27 most v = _
  unfold fS
  dsimp only
  rw [Á ⟨by omega,by rw [Ä]; omega⟩,Ä,DH last v (by omega),hv]
  rfl
 | @cons v k u ks hk hlv hd w ih =>
  intro hvn most
  rw [È] at hk
  obtain ⟨q1,q2⟩:=aBF hl hk
  obtain ⟨b1,b2⟩:=QR (l:=l) (last:=last) (by omega:v < last.length) hlv hk
  unfold jL
  rw [uW (s':=((if (el l k).most < most then (el l k).most else most),(el l k).from_)) ?_]
  ·have:=ih q1 (if (el l k).most < most then (el l k).most else most)
   unfold jL at this
   rw [q2]
   exact this
  ·show fS a0 a1 p12 p13 l (best,last) r27 most v = _
   unfold fS
   dsimp only
   have cv:0 <= (v:Int) ∧ (v:Int).toNat < last.length:=⟨by omega,by rw [Ä]; omega⟩
   have ck:0 <= (k:Int) ∧ (k:Int).toNat < l.length:=⟨by omega,by rw [Ä]; exact hk⟩
   have cg:decide ((k:Int) ≥ 0) = true:=by simp
   simp only [Á cv,Á ck,b1,b2,À,Á cg]
theorem aFo (hl:∀ g ∈ l,GI n g) (hla:last.length = n) (a0:Int) (a1:List aI) (a3:List Int) (a4:Int) (p5:List Int) (best:List aE) {v u:Nat} {ks:List Nat} (w:Pth (l.map aJ) last v ks u):v < n->∀ most:Int,kQ a0 a1 a3 a4 p5 l (best,last) most v = some (ZC l most ks):=by
 induction w with
 | nil v hv =>
  intro hvn most
  unfold kQ
  refine pJ ?_
  show gO a0 a1 a3 a4 p5 l (best,last) most v = _
  unfold gO
  dsimp only
  rw [Á ⟨by omega,by rw [Ä]; omega⟩,Ä,DH last v (by omega),hv]
  rfl
 | @cons v k u ks hk hlv hd w ih =>
  intro hvn most
  rw [È] at hk
  obtain ⟨q1,q2⟩:=aBF hl hk
  obtain ⟨b1,b2⟩:=QR (l:=l) (last:=last) (by omega:v < last.length) hlv hk
  unfold kQ
  rw [uW (s':=((if (el l k).most < most then (el l k).most else most),(el l k).from_)) ?_]
  ·have:=ih q1 (if (el l k).most < most then (el l k).most else most)
   unfold kQ at this
   rw [q2]
   exact this
  ·show gO a0 a1 a3 a4 p5 l (best,last) most v = _
   unfold gO
   dsimp only
   have cv:0 <= (v:Int) ∧ (v:Int).toNat < last.length:=⟨by omega,by rw [Ä]; omega⟩
   have ck:0 <= (k:Int) ∧ (k:Int).toNat < l.length:=⟨by omega,by rw [Ä]; exact hk⟩
   have cg:decide ((k:Int) ≥ 0) = true:=by simp
   simp only [Á cv,Á ck,b1,b2,À,Á cg]
theorem aKV {g:aC} {x:List Int} {d B D:Int} (h0:0 <= g.due) (hd:g.due.toNat < x.length) (hx:∀ i,-B <= el x i ∧ el x i <= B) (hd0:0 <= d) (hdD:d <= D) (hB:B + D <= 4611686018427387904) :
  gN g x d = some (x.set g.due.toNat (el x g.due.toNat + XQ (aJ g) d)):=by
 have hj:∀ e:Int,-D <= e->e <= D->iZ g x e = some (x.set g.due.toNat (el x g.due.toNat + e)):=by
  intro e h1 h2
  have:=hx g.due.toNat
  unfold iZ
  rw [Á ⟨h0,hd⟩,DH x _ hd,À,Á ⟨h0,hd⟩,À,gL (by omega) (by omega)]
 unfold gN
 have hB0:=hx 0
 by_cases c:g.back = true
 ·rw [Á c,gL (by omega) (by omega),hj _ (by omega) (by omega),À]
  simp [XQ,aJ,c]
 ·rw [Ã c,hj _ (by omega) hdD,À]
  simp [XQ,aJ,c]
theorem aA0 {x:List Int} {i:Nat} {a B D:Int} (hx:∀ i,-B <= el x i ∧ el x i <= B) (h1:-(B + D) <= a) (h2:a <= B + D) (hD:0 <= D):∀ j,-(B + D) <= el (x.set i a) j ∧ el (x.set i a) j <= B + D:=by
 intro j
 rw [bR]
 have:=hx j
 split <;> omega
theorem aI6 (hl:∀ g ∈ l,GI n g) (hla:last.length = n) {m:Nat} (hdue:∀ g ∈ l,0 <= g.due ∧ g.due < m) (a0:Int) (a1:List aI) (p12:List Int) (best:List aE) (r27:Int) (r38:Int × Int) (x39:Int) {D:Int} (hd0:0 <= (if x39 < r38.1 then x39 else r38.1)) (hdD:(if x39 < r38.1 then x39 else r38.1) <= D) {v u:Nat} {ks:List Nat} (w:Pth (l.map aJ) last v ks u):v < n->∀ (x:List Int) (B:Int),x.length = m->(∀ i,-B <= el x i ∧ el x i <= B)->B + (ks.length:Int) * D <= 4611686018427387904 ->
  jK a0 a1 p12 l (best,last) r27 r38 x39 v x = some (u0 (l.map aJ) (if x39 < r38.1 then x39 else r38.1) x ks):=by
 induction w with
 | nil v hv =>
  intro hvn x B hxm hx hB
  unfold jK
  refine pJ ?_
  show fP a0 a1 p12 l (best,last) r27 r38 x39 v x = _
  unfold fP
  dsimp only
  rw [Á ⟨by omega,by rw [Ä]; omega⟩,Ä,DH last v (by omega),hv]
  rfl
 | @cons v k u ks hk hlv hd w ih =>
  intro hvn x B hxm hx hB
  rw [È] at hk
  obtain ⟨q1,q2⟩:=aBF hl hk
  obtain ⟨b1,b2⟩:=QR (l:=l) (last:=last) (by omega:v < last.length) hlv hk
  have hg:=hdue (el l k) (by rw [show el l k = l[k] from by simp [el,hk]]; exact ú _)
  have hD0:0 <= D:=by omega
  have hks:((k :: ks).length:Int) * D = (ks.length:Int) * D + D:=by
   rw [ï]; rw [show ((ks.length + 1:Nat):Int) = (ks.length:Int) + 1 by omega,Int.add_mul,Int.one_mul]
  have hpos:0 <= (ks.length:Int) * D:=Int.mul_nonneg (by omega) hD0
  have hmv:=aKV (g:=el l k) (x:=x) (B:=B) hg.1 (by omega) hx hd0 hdD (by omega)
  unfold jK
  rw [uW (s':=((el l k).from_,x.set (el l k).due.toNat (el x (el l k).due.toNat + XQ (aJ (el l k)) (if x39 < r38.1 then x39 else r38.1)))) ?_]
  ·have hsg:-D <= XQ (aJ (el l k)) (if x39 < r38.1 then x39 else r38.1) ∧ XQ (aJ (el l k)) (if x39 < r38.1 then x39 else r38.1) <= D:=by unfold XQ; split <;> omega
   have hxd:=hx (el l k).due.toNat
   have:=ih q1 (x.set (el l k).due.toNat (el x (el l k).due.toNat + XQ (aJ (el l k)) (if x39 < r38.1 then x39 else r38.1))) (B + D) (by rw [á]; exact hxm) (aA0 hx (by omega) (by omega) hD0) (by omega)
   unfold jK at this
   rw [q2,this,u0,eP aJ l k hk]
   rfl
  ·show fP a0 a1 p12 l (best,last) r27 r38 x39 v x = _
   unfold fP
   dsimp only
   have cv:0 <= (v:Int) ∧ (v:Int).toNat < last.length:=⟨by omega,by rw [Ä]; omega⟩
   have ck:0 <= (k:Int) ∧ (k:Int).toNat < l.length:=⟨by omega,by rw [Ä]; exact hk⟩
   have cg:decide ((k:Int) ≥ 0) = true:=by simp
   simp only [Á cv,Á ck,b1,b2,À,Á cg,hmv]
end
end
section
open Go.RowKit Vm
theorem QQ (fr tt:Nat->Nat) (k:Nat) (x:Nat->Int) (v:Nat):netF fr tt (k + 1) x v = netF fr tt k x v + ((if tt k = v then x k else 0) - (if fr k = v then x k else 0)):=rfl
theorem SR {fr tt:Nat->Nat} {x:Nat->Int} {S:Int} (hS:0 <= S):∀ k,(∀ i,i < k->0 <= x i ∧ x i <= S)->∀ v,-((k:Int) * S) <= netF fr tt k x v ∧ netF fr tt k x v <= (k:Int) * S
 | 0,_,v=>by simp [netF,eY]
 | k + 1,h,v=>by
  have:=SR hS k (fun i hi=>h i (by omega)) v (fr:=fr) (tt:=tt)
  have hk:=h k (by omega)
  rw [QQ,show ((k + 1:Nat):Int) * S = (k:Int) * S + S by rw [show ((k + 1:Nat):Int) = (k:Int) + 1 by omega,Int.add_mul,Int.one_mul]]
  split <;> split <;> omega
section
variable {n:Nat} {dues:List aI} {sums:List Int}
def X2 (n:Nat) (dues:List aI) (x:Nat->Int):List Int:=(List.range n).map fun v=>netF (iH dues) (i7 dues) dues.length x v
theorem Y8 (x:Nat->Int):(X2 n dues x).length = n:=by simp [X2]
theorem aBx (x:Nat->Int) {v:Nat} (hv:v < n):el (X2 n dues x) v = netF (iH dues) (i7 dues) dues.length x v:=by simp [X2,el,hv]
theorem aRa (h:D5 n dues) (hl:sums.length = dues.length) (hr:InR (jN dues) dues.length (el sums)):oF n dues sums 0 (List.replicate n (0:Int)) = some (X2 n dues (el sums)):=by
 unfold oF
 suffices hh:∃ x,bV (fun (w:Int × List Int)=>dU n dues sums w.1 w.2) (0,List.replicate n (0:Int)) = some x ∧ x = X2 n dues (el sums) by
  obtain ⟨x,h1,h2⟩:=hh
  rw [h1,h2]
 have hlen:=h.len
 have hS:∀ i,i < dues.length->0 <= el sums i ∧ el sums i <= 1099511627776:=fun i hi=>by have:=hr i hi; have:=h.each i hi; unfold jN at *; omega
 refine bO (step:=fun (w:Int × List Int)=>dU n dues sums w.1 w.2) (fun k (a:List Int)=>((k:Int),a)) dues.length (fun k a=>a.length = n ∧ ∀ v,v < n->el a v = netF (iH dues) (i7 dues) k (el sums) v) _ ?_ ?_ _ ⟨Ë,fun v hv=>by rw [cY _ _ _ hv]; rfl⟩
 ·rintro k a hk ⟨h1,h2⟩
  obtain ⟨⟨f1,f2⟩,⟨t1,t2⟩,hne,_⟩:=h.each k hk
  have hx:=hS k hk
  have hb:=SR (fr:=iH dues) (tt:=i7 dues) (x:=el sums) (S:=1099511627776) (by omega) k fun i hi=>hS i (by omega)
  have hk100:(k:Int) * 1099511627776 <= 100 * 1099511627776:=by omega
  have hT:(el dues k).To.toNat < n:=by omega
  have hF:(el dues k).From.toNat < n:=by omega
  have bT:=hb (el dues k).To.toNat
  have bF:=hb (el dues k).From.toNat
  have hnf:¬ (el dues k).From.toNat = (el dues k).To.toNat:=by omega
  refine .inl ⟨(a.set (el dues k).To.toNat (el a (el dues k).To.toNat + el sums k)).set (el dues k).From.toNat (el a (el dues k).From.toNat - el sums k),?_,by simp [h1],fun v hv=>?_⟩
  ·show dU n dues sums k a = _
   unfold dU
   have c0:decide ((k:Int) < (dues.length:Int)) = true:=by simpa using hk
   have cT:0 <= (el dues k).To ∧ (el dues k).To.toNat < a.length:=⟨t1,by omega⟩
   have ck:0 <= (k:Int) ∧ (k:Int).toNat < sums.length:=⟨by omega,by rw [Ä]; omega⟩
   have eS:sums[(k:Int).toNat]? = some (el sums k):=by rw [Ä]; exact DH sums k (by omega)
   have eT:a[(el dues k).To.toNat]? = some (el a (el dues k).To.toNat):=DH a _ (by omega)
   have w1:IntKind.wrap .i64 (el a (el dues k).To.toNat + el sums k) = el a (el dues k).To.toNat + el sums k:=gL (by rw [h2 _ hT]; omega) (by rw [h2 _ hT]; omega)
   have cF:0 <= (el dues k).From ∧ (el dues k).From.toNat < (a.set (el dues k).To.toNat (el a (el dues k).To.toNat + el sums k)).length:=⟨f1,by rw [á]; omega⟩
   have eF:(a.set (el dues k).To.toNat (el a (el dues k).To.toNat + el sums k))[(el dues k).From.toNat]? = some (el a (el dues k).From.toNat):=by
    rw [DH _ _ (by rw [á]; omega),bR,Ã fun q=>hnf q.1]
   have w2:IntKind.wrap .i64 (el a (el dues k).From.toNat - el sums k) = el a (el dues k).From.toNat - el sums k:=gL (by rw [h2 _ hF]; omega) (by rw [h2 _ hF]; omega)
   have w3:=aO (n:=k) (by omega)
   simp only [Á c0,bA dues k hk,À,Á cT,eT,Á ck,eS,w1,Á cF,eF,w2,w3]
  ·rw [QQ,bR,á]
   unfold i7 iH
   have h2v:=h2 v hv
   unfold i7 iH at h2v
   by_cases e1:v = (el dues k).From.toNat
   ·have e2:¬ (el dues k).To.toNat = v:=by omega
    rw [Á ⟨e1,by omega⟩,Ã e2,Á e1.symm,← e1,h2v]; omega
   ·have e1' : ¬ (el dues k).From.toNat = v:=fun q=>e1 q.symm
    have e1'' : ¬ (v = (el dues k).From.toNat ∧ (el dues k).From.toNat < a.length):=fun q=>e1 q.1
    rw [Ã e1'',Ã e1',bR]
    by_cases e2:v = (el dues k).To.toNat
    ·rw [Á ⟨e2,by omega⟩,Á e2.symm,← e2,h2v]; omega
    ·have e2' : ¬ (el dues k).To.toNat = v:=fun q=>e2 q.symm
     have e2'' : ¬ (v = (el dues k).To.toNat ∧ (el dues k).To.toNat < a.length):=fun q=>e2 q.1
     rw [Ã e2'',Ã e2',h2v]; omega
 ·rintro a ⟨h1,h2⟩
  refine ⟨a,?_,FO (by rw [h1,Y8]) fun v hv=>by rw [h1] at hv; rw [h2 v hv,aBx _ hv]⟩
  show dU n dues sums dues.length a = _
  unfold dU
  rw [Ã (by simp)]
end
end
section
open Go.RowKit Vm
section
variable {n:Nat} {dues:List aI} {sums:List Int}
theorem aTa (hn:n <= 1000) {too:List Int} (ht:too.length = n) {best:List J3} (hb:best.length = n) (last:List Int) (l:List aC):∃ e:Int,oB n dues too sums l (best.map qR,last) (-1) 0 = some e ∧
  ((e = -1 ∧ ∀ v,v < n->el too v < 0->(el best v).fine = false) ∨ ∃ v:Nat,e = v ∧ v < n ∧ el too v < 0 ∧ (el best v).fine = true):=by
 unfold oB
 refine bO (step:=fun (w:Int × Int)=>aX n dues too sums l (best.map qR,last) w.1 w.2) (fun k (a:Int)=>(a,(k:Int))) n
  (fun k a=>(a = -1 ∧ ∀ v,v < k->el too v < 0->(el best v).fine = false) ∨ ∃ v:Nat,a = v ∧ v < n ∧ el too v < 0 ∧ (el best v).fine = true) _ ?_ ?_ _ (.inl ⟨rfl,fun v hv=>absurd hv (í _)⟩)
 ·intro k a hk hI
  refine .inl ?_
  have c0:decide ((k:Int) < (n:Int)) = true:=by simpa using hk
  have ck:0 <= (k:Int) ∧ (k:Int).toNat < too.length:=⟨by omega,by rw [Ä]; omega⟩
  have ek:too[(k:Int).toNat]? = some (el too k):=by rw [Ä]; exact DH too k (by omega)
  have cb:0 <= (k:Int) ∧ (k:Int).toNat < (best.map qR).length:=⟨by omega,by rw [Ä,È]; omega⟩
  have eb:(best.map qR)[(k:Int).toNat]? = some (qR (el best k)):=by rw [Ä,Ç,DH best k (by omega)]; rfl
  have w3:=aO (n:=k) (by omega)
  have hfine:(qR (el best k)).fine = (el best k).fine:=rfl
  by_cases hneg:el too k < 0
  ·have cn:decide (el too k < 0) = true:=by simpa using hneg
   rcases hI with ⟨rfl,hI⟩ | ⟨v,rfl,hv,hv1,hv2⟩
   ·have ce:decide ((-1:Int) < 0) = true:=rfl
    have cg:¬ decide ((-1:Int) ≥ 0) = true:=by decide
    by_cases hf:(el best k).fine = true
    ·refine ⟨(k:Int),?_,.inr ⟨k,rfl,hk,hneg,hf⟩⟩
     show aX n dues too sums l (best.map qR,last) (-1) k = _
     unfold aX
     simp only [Á c0,Á ck,ek,À,Á cn,Á ce,Á cb,eb,hfine,Á hf,w3]
    ·refine ⟨-1,?_,.inl ⟨rfl,fun v hv hvn=>?_⟩⟩
     ·show aX n dues too sums l (best.map qR,last) (-1) k = _
      unfold aX
      simp only [Á c0,Á ck,ek,À,Á cn,Á ce,Á cb,eb,hfine,Ã hf,Ã cg,w3]
     ·by_cases e:v = k
      ·subst e; simpa using hf
      ·exact hI v (by omega) hvn
   ·have ce:¬ decide ((v:Int) < 0) = true:=by simp
    have cg:decide ((v:Int) ≥ 0) = true:=by simp
    have cv:0 <= (v:Int) ∧ (v:Int).toNat < (best.map qR).length:=⟨by omega,by rw [Ä,È]; omega⟩
    have ev:(best.map qR)[(v:Int).toNat]? = some (qR (el best v)):=by rw [Ä,Ç,DH best v (by omega)]; rfl
    by_cases hls:fN (el best k) (el best v) = true
    ·refine ⟨(k:Int),?_,.inr ⟨k,rfl,hk,hneg,((DW _ _).1 hls).1⟩⟩
     show aX n dues too sums l (best.map qR,last) v k = _
     unfold aX
     simp only [Á c0,Á ck,ek,À,Á cn,Ã ce,Á cg,Á cb,eb,Á cv,ev,aBu,Á hls,w3]
    ·refine ⟨(v:Int),?_,.inr ⟨v,rfl,hv,hv1,hv2⟩⟩
     show aX n dues too sums l (best.map qR,last) v k = _
     unfold aX
     simp only [Á c0,Á ck,ek,À,Á cn,Ã ce,Á cg,Á cb,eb,Á cv,ev,aBu,Ã hls,w3]
  ·have cn:¬ decide (el too k < 0) = true:=by simpa using hneg
   refine ⟨a,?_,?_⟩
   ·show aX n dues too sums l (best.map qR,last) a k = _
    unfold aX
    simp only [Á c0,Á ck,ek,À,Ã cn,w3]
   ·rcases hI with ⟨h1,h2⟩ | q
    ·refine .inl ⟨h1,fun v hv hvn=>?_⟩
     by_cases e:v = k
     ·subst e; exact absurd hvn hneg
     ·exact h2 v (by omega) hvn
    ·exact .inr q
 ·intro a hI
  refine ⟨a,?_,hI⟩
  show aX n dues too sums l (best.map qR,last) a n = _
  unfold aX
  rw [Ã (by simp)]
end
end
end Go.Proofs.Ytgjcnbgfaimepaa
