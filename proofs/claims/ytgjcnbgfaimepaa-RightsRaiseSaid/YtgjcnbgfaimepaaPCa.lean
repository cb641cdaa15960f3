/- Clearing: the search for the cheapest ways is rounds of relaxations. Clearing: cheapest finds the cheapest ways. Clearing: the steps of a clearing. Clearing: walking back along the last steps, and moving sums along them. Clearing: balancing. Clearing: which merchant with too little is next. -/
import Derived.Test.YtgjcnbgfaimepaaFn
import Derived.Test.YtgjcnbgfaimepaaLoops3
import Derived.Test.YtgjcnbgfaimepaaFlM
set_option linter.unusedVariables false
set_option linter.unusedSimpArgs false
namespace Go.Proofs.Ytgjcnbgfaimepaa
open Go.RowKit Vm
def aW (g:aC):fI:=⟨g.due,g.from_,g.to,g.cost,g.most,g.back⟩
def lY (a:RL):aD:=⟨a.c,a.k,a.fine⟩
theorem gK {α β:Type} [Inhabited α] [Inhabited β] (f:α->β) (l:List α) (i:Nat) (h:i < l.length):el (l.map f) i = f (el l i):=by
 simp [el,h]
theorem EG {α:Type} [Inhabited α] (l:List α) (i:Nat) (h:i < l.length):l[i]? = some (el l i):=by
 simp [el,h]
theorem bU {α:Type} [Inhabited α] (l:List α) (i:Nat) (h:i < l.length):at? l (i:Int) = some (el l i):=by
 rw [at?_nat]; exact EG l i h
theorem aLj {α β:Type} (f:α->β) (l:List α) (i:Nat) (x:α):(l.set i x).map f = (l.map f).set i (f x):=by
 rw [List.map_set]
def JW (n:Nat) (g:aC):Prop:=(0 <= g.from_ ∧ g.from_ < n) ∧ (0 <= g.to ∧ g.to < n) ∧ (-1 <= g.cost ∧ g.cost <= 1)
theorem aF6 {a:RL} {g:aC} (h1:-4611686018427387904 <= a.c ∧ a.c <= 4611686018427387904) (h2:0 <= a.k ∧ a.k <= 4611686018427387904) (hc:-1 <= g.cost ∧ g.cost <= 1) :
  gJ (lY a) g = some (lY (u9 a (aW g))):=by
 unfold gJ
 simp only [lY,u9,aW]
 rw [lL (by omega) (by omega),lL (by omega) (by omega)]
theorem V5 (a b:RL):eZ (lY a) (lY b) = some (nY a b):=by
 unfold eZ
 simp only [lY,nY]
 by_cases h1:a.fine = true <;> by_cases h2:b.fine = true <;> by_cases h3:a.c < b.c <;> by_cases h4:a.c = b.c <;> simp [h1,h2,h3,h4] <;> exact decide_eq_decide.2 Iff.rfl
def QN (n:Nat) (B:Int) (best:List RL):Prop:=∀ v,v < n->-B <= (el best v).c ∧ (el best v).c <= B ∧ 0 <= (el best v).k ∧ (el best v).k <= B
theorem OL {n:Nat} {l:List aC} {best:List RL} {last:List Int} {B:Int} (hl:∀ g ∈ l,JW n g) (hb:best.length = n) (hla:last.length = n) (h:QN n B best) (hB:0 <= B):∀ k,k <= l.length ->
  (((List.range k).foldl (gN nY u9 fI.src fI.dst (l.map aW)) (best,last,false)).1.length = n ∧ ((List.range k).foldl (gN nY u9 fI.src fI.dst (l.map aW)) (best,last,false)).2.1.length = n ∧ QN n (B + k) ((List.range k).foldl (gN nY u9 fI.src fI.dst (l.map aW)) (best,last,false)).1):=by
 intro k
 induction k with
 | zero=>intro _; exact ⟨hb,hla,by simpa using h⟩
 | succ k ih =>
  intro hk
  obtain ⟨h1,h2,h3⟩:=ih (by omega)
  rw [List.range_succ,List.foldl_append,List.foldl_cons,List.foldl_nil]
  generalize (List.range k).foldl (gN nY u9 fI.src fI.dst (l.map aW)) (best,last,false) = z at *
  have hg:=hl (el l k) (by rw [show el l k = l[k] from by simp [el,show k < l.length by omega]]; exact List.getElem_mem _)
  obtain ⟨⟨g1,g2⟩,⟨g3,g4⟩,g5,g6⟩:=hg
  have hmono:QN n (B + (k + 1:Nat)) z.1:=fun v hv=>by have:=h3 v hv; omega
  unfold gN
  rw [gK aW l k (by omega)]
  split
  ·refine ⟨by simp [h1],by simp [h2],fun v hv=>?_⟩
   dsimp only
   rw [dM]
   split
   ·have:=h3 (el l k).from_.toNat (by omega)
    simp only [u9,aW,fI.src]
    omega
   ·exact hmono v hv
  ·exact ⟨h1,h2,hmono⟩
theorem Y9 {n:Nat} {l:List aC} {best:List RL} {last:List Int} {B:Int} (hl:∀ g ∈ l,JW n g) (hb:best.length = n) (hla:last.length = n) (h:QN n B best) (hB:0 <= B) (hBl:B + l.length <= 4611686018427387904) :
  jQ l false 0 (best.map lY) last = some ((oH nY u9 fI.src fI.dst (l.map aW) best last).2.2,(oH nY u9 fI.src fI.dst (l.map aW) best last).1.map lY,(oH nY u9 fI.src fI.dst (l.map aW) best last).2.1):=by
 unfold jQ oH
 rw [List.length_map]
 suffices hh:∃ x,dK (fun (w:Bool × Int × List aD × List Int)=>dL l w.1 w.2.1 w.2.2.1 w.2.2.2) (false,0,best.map lY,last) = some x ∧ x = (((List.range l.length).foldl (gN nY u9 fI.src fI.dst (l.map aW)) (best,last,false)).2.2,((List.range l.length).foldl (gN nY u9 fI.src fI.dst (l.map aW)) (best,last,false)).1.map lY,((List.range l.length).foldl (gN nY u9 fI.src fI.dst (l.map aW)) (best,last,false)).2.1) by
  obtain ⟨x,h1,h2⟩:=hh
  rw [h2] at h1; exact h1
 refine eQ (step:=fun (w:Bool × Int × List aD × List Int)=>dL l w.1 w.2.1 w.2.2.1 w.2.2.2) (fun k (a:List RL × List Int × Bool)=>(a.2.2,(k:Int),a.1.map lY,a.2.1)) l.length
  (fun k a=>a = (List.range k).foldl (gN nY u9 fI.src fI.dst (l.map aW)) (best,last,false)) (fun x=>x = (((List.range l.length).foldl (gN nY u9 fI.src fI.dst (l.map aW)) (best,last,false)).2.2,((List.range l.length).foldl (gN nY u9 fI.src fI.dst (l.map aW)) (best,last,false)).1.map lY,((List.range l.length).foldl (gN nY u9 fI.src fI.dst (l.map aW)) (best,last,false)).2.1)) ?_ ?_ (best,last,false) rfl
 ·rintro k a hk rfl
  refine .inl ?_
  obtain ⟨q1,q2,q3⟩:=OL hl hb hla h hB k (by omega)
  rw [List.range_succ,List.foldl_append,List.foldl_cons,List.foldl_nil]
  generalize (List.range k).foldl (gN nY u9 fI.src fI.dst (l.map aW)) (best,last,false) = z at *
  have hg:=hl (el l k) (by rw [show el l k = l[k] from by simp [el,hk]]; exact List.getElem_mem _)
  obtain ⟨⟨g1,g2⟩,⟨g3,g4⟩,g5,g6⟩:=hg
  refine ⟨_,?_,rfl⟩
  unfold dL
  rw [if_pos (by simpa using hk),bU l k hk,Option.bind_some]
  have e1:(z.1.map lY)[(el l k).from_.toNat]? = some (lY (el z.1 (el l k).from_.toNat)):=by rw [List.getElem?_map,EG z.1 _ (by omega)]; rfl
  have e2:(z.1.map lY)[(el l k).to.toNat]? = some (lY (el z.1 (el l k).to.toNat)):=by rw [List.getElem?_map,EG z.1 _ (by omega)]; rfl
  have b:=q3 (el l k).from_.toNat (by omega)
  rw [if_pos ⟨g1,by rw [List.length_map]; omega⟩,e1,Option.bind_some,aF6 (by omega) (by omega) ⟨g5,g6⟩,Option.bind_some,if_pos ⟨g3,by rw [List.length_map]; omega⟩,e2,Option.bind_some,V5,Option.bind_some,EG z.2.1 _ (by omega),bC (by omega)]
  unfold gN
  rw [gK aW l k hk]
  have e3:fI.src (aW (el l k)) = (el l k).from_.toNat:=rfl
  have e4:fI.dst (aW (el l k)) = (el l k).to.toNat:=rfl
  rw [e3,e4]
  split
  ·rename_i hc
   have c1:0 <= (el l k).to ∧ (el l k).to.toNat < (z.1.map lY).length:=⟨g3,by rw [List.length_map]; omega⟩
   have c2:0 <= (el l k).to ∧ (el l k).to.toNat < z.2.1.length:=⟨g3,by omega⟩
   simp only [if_pos c1,if_pos c2,Option.bind_some,aLj,e2]
  ·rfl
 ·rintro a rfl
  refine ⟨_,?_,rfl⟩
  unfold dL
  rw [if_neg (by simp)]
end Go.Proofs.Ytgjcnbgfaimepaa
namespace Go.Proofs.Ytgjcnbgfaimepaa
open Go.RowKit Vm
theorem SO {n:Nat} {l:List aC} (hl:∀ g ∈ l,JW n g):∀ (f:Nat) (best:List RL) (last:List Int) (B:Int) (b:List RL) (la:List Int),best.length = n->last.length = n->QN n B best->0 <= B->B + (f * l.length:Nat) <= 4611686018427387904 ->
  SY nY u9 fI.src fI.dst (l.map aW) f best last = some (b,la)->jT l true (best.map lY) last = some (b.map lY,la)
 | 0,best,last,B,b,la,_,_,_,_,_,h=>by cases h
 | f + 1,best,last,B,b,la,hb,hla,hB,hB0,hBf,h=>by
  have hmul:(f + 1) * l.length = f * l.length + l.length:=Nat.succ_mul f l.length
  have hr:=Y9 hl hb hla hB hB0 (by omega)
  obtain ⟨q1,q2,q3⟩:=OL hl hb hla hB hB0 l.length (Nat.le_refl _)
  have e0:oH nY u9 fI.src fI.dst (l.map aW) best last = (List.range l.length).foldl (gN nY u9 fI.src fI.dst (l.map aW)) (best,last,false):=by unfold oH; rw [List.length_map]
  rw [← e0] at q1 q2 q3
  simp only [SY] at h
  generalize oH nY u9 fI.src fI.dst (l.map aW) best last = z at *
  unfold jT
  rw [oE (s':=(z.2.2,z.1.map lY,z.2.1)) (by unfold fQ; rw [if_pos rfl,hr]; rfl)]
  split at h
  ·rename_i hc
   rw [hc]
   exact SO hl f z.1 z.2.1 (B + l.length) b la q1 q2 q3 (by omega) (by omega) h
  ·rename_i hc
   cases h
   exact mE (by unfold fQ; exact if_neg hc)
def NO (n:Nat) (too:List Int):List RL:=(List.range n).map fun v=>⟨0,0,decide (el too v > 0)⟩
theorem BH (n:Nat) (too:List Int):(NO n too).length = n:=by simp [NO]
theorem N0 {n:Nat} (too:List Int) {v:Nat} (h:v < n):el (NO n too) v = ⟨0,0,decide (el too v > 0)⟩:=by
 simp [NO,el,h]
theorem EI {α:Type} [Inhabited α] {a b:List α} (h:a.length = b.length) (he:∀ i,i < a.length->el a i = el b i):a = b:=by
 apply List.ext_getElem h
 intro i h1 h2
 have:=he i h1
 simpa [el,h1,h2] using this
theorem aBv {n:Nat} (hn:n <= 100000) (l:List aC) {too:List Int} (ht:too.length = n):jS n l too 0 (List.replicate n ((aD.mk 0 0 false):aD)) = some ((NO n too).map lY):=by
 unfold jS
 suffices hh:∃ x,dK (fun (w:Int × List aD)=>b9 n l too w.1 w.2) (0,List.replicate n ((aD.mk 0 0 false):aD)) = some x ∧ x = (NO n too).map lY by
  obtain ⟨x,h1,h2⟩:=hh
  rw [h2] at h1; exact h1
 refine eQ (step:=fun (w:Int × List aD)=>b9 n l too w.1 w.2) (fun k (a:List aD)=>((k:Int),a)) n
  (fun k a=>a.length = n ∧ ∀ v,v < n->el a v = if v < k then (aD.mk 0 0 (decide (el too v > 0)):aD) else (aD.mk 0 0 false:aD)) _ ?_ ?_ _ ?_
 ·rintro k a hk ⟨h1,h2⟩
  refine .inl ⟨a.set k (aD.mk 0 0 (decide (el too k > 0))),?_,by simp [h1],fun v hv=>?_⟩
  ·show b9 n l too k a = _
   unfold b9
   rw [if_pos (by simpa using hk),bU too k (by omega),Option.bind_some,if_pos ⟨by omega,by rw [Int.toNat_natCast]; omega⟩,Int.toNat_natCast,EG a k (by omega),Option.bind_some,bC (by omega),h2 k hk,if_neg (Nat.lt_irrefl k)]
  ·rw [dM,h2 v hv]
   by_cases e:v = k
   ·subst e
    rw [if_pos ⟨rfl,by omega⟩,if_pos (Nat.lt_succ_self _)]
   ·rw [if_neg fun q=>e q.1]
    by_cases c:v < k
    ·rw [if_pos c,if_pos (by omega)]
    ·rw [if_neg c,if_neg (by omega)]
 ·rintro a ⟨h1,h2⟩
  refine ⟨a,?_,?_⟩
  ·show b9 n l too n a = _
   unfold b9
   rw [if_neg (by simp)]
  ·refine EI (by rw [h1,List.length_map,BH]) fun v hv=>?_
   rw [h1] at hv
   rw [h2 v hv,if_pos hv,gK lY _ _ (by rw [BH]; exact hv),N0 too hv]
   rfl
 ·refine ⟨List.length_replicate,fun v hv=>?_⟩
  rw [if_neg (Nat.not_lt_zero _),lR _ _ _ hv]
theorem aQj {n:Nat} (hn:n <= 100000):gF [-1] (n:Int) = some (List.replicate n (-1)):=by
 show (if 0 <= (n:Int) ∧ (n:Int) <= 100000 then some (List.replicate (n:Int).toNat (-1:Int)) else none) = _
 rw [if_pos (by omega),Int.toNat_natCast]
theorem aEE {n:Nat} (hn:n <= 1000) {l:List aC} (hl:∀ g ∈ l,JW n g) (hll:l.length <= 100000) {too:List Int} (ht:too.length = n) {p:Nat->Int} (hp:Pot fI.src fI.dst fI.cost (l.map aW) p) :
  ∃ (best:List RL) (last:List Int),fX n l too = some (best.map lY,last) ∧ best.length = n ∧ last.length = n ∧
   QV n (l.map aW) (fun v=>(el best v).fine = true) (fun v=>decide (el too v > 0) = true) (fun v=>(el best v).c) (fun v=>(el best v).k.toNat) last:=by
 have hs:∀ i,i < (l.map aW).length->(el (l.map aW) i).src < n ∧ (el (l.map aW) i).dst < n:=by
  intro i hi
  rw [List.length_map] at hi
  rw [gK aW l i hi]
  have hg:=hl (el l i) (by rw [show el l i = l[i] from by simp [el,hi]]; exact List.getElem_mem _)
  obtain ⟨⟨g1,g2⟩,⟨g3,g4⟩,g5,g6⟩:=hg
  simp only [fI.src,fI.dst,aW]
  omega
 obtain ⟨best,last,h1,h2,h3,h4⟩:=aCG hp (fun v=>decide (el too v > 0)) hs (BH n too) (fun v hv=>N0 too hv) (fuel:=n + 1) (Nat.le_refl _)
 refine ⟨best,last,?_,h2,h3,h4⟩
 unfold fX
 have hmul:(n + 1) * l.length <= 1001 * 100000:=Nat.mul_le_mul (by omega) hll
 rw [if_pos (by omega),Int.toNat_natCast,aBv (by omega) l ht,Option.bind_some,List.length_map,BH]
 rw [aQj (by omega),Option.bind_some,SO hl (n + 1) _ _ 0 best last (BH n too) (by simp) (fun v hv=>by rw [N0 too hv]; simp) (by omega) (by omega) h1]
 rfl
end Go.Proofs.Ytgjcnbgfaimepaa
namespace Go.Proofs.Ytgjcnbgfaimepaa
open Go.RowKit Vm
structure EM (n:Nat) (dues:List aH):Prop where
 nn:n <= 40
 len:dues.length <= 100
 each:∀ i,i < dues.length->(0 <= (el dues i).From ∧ (el dues i).From < n) ∧ (0 <= (el dues i).To ∧ (el dues i).To < n) ∧ (el dues i).From ≠ (el dues i).To ∧ 1 <= (el dues i).Sum ∧ (el dues i).Sum <= 1099511627776
def n9 (dues:List aH) (i:Nat):Nat:=(el dues i).From.toNat
def qQ (dues:List aH) (i:Nat):Nat:=(el dues i).To.toNat
def tZ (dues:List aH) (i:Nat):Int:=(el dues i).Sum
def GT (dues:List aH) (x:Nat->Int) (i:Nat) (b:Bool):aC :=
 ⟨i,if b = true then (el dues i).To else (el dues i).From,if b = true then (el dues i).From else (el dues i).To,if b = true then 1 else -1,if b = true then x i else (el dues i).Sum - x i,b⟩
def QJ (dues:List aH) (x:Nat->Int) (i:Nat):List aC :=
 (if x i < (el dues i).Sum then [GT dues x i false] else []) ++ (if x i > 0 then [GT dues x i true] else [])
def iJ (dues:List aH) (x:Nat->Int) (m:Nat):List aC:=(List.range m).flatMap (QJ dues x)
theorem aGh (dues:List aH) (x:Nat->Int) (i:Nat):(QJ dues x i).length <= 2:=by
 unfold QJ
 rw [List.length_append]
 split <;> split <;> simp
theorem PD (dues:List aH) (x:Nat->Int) (m:Nat):iJ dues x (m + 1) = iJ dues x m ++ QJ dues x m:=by
 simp [iJ,List.range_succ,List.flatMap_append]
theorem BE (dues:List aH) (x:Nat->Int):∀ m,(iJ dues x m).length <= 2 * m
 | 0=>by simp [iJ]
 | m + 1=>by
  have:=BE dues x m
  have:=aGh dues x m
  rw [PD,List.length_append]; omega
section
variable {n:Nat} {dues:List aH} {sums:List Int}
theorem EM.fr (h:EM n dues):∀ i,i < dues.length->n9 dues i < n:=fun i hi=>by have:=h.each i hi; unfold n9; omega
theorem EM.tt (h:EM n dues):∀ i,i < dues.length->qQ dues i < n:=fun i hi=>by have:=h.each i hi; unfold qQ; omega
theorem VR (h:EM n dues) (hl:sums.length = dues.length) (hr:InR (tZ dues) dues.length (el sums)):gA dues sums = some (iJ dues (el sums) dues.length):=by
 unfold gA pN
 suffices hh:∃ x,dK (fun (w:Int × List aC)=>dA dues sums w.1 w.2) (0,[]) = some x ∧ x = iJ dues (el sums) dues.length by
  obtain ⟨x,h1,h2⟩:=hh
  rw [h1,h2]; rfl
 have hlen:=h.len
 refine eQ (step:=fun (w:Int × List aC)=>dA dues sums w.1 w.2) (fun k (a:List aC)=>((k:Int),a)) dues.length (fun k a=>a = iJ dues (el sums) k) _ ?_ ?_ _ rfl
 ·rintro k a hk rfl
  refine .inl ⟨iJ dues (el sums) (k + 1),?_,rfl⟩
  have hsl:=BE dues (el sums) k
  have hx:=hr k hk
  have hd:=h.each k hk
  unfold tZ at hx
  show dA dues sums k (iJ dues (el sums) k) = _
  unfold dA
  rw [if_pos (by simpa using hk),bU dues k hk,Option.bind_some,bU sums k (by omega),Option.bind_some,bC (by omega),PD]
  have hj:∀ L:List aC,L.length <= 2 * k + 1->jV dues sums k (el dues k) L = some (L ++ if el sums k > 0 then [GT dues (el sums) k true] else []):=by
   intro L hL
   unfold jV
   rw [bU sums k (by omega),Option.bind_some]
   by_cases c:el sums k > 0
   ·rw [if_pos (by simpa using c),if_pos c,Option.bind_some,if_pos (by omega)]; rfl
   ·rw [if_neg (by simpa using c),if_neg c,List.append_nil]
  by_cases c:el sums k < (el dues k).Sum
  ·rw [if_pos (by simpa using c),Option.bind_some,if_pos (by omega),lL (by omega) (by omega),hj _ (by simp; omega),Option.bind_some]
   unfold QJ
   rw [if_pos c,← List.append_assoc]; rfl
  ·rw [if_neg (by simpa using c),hj _ (by omega),Option.bind_some]
   unfold QJ
   rw [if_neg c,List.nil_append]
 ·rintro a rfl
  refine ⟨_,?_,rfl⟩
  show dA dues sums dues.length _ = _
  unfold dA
  rw [if_neg (by simp)]
theorem xM {x:Nat->Int} {m:Nat} {g:aC}:g ∈ iJ dues x m ↔ ∃ i b,i < m ∧ g = GT dues x i b ∧ 0 < (GT dues x i b).most:=by
 unfold iJ QJ
 rw [List.mem_flatMap]
 constructor
 ·rintro ⟨i,hi,hg⟩
  rw [List.mem_range] at hi
  rcases List.mem_append.1 hg with q | q
  ·split at q
   ·rename_i c
    exact ⟨i,false,hi,by simpa using q,by simp [GT]; omega⟩
   ·cases q
  ·split at q
   ·rename_i c
    exact ⟨i,true,hi,by simpa using q,by simp [GT]; omega⟩
   ·cases q
 ·rintro ⟨i,b,hi,rfl,hm⟩
  refine ⟨i,List.mem_range.2 hi,List.mem_append.2 ?_⟩
  cases b
  ·left
   have:x i < (el dues i).Sum:=by simp [GT] at hm; omega
   rw [if_pos this]; simp
  ·right
   have:x i > 0:=by simpa [GT] using hm
   rw [if_pos this]; simp
theorem sF (h:EM n dues) {x:Nat->Int} {i:Nat} (hi:i < dues.length) (b:Bool):aW (GT dues x i b) = H4 (n9 dues) (qQ dues) (tZ dues) x XH i b:=by
 have:=h.each i hi
 cases b <;> simp [aW,GT,H4,n9,qQ,tZ,XH] <;> omega
theorem QZ (h:EM n dues) (x:Nat->Int):pR (n9 dues) (qQ dues) (tZ dues) dues.length x (fun _ _=>True) XH ((iJ dues x dues.length).map aW):=by
 constructor
 ·intro k hk
  rw [List.length_map] at hk
  rw [gK aW _ k hk]
  obtain ⟨i,b,hi,e,hm⟩:=xM.1 (show el (iJ dues x dues.length) k ∈ iJ dues x dues.length by rw [show el (iJ dues x dues.length) k = (iJ dues x dues.length)[k] from by simp [el,hk]]; exact List.getElem_mem _)
  refine ⟨i,b,hi,trivial,?_,by rw [e,sF h hi]⟩
  rw [← sF h hi]
  exact hm
 ·intro i b hi _ hm
  rw [← sF h hi] at hm
  have:=(xM (dues:=dues) (x:=x) (m:=dues.length)).2 ⟨i,b,hi,rfl,hm⟩
  obtain ⟨k,hk,e⟩:=List.mem_iff_getElem.1 this
  refine ⟨k,by rw [List.length_map]; exact hk,?_⟩
  rw [gK aW _ k hk,← sF h hi,← e]
  simp [el,hk]
theorem SH (h:EM n dues) (x:Nat->Int):∀ g ∈ iJ dues x dues.length,JW n g:=by
 intro g hg
 obtain ⟨i,b,hi,rfl,_⟩:=xM.1 hg
 have:=h.each i hi
 cases b <;> simp [JW,GT] <;> omega
end
end Go.Proofs.Ytgjcnbgfaimepaa
namespace Go.Proofs.Ytgjcnbgfaimepaa
open Go.RowKit Vm
def RT (l:List aC) (a:Int) (ks:List Nat):Int:=ks.foldl (fun a k=>if (el l k).most < a then (el l k).most else a) a
theorem XF (l:List aC):∀ (ks:List Nat) (a:Int),RT l a ks <= a ∧ ∀ k ∈ ks,RT l a ks <= (el l k).most
 | [],a=>⟨Int.le_refl _,fun k h=>by cases h⟩
 | k :: ks,a=>by
  obtain ⟨h1,h2⟩:=XF l ks (if (el l k).most < a then (el l k).most else a)
  have e:RT l a (k :: ks) = RT l (if (el l k).most < a then (el l k).most else a) ks:=rfl
  rw [e]
  have hc:(if (el l k).most < a then (el l k).most else a) <= a ∧ (if (el l k).most < a then (el l k).most else a) <= (el l k).most:=by split <;> omega
  refine ⟨by omega,fun j hj=>?_⟩
  rcases List.mem_cons.1 hj with rfl | hj
  ·omega
  ·exact h2 j hj
theorem SM (l:List aC):∀ (ks:List Nat) (a:Int),0 < a->(∀ k ∈ ks,0 < (el l k).most)->0 < RT l a ks
 | [],a,h,_=>h
 | k :: ks,a,h,hk=>by
  have e:RT l a (k :: ks) = RT l (if (el l k).most < a then (el l k).most else a) ks:=rfl
  rw [e]
  refine SM l ks _ ?_ fun j hj=>hk j (List.mem_cons_of_mem _ hj)
  have:=hk k (List.mem_cons_self ..)
  split <;> omega
section
variable {n:Nat} {l:List aC} {last:List Int}
theorem I7 {v k:Nat} (hv:v < last.length) (hl:el last v = (k:Int)) (hk:k < l.length):last[(v:Int).toNat]? = some (k:Int) ∧ l[(k:Int).toNat]? = some (el l k):=by
 rw [Int.toNat_natCast,Int.toNat_natCast,EG last v hv,EG l k hk,hl]
 exact ⟨rfl,rfl⟩
theorem VJ {k:Nat} (hl:∀ g ∈ l,JW n g) (hk:k < l.length):(el (l.map aW) k).src < n ∧ (el l k).from_ = ((el (l.map aW) k).src:Nat):=by
 rw [gK aW l k hk]
 have hg:=hl (el l k) (by rw [show el l k = l[k] from by simp [el,hk]]; exact List.getElem_mem _)
 obtain ⟨⟨g1,g2⟩,_⟩:=hg
 simp only [fI.src,aW]
 omega
theorem aGX (hl:∀ g ∈ l,JW n g) (hla:last.length = n) (a0:Int) (a1:List aH) (p12 p13:List Int) (best:List aD) (r27:Int) {v u:Nat} {ks:List Nat} (w:Pth (l.map aW) last v ks u):v < n->∀ most:Int,fZ a0 a1 p12 p13 l (best,last) r27 most v = some (RT l most ks,(u:Int)):=by
 induction w with
 | nil v hv =>
  intro hvn most
  unfold fZ
  refine mE ?_
  show dR a0 a1 p12 p13 l (best,last) r27 most v = _
  unfold dR
  dsimp only
  rw [if_pos ⟨by omega,by rw [Int.toNat_natCast]; omega⟩,Int.toNat_natCast,EG last v (by omega),hv]
  rfl
 | @cons v k u ks hk hlv hd w ih =>
  intro hvn most
  rw [List.length_map] at hk
  obtain ⟨q1,q2⟩:=VJ hl hk
  obtain ⟨b1,b2⟩:=I7 (l:=l) (last:=last) (by omega:v < last.length) hlv hk
  unfold fZ
  rw [oE (s':=((if (el l k).most < most then (el l k).most else most),(el l k).from_)) ?_]
  ·have:=ih q1 (if (el l k).most < most then (el l k).most else most)
   unfold fZ at this
   rw [q2]
   exact this
  ·show dR a0 a1 p12 p13 l (best,last) r27 most v = _
   unfold dR
   dsimp only
   have cv:0 <= (v:Int) ∧ (v:Int).toNat < last.length:=⟨by omega,by rw [Int.toNat_natCast]; omega⟩
   have ck:0 <= (k:Int) ∧ (k:Int).toNat < l.length:=⟨by omega,by rw [Int.toNat_natCast]; exact hk⟩
   have cg:decide ((k:Int) ≥ 0) = true:=by simp
   simp only [if_pos cv,if_pos ck,b1,b2,Option.bind_some,if_pos cg]
theorem aCl (hl:∀ g ∈ l,JW n g) (hla:last.length = n) (a0:Int) (a1:List aH) (a3:List Int) (a4:Int) (p5:List Int) (best:List aD) {v u:Nat} {ks:List Nat} (w:Pth (l.map aW) last v ks u):v < n->∀ most:Int,iF a0 a1 a3 a4 p5 l (best,last) most v = some (RT l most ks):=by
 induction w with
 | nil v hv =>
  intro hvn most
  unfold iF
  refine mE ?_
  show eW a0 a1 a3 a4 p5 l (best,last) most v = _
  unfold eW
  dsimp only
  rw [if_pos ⟨by omega,by rw [Int.toNat_natCast]; omega⟩,Int.toNat_natCast,EG last v (by omega),hv]
  rfl
 | @cons v k u ks hk hlv hd w ih =>
  intro hvn most
  rw [List.length_map] at hk
  obtain ⟨q1,q2⟩:=VJ hl hk
  obtain ⟨b1,b2⟩:=I7 (l:=l) (last:=last) (by omega:v < last.length) hlv hk
  unfold iF
  rw [oE (s':=((if (el l k).most < most then (el l k).most else most),(el l k).from_)) ?_]
  ·have:=ih q1 (if (el l k).most < most then (el l k).most else most)
   unfold iF at this
   rw [q2]
   exact this
  ·show eW a0 a1 a3 a4 p5 l (best,last) most v = _
   unfold eW
   dsimp only
   have cv:0 <= (v:Int) ∧ (v:Int).toNat < last.length:=⟨by omega,by rw [Int.toNat_natCast]; omega⟩
   have ck:0 <= (k:Int) ∧ (k:Int).toNat < l.length:=⟨by omega,by rw [Int.toNat_natCast]; exact hk⟩
   have cg:decide ((k:Int) ≥ 0) = true:=by simp
   simp only [if_pos cv,if_pos ck,b1,b2,Option.bind_some,if_pos cg]
theorem aK4 {g:aC} {x:List Int} {d B D:Int} (h0:0 <= g.due) (hd:g.due.toNat < x.length) (hx:∀ i,-B <= el x i ∧ el x i <= B) (hd0:0 <= d) (hdD:d <= D) (hB:B + D <= 4611686018427387904) :
  eX g x d = some (x.set g.due.toNat (el x g.due.toNat + YB (aW g) d)):=by
 have hj:∀ e:Int,-D <= e->e <= D->fN g x e = some (x.set g.due.toNat (el x g.due.toNat + e)):=by
  intro e h1 h2
  have:=hx g.due.toNat
  unfold fN
  rw [if_pos ⟨h0,hd⟩,EG x _ hd,Option.bind_some,if_pos ⟨h0,hd⟩,Option.bind_some,lL (by omega) (by omega)]
 unfold eX
 have hB0:=hx 0
 by_cases c:g.back = true
 ·rw [if_pos c,lL (by omega) (by omega),hj _ (by omega) (by omega),Option.bind_some]
  simp [YB,aW,c]
 ·rw [if_neg c,hj _ (by omega) hdD,Option.bind_some]
  simp [YB,aW,c]
theorem UB {x:List Int} {i:Nat} {a B D:Int} (hx:∀ i,-B <= el x i ∧ el x i <= B) (h1:-(B + D) <= a) (h2:a <= B + D) (hD:0 <= D):∀ j,-(B + D) <= el (x.set i a) j ∧ el (x.set i a) j <= B + D:=by
 intro j
 rw [dM]
 have:=hx j
 split <;> omega
theorem aFe (hl:∀ g ∈ l,JW n g) (hla:last.length = n) {m:Nat} (hdue:∀ g ∈ l,0 <= g.due ∧ g.due < m) (a0:Int) (a1:List aH) (p12:List Int) (best:List aD) (r27:Int) (r38:Int × Int) (x39:Int) {D:Int} (hd0:0 <= (if x39 < r38.1 then x39 else r38.1)) (hdD:(if x39 < r38.1 then x39 else r38.1) <= D) {v u:Nat} {ks:List Nat} (w:Pth (l.map aW) last v ks u):v < n->∀ (x:List Int) (B:Int),x.length = m->(∀ i,-B <= el x i ∧ el x i <= B)->B + (ks.length:Int) * D <= 4611686018427387904 ->
  fY a0 a1 p12 l (best,last) r27 r38 x39 v x = some (CV (l.map aW) (if x39 < r38.1 then x39 else r38.1) x ks):=by
 induction w with
 | nil v hv =>
  intro hvn x B hxm hx hB
  unfold fY
  refine mE ?_
  show dP a0 a1 p12 l (best,last) r27 r38 x39 v x = _
  unfold dP
  dsimp only
  rw [if_pos ⟨by omega,by rw [Int.toNat_natCast]; omega⟩,Int.toNat_natCast,EG last v (by omega),hv]
  rfl
 | @cons v k u ks hk hlv hd w ih =>
  intro hvn x B hxm hx hB
  rw [List.length_map] at hk
  obtain ⟨q1,q2⟩:=VJ hl hk
  obtain ⟨b1,b2⟩:=I7 (l:=l) (last:=last) (by omega:v < last.length) hlv hk
  have hg:=hdue (el l k) (by rw [show el l k = l[k] from by simp [el,hk]]; exact List.getElem_mem _)
  have hD0:0 <= D:=by omega
  have hks:((k :: ks).length:Int) * D = (ks.length:Int) * D + D:=by
   rw [List.length_cons]; rw [show ((ks.length + 1:Nat):Int) = (ks.length:Int) + 1 by omega,Int.add_mul,Int.one_mul]
  have hpos:0 <= (ks.length:Int) * D:=Int.mul_nonneg (by omega) hD0
  have hmv:=aK4 (g:=el l k) (x:=x) (B:=B) hg.1 (by omega) hx hd0 hdD (by omega)
  unfold fY
  rw [oE (s':=((el l k).from_,x.set (el l k).due.toNat (el x (el l k).due.toNat + YB (aW (el l k)) (if x39 < r38.1 then x39 else r38.1)))) ?_]
  ·have hsg:-D <= YB (aW (el l k)) (if x39 < r38.1 then x39 else r38.1) ∧ YB (aW (el l k)) (if x39 < r38.1 then x39 else r38.1) <= D:=by unfold YB; split <;> omega
   have hxd:=hx (el l k).due.toNat
   have:=ih q1 (x.set (el l k).due.toNat (el x (el l k).due.toNat + YB (aW (el l k)) (if x39 < r38.1 then x39 else r38.1))) (B + D) (by rw [List.length_set]; exact hxm) (UB hx (by omega) (by omega) hD0) (by omega)
   unfold fY at this
   rw [q2,this,CV,gK aW l k hk]
   rfl
  ·show dP a0 a1 p12 l (best,last) r27 r38 x39 v x = _
   unfold dP
   dsimp only
   have cv:0 <= (v:Int) ∧ (v:Int).toNat < last.length:=⟨by omega,by rw [Int.toNat_natCast]; omega⟩
   have ck:0 <= (k:Int) ∧ (k:Int).toNat < l.length:=⟨by omega,by rw [Int.toNat_natCast]; exact hk⟩
   have cg:decide ((k:Int) ≥ 0) = true:=by simp
   simp only [if_pos cv,if_pos ck,b1,b2,Option.bind_some,if_pos cg,hmv]
end
end Go.Proofs.Ytgjcnbgfaimepaa
namespace Go.Proofs.Ytgjcnbgfaimepaa
open Go.RowKit Vm
theorem JC (fr tt:Nat->Nat) (k:Nat) (x:Nat->Int) (v:Nat):netF fr tt (k + 1) x v = netF fr tt k x v + ((if tt k = v then x k else 0) - (if fr k = v then x k else 0)):=rfl
theorem KO {fr tt:Nat->Nat} {x:Nat->Int} {S:Int} (hS:0 <= S):∀ k,(∀ i,i < k->0 <= x i ∧ x i <= S)->∀ v,-((k:Int) * S) <= netF fr tt k x v ∧ netF fr tt k x v <= (k:Int) * S
 | 0,_,v=>by simp [netF,dO]
 | k + 1,h,v=>by
  have:=KO hS k (fun i hi=>h i (by omega)) v (fr:=fr) (tt:=tt)
  have hk:=h k (by omega)
  rw [JC,show ((k + 1:Nat):Int) * S = (k:Int) * S + S by rw [show ((k + 1:Nat):Int) = (k:Int) + 1 by omega,Int.add_mul,Int.one_mul]]
  split <;> split <;> omega
section
variable {n:Nat} {dues:List aH} {sums:List Int}
def RV (n:Nat) (dues:List aH) (x:Nat->Int):List Int:=(List.range n).map fun v=>netF (n9 dues) (qQ dues) dues.length x v
theorem R0 (x:Nat->Int):(RV n dues x).length = n:=by simp [RV]
theorem WP (x:Nat->Int) {v:Nat} (hv:v < n):el (RV n dues x) v = netF (n9 dues) (qQ dues) dues.length x v:=by simp [RV,el,hv]
theorem aR1 (h:EM n dues) (hl:sums.length = dues.length) (hr:InR (tZ dues) dues.length (el sums)):kG n dues sums 0 (List.replicate n (0:Int)) = some (RV n dues (el sums)):=by
 unfold kG
 suffices hh:∃ x,dK (fun (w:Int × List Int)=>cN n dues sums w.1 w.2) (0,List.replicate n (0:Int)) = some x ∧ x = RV n dues (el sums) by
  obtain ⟨x,h1,h2⟩:=hh
  rw [h1,h2]
 have hlen:=h.len
 have hS:∀ i,i < dues.length->0 <= el sums i ∧ el sums i <= 1099511627776:=fun i hi=>by have:=hr i hi; have:=h.each i hi; unfold tZ at *; omega
 refine eQ (step:=fun (w:Int × List Int)=>cN n dues sums w.1 w.2) (fun k (a:List Int)=>((k:Int),a)) dues.length (fun k a=>a.length = n ∧ ∀ v,v < n->el a v = netF (n9 dues) (qQ dues) k (el sums) v) _ ?_ ?_ _ ⟨List.length_replicate,fun v hv=>by rw [lR _ _ _ hv]; rfl⟩
 ·rintro k a hk ⟨h1,h2⟩
  obtain ⟨⟨f1,f2⟩,⟨t1,t2⟩,hne,_⟩:=h.each k hk
  have hx:=hS k hk
  have hb:=KO (fr:=n9 dues) (tt:=qQ dues) (x:=el sums) (S:=1099511627776) (by omega) k fun i hi=>hS i (by omega)
  have hk100:(k:Int) * 1099511627776 <= 100 * 1099511627776:=by omega
  have hT:(el dues k).To.toNat < n:=by omega
  have hF:(el dues k).From.toNat < n:=by omega
  have bT:=hb (el dues k).To.toNat
  have bF:=hb (el dues k).From.toNat
  have hnf:¬ (el dues k).From.toNat = (el dues k).To.toNat:=by omega
  refine .inl ⟨(a.set (el dues k).To.toNat (el a (el dues k).To.toNat + el sums k)).set (el dues k).From.toNat (el a (el dues k).From.toNat - el sums k),?_,by simp [h1],fun v hv=>?_⟩
  ·show cN n dues sums k a = _
   unfold cN
   have c0:decide ((k:Int) < (dues.length:Int)) = true:=by simpa using hk
   have cT:0 <= (el dues k).To ∧ (el dues k).To.toNat < a.length:=⟨t1,by omega⟩
   have ck:0 <= (k:Int) ∧ (k:Int).toNat < sums.length:=⟨by omega,by rw [Int.toNat_natCast]; omega⟩
   have eS:sums[(k:Int).toNat]? = some (el sums k):=by rw [Int.toNat_natCast]; exact EG sums k (by omega)
   have eT:a[(el dues k).To.toNat]? = some (el a (el dues k).To.toNat):=EG a _ (by omega)
   have w1:IntKind.wrap .i64 (el a (el dues k).To.toNat + el sums k) = el a (el dues k).To.toNat + el sums k:=lL (by rw [h2 _ hT]; omega) (by rw [h2 _ hT]; omega)
   have cF:0 <= (el dues k).From ∧ (el dues k).From.toNat < (a.set (el dues k).To.toNat (el a (el dues k).To.toNat + el sums k)).length:=⟨f1,by rw [List.length_set]; omega⟩
   have eF:(a.set (el dues k).To.toNat (el a (el dues k).To.toNat + el sums k))[(el dues k).From.toNat]? = some (el a (el dues k).From.toNat):=by
    rw [EG _ _ (by rw [List.length_set]; omega),dM,if_neg fun q=>hnf q.1]
   have w2:IntKind.wrap .i64 (el a (el dues k).From.toNat - el sums k) = el a (el dues k).From.toNat - el sums k:=lL (by rw [h2 _ hF]; omega) (by rw [h2 _ hF]; omega)
   have w3:IntKind.wrap .i64 ((k:Int) + 1) = ((k + 1:Nat):Int):=bC (by omega)
   simp only [if_pos c0,bU dues k hk,Option.bind_some,if_pos cT,eT,if_pos ck,eS,w1,if_pos cF,eF,w2,w3]
  ·rw [JC,dM,List.length_set]
   unfold qQ n9
   have h2v:=h2 v hv
   unfold qQ n9 at h2v
   by_cases e1:v = (el dues k).From.toNat
   ·have e2:¬ (el dues k).To.toNat = v:=by omega
    rw [if_pos ⟨e1,by omega⟩,if_neg e2,if_pos e1.symm,← e1,h2v]; omega
   ·have e1' : ¬ (el dues k).From.toNat = v:=fun q=>e1 q.symm
    have e1'' : ¬ (v = (el dues k).From.toNat ∧ (el dues k).From.toNat < a.length):=fun q=>e1 q.1
    rw [if_neg e1'',if_neg e1',dM]
    by_cases e2:v = (el dues k).To.toNat
    ·rw [if_pos ⟨e2,by omega⟩,if_pos e2.symm,← e2,h2v]; omega
    ·have e2' : ¬ (el dues k).To.toNat = v:=fun q=>e2 q.symm
     have e2'' : ¬ (v = (el dues k).To.toNat ∧ (el dues k).To.toNat < a.length):=fun q=>e2 q.1
     rw [if_neg e2'',if_neg e2',h2v]; omega
 ·rintro a ⟨h1,h2⟩
  refine ⟨a,?_,EI (by rw [h1,R0]) fun v hv=>by rw [h1] at hv; rw [h2 v hv,WP _ hv]⟩
  show cN n dues sums dues.length a = _
  unfold cN
  rw [if_neg (by simp)]
end
end Go.Proofs.Ytgjcnbgfaimepaa
namespace Go.Proofs.Ytgjcnbgfaimepaa
open Go.RowKit Vm
section
variable {n:Nat} {dues:List aH} {sums:List Int}
theorem aTa (hn:n <= 1000) {too:List Int} (ht:too.length = n) {best:List RL} (hb:best.length = n) (last:List Int) (l:List aC):∃ e:Int,j9 n dues too sums l (best.map lY,last) (-1) 0 = some e ∧
  ((e = -1 ∧ ∀ v,v < n->el too v < 0->(el best v).fine = false) ∨ ∃ v:Nat,e = v ∧ v < n ∧ el too v < 0 ∧ (el best v).fine = true):=by
 unfold j9
 refine eQ (step:=fun (w:Int × Int)=>aX n dues too sums l (best.map lY,last) w.1 w.2) (fun k (a:Int)=>(a,(k:Int))) n
  (fun k a=>(a = -1 ∧ ∀ v,v < k->el too v < 0->(el best v).fine = false) ∨ ∃ v:Nat,a = v ∧ v < n ∧ el too v < 0 ∧ (el best v).fine = true) _ ?_ ?_ _ (.inl ⟨rfl,fun v hv=>absurd hv (Nat.not_lt_zero _)⟩)
 ·intro k a hk hI
  refine .inl ?_
  have c0:decide ((k:Int) < (n:Int)) = true:=by simpa using hk
  have ck:0 <= (k:Int) ∧ (k:Int).toNat < too.length:=⟨by omega,by rw [Int.toNat_natCast]; omega⟩
  have ek:too[(k:Int).toNat]? = some (el too k):=by rw [Int.toNat_natCast]; exact EG too k (by omega)
  have cb:0 <= (k:Int) ∧ (k:Int).toNat < (best.map lY).length:=⟨by omega,by rw [Int.toNat_natCast,List.length_map]; omega⟩
  have eb:(best.map lY)[(k:Int).toNat]? = some (lY (el best k)):=by rw [Int.toNat_natCast,List.getElem?_map,EG best k (by omega)]; rfl
  have w3:IntKind.wrap .i64 ((k:Int) + 1) = ((k + 1:Nat):Int):=bC (by omega)
  have hfine:(lY (el best k)).fine = (el best k).fine:=rfl
  by_cases hneg:el too k < 0
  ·have cn:decide (el too k < 0) = true:=by simpa using hneg
   rcases hI with ⟨rfl,hI⟩ | ⟨v,rfl,hv,hv1,hv2⟩
   ·have ce:decide ((-1:Int) < 0) = true:=rfl
    have cg:¬ decide ((-1:Int) ≥ 0) = true:=by decide
    by_cases hf:(el best k).fine = true
    ·refine ⟨(k:Int),?_,.inr ⟨k,rfl,hk,hneg,hf⟩⟩
     show aX n dues too sums l (best.map lY,last) (-1) k = _
     unfold aX
     simp only [if_pos c0,if_pos ck,ek,Option.bind_some,if_pos cn,if_pos ce,if_pos cb,eb,hfine,if_pos hf,w3]
    ·refine ⟨-1,?_,.inl ⟨rfl,fun v hv hvn=>?_⟩⟩
     ·show aX n dues too sums l (best.map lY,last) (-1) k = _
      unfold aX
      simp only [if_pos c0,if_pos ck,ek,Option.bind_some,if_pos cn,if_pos ce,if_pos cb,eb,hfine,if_neg hf,if_neg cg,w3]
     ·by_cases e:v = k
      ·subst e; simpa using hf
      ·exact hI v (by omega) hvn
   ·have ce:¬ decide ((v:Int) < 0) = true:=by simp
    have cg:decide ((v:Int) ≥ 0) = true:=by simp
    have cv:0 <= (v:Int) ∧ (v:Int).toNat < (best.map lY).length:=⟨by omega,by rw [Int.toNat_natCast,List.length_map]; omega⟩
    have ev:(best.map lY)[(v:Int).toNat]? = some (lY (el best v)):=by rw [Int.toNat_natCast,List.getElem?_map,EG best v (by omega)]; rfl
    by_cases hls:nY (el best k) (el best v) = true
    ·refine ⟨(k:Int),?_,.inr ⟨k,rfl,hk,hneg,((NP _ _).1 hls).1⟩⟩
     show aX n dues too sums l (best.map lY,last) v k = _
     unfold aX
     simp only [if_pos c0,if_pos ck,ek,Option.bind_some,if_pos cn,if_neg ce,if_pos cg,if_pos cb,eb,if_pos cv,ev,V5,if_pos hls,w3]
    ·refine ⟨(v:Int),?_,.inr ⟨v,rfl,hv,hv1,hv2⟩⟩
     show aX n dues too sums l (best.map lY,last) v k = _
     unfold aX
     simp only [if_pos c0,if_pos ck,ek,Option.bind_some,if_pos cn,if_neg ce,if_pos cg,if_pos cb,eb,if_pos cv,ev,V5,if_neg hls,w3]
  ·have cn:¬ decide (el too k < 0) = true:=by simpa using hneg
   refine ⟨a,?_,?_⟩
   ·show aX n dues too sums l (best.map lY,last) a k = _
    unfold aX
    simp only [if_pos c0,if_pos ck,ek,Option.bind_some,if_neg cn,w3]
   ·rcases hI with ⟨h1,h2⟩ | q
    ·refine .inl ⟨h1,fun v hv hvn=>?_⟩
     by_cases e:v = k
     ·subst e; exact absurd hvn hneg
     ·exact h2 v (by omega) hvn
    ·exact .inr q
 ·intro a hI
  refine ⟨a,?_,hI⟩
  show aX n dues too sums l (best.map lY,last) a n = _
  unfold aX
  rw [if_neg (by simp)]
end
end Go.Proofs.Ytgjcnbgfaimepaa
