/- Clearing: the search for the cheapest ways is rounds of relaxations. Clearing: cheapest finds the cheapest ways. Clearing: the steps of a clearing. Clearing: walking back along the last steps, and moving sums along them. Clearing: balancing. Clearing: which merchant with too little is next. -/
import Derived.Test.YtiimibimkpimbaaFn
import Derived.Test.YtiimibimkpimbaaLoops3
import Derived.Test.YtiimibimkpimbaaFlM
set_option linter.unusedVariables false
set_option linter.unusedSimpArgs false
namespace Go.Proofs.Ytiimibimkpimbaa
open Go.RowKit Vm
def bR (g:aB):gE:=⟨g.due,g.from_,g.to,g.cost,g.most,g.back⟩
def mL (a:LZ):aD:=⟨a.c,a.k,a.fine⟩
theorem iH {α β:Type} [Inhabited α] [Inhabited β] (f:α→β) (l:List α) (i:Nat) (h:i < l.length):el (l.map f) i = f (el l i):=by
 simp [el,h]
theorem CH {α:Type} [Inhabited α] (l:List α) (i:Nat) (h:i < l.length):l[i]? = some (el l i):=by
 simp [el,h]
theorem pS {α:Type} [Inhabited α] (l:List α) (i:Nat) (h:i < l.length):at? l (i:Int) = some (el l i):=by
 rw [at?_nat]; exact CH l i h
theorem aCZ {α β:Type} (f:α→β) (l:List α) (i:Nat) (x:α):(l.set i x).map f = (l.map f).set i (f x):=by
 rw [List.map_set]
def EU (n:Nat) (g:aB):Prop:=(0 ≤ g.from_ ∧ g.from_ < n) ∧ (0 ≤ g.to ∧ g.to < n) ∧ (-1 ≤ g.cost ∧ g.cost ≤ 1)
theorem aAV {a:LZ} {g:aB} (h1:-4611686018427387904 ≤ a.c ∧ a.c ≤ 4611686018427387904) (h2:0 ≤ a.k ∧ a.k ≤ 4611686018427387904) (hc:-1 ≤ g.cost ∧ g.cost ≤ 1) :
  hJ (mL a) g = some (mL (sK a (bR g))):=by
 unfold hJ
 simp only [mL,sK,bR]
 rw [jZ (by omega) (by omega),jZ (by omega) (by omega)]
theorem PW (a b:LZ):fR (mL a) (mL b) = some (oR a b):=by
 unfold fR
 simp only [mL,oR]
 by_cases h1:a.fine = true <;> by_cases h2:b.fine = true <;> by_cases h3:a.c < b.c <;> by_cases h4:a.c = b.c <;> simp [h1,h2,h3,h4] <;> exact decide_eq_decide.2 Iff.rfl
def LK (n:Nat) (B:Int) (best:List LZ):Prop:=∀ v,v < n→-B ≤ (el best v).c ∧ (el best v).c ≤ B ∧ 0 ≤ (el best v).k ∧ (el best v).k ≤ B
theorem IP {n:Nat} {l:List aB} {best:List LZ} {last:List Int} {B:Int} (hl:∀ g ∈ l,EU n g) (hb:best.length = n) (hla:last.length = n) (h:LK n B best) (hB:0 ≤ B):∀ k,k ≤ l.length →
  (((List.range k).foldl (iG oR sK gE.src gE.dst (l.map bR)) (best,last,false)).1.length = n ∧ ((List.range k).foldl (iG oR sK gE.src gE.dst (l.map bR)) (best,last,false)).2.1.length = n ∧ LK n (B + k) ((List.range k).foldl (iG oR sK gE.src gE.dst (l.map bR)) (best,last,false)).1):=by
 intro k
 induction k with
 | zero=>intro _; exact ⟨hb,hla,by simpa using h⟩
 | succ k ih =>
  intro hk
  obtain ⟨h1,h2,h3⟩:=ih (by omega)
  rw [List.range_succ,List.foldl_append,List.foldl_cons,List.foldl_nil]
  generalize (List.range k).foldl (iG oR sK gE.src gE.dst (l.map bR)) (best,last,false) = z at *
  have hg:=hl (el l k) (by rw [show el l k = l[k] from by simp [el,show k < l.length by omega]]; exact List.getElem_mem _)
  obtain ⟨⟨g1,g2⟩,⟨g3,g4⟩,g5,g6⟩:=hg
  have hmono:LK n (B + (k + 1:Nat)) z.1:=fun v hv=>by have:=h3 v hv; omega
  unfold iG
  rw [iH bR l k (by omega)]
  split
  ·refine ⟨by simp [h1],by simp [h2],fun v hv=>?_⟩
   dsimp only
   rw [eR]
   split
   ·have:=h3 (el l k).from_.toNat (by omega)
    simp only [sK,bR,gE.src]
    omega
   ·exact hmono v hv
  ·exact ⟨h1,h2,hmono⟩
theorem RH {n:Nat} {l:List aB} {best:List LZ} {last:List Int} {B:Int} (hl:∀ g ∈ l,EU n g) (hb:best.length = n) (hla:last.length = n) (h:LK n B best) (hB:0 ≤ B) (hBl:B + l.length ≤ 4611686018427387904) :
  kA l false 0 (best.map mL) last = some ((pH oR sK gE.src gE.dst (l.map bR) best last).2.2,(pH oR sK gE.src gE.dst (l.map bR) best last).1.map mL,(pH oR sK gE.src gE.dst (l.map bR) best last).2.1):=by
 unfold kA pH
 rw [List.length_map]
 suffices hh:∃ x,eU (fun (w:Bool × Int × List aD × List Int)=>eY l w.1 w.2.1 w.2.2.1 w.2.2.2) (false,0,best.map mL,last) = some x ∧ x = (((List.range l.length).foldl (iG oR sK gE.src gE.dst (l.map bR)) (best,last,false)).2.2,((List.range l.length).foldl (iG oR sK gE.src gE.dst (l.map bR)) (best,last,false)).1.map mL,((List.range l.length).foldl (iG oR sK gE.src gE.dst (l.map bR)) (best,last,false)).2.1) by
  obtain ⟨x,h1,h2⟩:=hh
  rw [h2] at h1; exact h1
 refine pD (step:=fun (w:Bool × Int × List aD × List Int)=>eY l w.1 w.2.1 w.2.2.1 w.2.2.2) (fun k (a:List LZ × List Int × Bool)=>(a.2.2,(k:Int),a.1.map mL,a.2.1)) l.length
  (fun k a=>a = (List.range k).foldl (iG oR sK gE.src gE.dst (l.map bR)) (best,last,false)) (fun x=>x = (((List.range l.length).foldl (iG oR sK gE.src gE.dst (l.map bR)) (best,last,false)).2.2,((List.range l.length).foldl (iG oR sK gE.src gE.dst (l.map bR)) (best,last,false)).1.map mL,((List.range l.length).foldl (iG oR sK gE.src gE.dst (l.map bR)) (best,last,false)).2.1)) ?_ ?_ (best,last,false) rfl
 ·rintro k a hk rfl
  refine .inl ?_
  obtain ⟨q1,q2,q3⟩:=IP hl hb hla h hB k (by omega)
  rw [List.range_succ,List.foldl_append,List.foldl_cons,List.foldl_nil]
  generalize (List.range k).foldl (iG oR sK gE.src gE.dst (l.map bR)) (best,last,false) = z at *
  have hg:=hl (el l k) (by rw [show el l k = l[k] from by simp [el,hk]]; exact List.getElem_mem _)
  obtain ⟨⟨g1,g2⟩,⟨g3,g4⟩,g5,g6⟩:=hg
  refine ⟨_,?_,rfl⟩
  unfold eY
  rw [if_pos (by simpa using hk),pS l k hk,Option.bind_some]
  have e1:(z.1.map mL)[(el l k).from_.toNat]? = some (mL (el z.1 (el l k).from_.toNat)):=by rw [List.getElem?_map,CH z.1 _ (by omega)]; rfl
  have e2:(z.1.map mL)[(el l k).to.toNat]? = some (mL (el z.1 (el l k).to.toNat)):=by rw [List.getElem?_map,CH z.1 _ (by omega)]; rfl
  have b:=q3 (el l k).from_.toNat (by omega)
  rw [if_pos ⟨g1,by rw [List.length_map]; omega⟩,e1,Option.bind_some,aAV (by omega) (by omega) ⟨g5,g6⟩,Option.bind_some,if_pos ⟨g3,by rw [List.length_map]; omega⟩,e2,Option.bind_some,PW,Option.bind_some,CH z.2.1 _ (by omega),dB (by omega)]
  unfold iG
  rw [iH bR l k hk]
  have e3:gE.src (bR (el l k)) = (el l k).from_.toNat:=rfl
  have e4:gE.dst (bR (el l k)) = (el l k).to.toNat:=rfl
  rw [e3,e4]
  split
  ·rename_i hc
   have c1:0 ≤ (el l k).to ∧ (el l k).to.toNat < (z.1.map mL).length:=⟨g3,by rw [List.length_map]; omega⟩
   have c2:0 ≤ (el l k).to ∧ (el l k).to.toNat < z.2.1.length:=⟨g3,by omega⟩
   simp only [if_pos c1,if_pos c2,Option.bind_some,aCZ,e2]
  ·rfl
 ·rintro a rfl
  refine ⟨_,?_,rfl⟩
  unfold eY
  rw [if_neg (by simp)]
end Go.Proofs.Ytiimibimkpimbaa
set_option linter.unusedVariables false
set_option linter.unusedSimpArgs false
namespace Go.Proofs.Ytiimibimkpimbaa
open Go.RowKit Vm
theorem L0 {n:Nat} {l:List aB} (hl:∀ g ∈ l,EU n g):∀ (f:Nat) (best:List LZ) (last:List Int) (B:Int) (b:List LZ) (la:List Int),best.length = n→last.length = n→LK n B best→0 ≤ B→B + (f * l.length:Nat) ≤ 4611686018427387904 →
  NH oR sK gE.src gE.dst (l.map bR) f best last = some (b,la)→j6 l true (best.map mL) last = some (b.map mL,la)
 | 0,best,last,B,b,la,_,_,_,_,_,h=>by cases h
 | f + 1,best,last,B,b,la,hb,hla,hB,hB0,hBf,h=>by
  have hmul:(f + 1) * l.length = f * l.length + l.length:=Nat.succ_mul f l.length
  have hr:=RH hl hb hla hB hB0 (by omega)
  obtain ⟨q1,q2,q3⟩:=IP hl hb hla hB hB0 l.length (Nat.le_refl _)
  have e0:pH oR sK gE.src gE.dst (l.map bR) best last = (List.range l.length).foldl (iG oR sK gE.src gE.dst (l.map bR)) (best,last,false):=by unfold pH; rw [List.length_map]
  rw [← e0] at q1 q2 q3
  simp only [NH] at h
  generalize pH oR sK gE.src gE.dst (l.map bR) best last = z at *
  unfold j6
  rw [gH (s':=(z.2.2,z.1.map mL,z.2.1)) (by unfold gM; rw [if_pos rfl,hr]; rfl)]
  split at h
  ·rename_i hc
   rw [hc]
   exact L0 hl f z.1 z.2.1 (B + l.length) b la q1 q2 q3 (by omega) (by omega) h
  ·rename_i hc
   cases h
   exact gB (by unfold gM; exact if_neg hc)
def HP (n:Nat) (too:List Int):List LZ:=(List.range n).map fun v=>⟨0,0,decide (el too v > 0)⟩
theorem w6 (n:Nat) (too:List Int):(HP n too).length = n:=by simp [HP]
theorem H6 {n:Nat} (too:List Int) {v:Nat} (h:v < n):el (HP n too) v = ⟨0,0,decide (el too v > 0)⟩:=by
 simp [HP,el,h]
theorem yE {α:Type} [Inhabited α] {a b:List α} (h:a.length = b.length) (he:∀ i,i < a.length→el a i = el b i):a = b:=by
 apply List.ext_getElem h
 intro i h1 h2
 have:=he i h1
 simpa [el,h1,h2] using this
theorem WU {n:Nat} (hn:n ≤ 100000) (l:List aB) {too:List Int} (ht:too.length = n):kB n l too 0 (List.replicate n ((aD.mk 0 0 false):aD)) = some ((HP n too).map mL):=by
 unfold kB
 suffices hh:∃ x,eU (fun (w:Int × List aD)=>dJ n l too w.1 w.2) (0,List.replicate n ((aD.mk 0 0 false):aD)) = some x ∧ x = (HP n too).map mL by
  obtain ⟨x,h1,h2⟩:=hh
  rw [h2] at h1; exact h1
 refine pD (step:=fun (w:Int × List aD)=>dJ n l too w.1 w.2) (fun k (a:List aD)=>((k:Int),a)) n
  (fun k a=>a.length = n ∧ ∀ v,v < n→el a v = if v < k then (aD.mk 0 0 (decide (el too v > 0)):aD) else (aD.mk 0 0 false:aD)) _ ?_ ?_ _ ?_
 ·rintro k a hk ⟨h1,h2⟩
  refine .inl ⟨a.set k (aD.mk 0 0 (decide (el too k > 0))),?_,by simp [h1],fun v hv=>?_⟩
  ·show dJ n l too k a = _
   unfold dJ
   rw [if_pos (by simpa using hk),pS too k (by omega),Option.bind_some,if_pos ⟨by omega,by rw [Int.toNat_natCast]; omega⟩,Int.toNat_natCast,CH a k (by omega),Option.bind_some,dB (by omega),h2 k hk,if_neg (Nat.lt_irrefl k)]
  ·rw [eR,h2 v hv]
   by_cases e:v = k
   ·subst e
    rw [if_pos ⟨rfl,by omega⟩,if_pos (Nat.lt_succ_self _)]
   ·rw [if_neg fun q=>e q.1]
    by_cases c:v < k
    ·rw [if_pos c,if_pos (by omega)]
    ·rw [if_neg c,if_neg (by omega)]
 ·rintro a ⟨h1,h2⟩
  refine ⟨a,?_,?_⟩
  ·show dJ n l too n a = _
   unfold dJ
   rw [if_neg (by simp)]
  ·refine yE (by rw [h1,List.length_map,w6]) fun v hv=>?_
   rw [h1] at hv
   rw [h2 v hv,if_pos hv,iH mL _ _ (by rw [w6]; exact hv),H6 too hv]
   rfl
 ·refine ⟨List.length_replicate,fun v hv=>?_⟩
  rw [if_neg (Nat.not_lt_zero _),kC _ _ _ hv]
theorem aIM {n:Nat} (hn:n ≤ 100000):hY [-1] (n:Int) = some (List.replicate n (-1)):=by
 show (if 0 ≤ (n:Int) ∧ (n:Int) ≤ 100000 then some (List.replicate (n:Int).toNat (-1:Int)) else none) = _
 rw [if_pos (by omega),Int.toNat_natCast]
theorem YB {n:Nat} (hn:n ≤ 1000) {l:List aB} (hl:∀ g ∈ l,EU n g) (hll:l.length ≤ 100000) {too:List Int} (ht:too.length = n) {p:Nat→Int} (hp:Pot gE.src gE.dst gE.cost (l.map bR) p) :
  ∃ (best:List LZ) (last:List Int),gP n l too = some (best.map mL,last) ∧ best.length = n ∧ last.length = n ∧
   LA n (l.map bR) (fun v=>(el best v).fine = true) (fun v=>decide (el too v > 0) = true) (fun v=>(el best v).c) (fun v=>(el best v).k.toNat) last:=by
 have hs:∀ i,i < (l.map bR).length→(el (l.map bR) i).src < n ∧ (el (l.map bR) i).dst < n:=by
  intro i hi
  rw [List.length_map] at hi
  rw [iH bR l i hi]
  have hg:=hl (el l i) (by rw [show el l i = l[i] from by simp [el,hi]]; exact List.getElem_mem _)
  obtain ⟨⟨g1,g2⟩,⟨g3,g4⟩,g5,g6⟩:=hg
  simp only [gE.src,gE.dst,bR]
  omega
 obtain ⟨best,last,h1,h2,h3,h4⟩:=XV hp (fun v=>decide (el too v > 0)) hs (w6 n too) (fun v hv=>H6 too hv) (fuel:=n + 1) (Nat.le_refl _)
 refine ⟨best,last,?_,h2,h3,h4⟩
 unfold gP
 have hmul:(n + 1) * l.length ≤ 1001 * 100000:=Nat.mul_le_mul (by omega) hll
 rw [if_pos (by omega),Int.toNat_natCast,WU (by omega) l ht,Option.bind_some,List.length_map,w6]
 rw [aIM (by omega),Option.bind_some,L0 hl (n + 1) _ _ 0 best last (w6 n too) (by simp) (fun v hv=>by rw [H6 too hv]; simp) (by omega) (by omega) h1]
 rfl
end Go.Proofs.Ytiimibimkpimbaa
set_option linter.unusedVariables false
set_option linter.unusedSimpArgs false
namespace Go.Proofs.Ytiimibimkpimbaa
open Go.RowKit Vm
structure EA (n:Nat) (dues:List aG):Prop where
 nn:n ≤ 40
 len:dues.length ≤ 100
 each:∀ i,i < dues.length→(0 ≤ (el dues i).From ∧ (el dues i).From < n) ∧ (0 ≤ (el dues i).To ∧ (el dues i).To < n) ∧ (el dues i).From ≠ (el dues i).To ∧ 1 ≤ (el dues i).Sum ∧ (el dues i).Sum ≤ 1099511627776
def mF (dues:List aG) (i:Nat):Nat:=(el dues i).From.toNat
def nL (dues:List aG) (i:Nat):Nat:=(el dues i).To.toNat
def pV (dues:List aG) (i:Nat):Int:=(el dues i).Sum
def DG (dues:List aG) (x:Nat→Int) (i:Nat) (b:Bool):aB :=
 ⟨i,if b = true then (el dues i).To else (el dues i).From,if b = true then (el dues i).From else (el dues i).To,if b = true then 1 else -1,if b = true then x i else (el dues i).Sum - x i,b⟩
def K4 (dues:List aG) (x:Nat→Int) (i:Nat):List aB :=
 (if x i < (el dues i).Sum then [DG dues x i false] else []) ++ (if x i > 0 then [DG dues x i true] else [])
def iM (dues:List aG) (x:Nat→Int) (m:Nat):List aB:=(List.range m).flatMap (K4 dues x)
theorem aAk (dues:List aG) (x:Nat→Int) (i:Nat):(K4 dues x i).length ≤ 2:=by
 unfold K4
 rw [List.length_append]
 split <;> split <;> simp
theorem JL (dues:List aG) (x:Nat→Int) (m:Nat):iM dues x (m + 1) = iM dues x m ++ K4 dues x m:=by
 simp [iM,List.range_succ,List.flatMap_append]
theorem u4 (dues:List aG) (x:Nat→Int):∀ m,(iM dues x m).length ≤ 2 * m
 | 0=>by simp [iM]
 | m + 1=>by
  have:=u4 dues x m
  have:=aAk dues x m
  rw [JL,List.length_append]; omega
section
variable {n:Nat} {dues:List aG} {sums:List Int}
theorem EA.fr (h:EA n dues):∀ i,i < dues.length→mF dues i < n:=fun i hi=>by have:=h.each i hi; unfold mF; omega
theorem EA.tt (h:EA n dues):∀ i,i < dues.length→nL dues i < n:=fun i hi=>by have:=h.each i hi; unfold nL; omega
theorem KA (h:EA n dues) (hl:sums.length = dues.length) (hr:Z2 (pV dues) dues.length (el sums)):fM dues sums = some (iM dues (el sums) dues.length):=by
 unfold fM pR
 suffices hh:∃ x,eU (fun (w:Int × List aB)=>eN dues sums w.1 w.2) (0,[]) = some x ∧ x = iM dues (el sums) dues.length by
  obtain ⟨x,h1,h2⟩:=hh
  rw [h1,h2]; rfl
 have hlen:=h.len
 refine pD (step:=fun (w:Int × List aB)=>eN dues sums w.1 w.2) (fun k (a:List aB)=>((k:Int),a)) dues.length (fun k a=>a = iM dues (el sums) k) _ ?_ ?_ _ rfl
 ·rintro k a hk rfl
  refine .inl ⟨iM dues (el sums) (k + 1),?_,rfl⟩
  have hsl:=u4 dues (el sums) k
  have hx:=hr k hk
  have hd:=h.each k hk
  unfold pV at hx
  show eN dues sums k (iM dues (el sums) k) = _
  unfold eN
  rw [if_pos (by simpa using hk),pS dues k hk,Option.bind_some,pS sums k (by omega),Option.bind_some,dB (by omega),JL]
  have hj:∀ L:List aB,L.length ≤ 2 * k + 1→kD dues sums k (el dues k) L = some (L ++ if el sums k > 0 then [DG dues (el sums) k true] else []):=by
   intro L hL
   unfold kD
   rw [pS sums k (by omega),Option.bind_some]
   by_cases c:el sums k > 0
   ·rw [if_pos (by simpa using c),if_pos c,Option.bind_some,if_pos (by omega)]; rfl
   ·rw [if_neg (by simpa using c),if_neg c,List.append_nil]
  by_cases c:el sums k < (el dues k).Sum
  ·rw [if_pos (by simpa using c),Option.bind_some,if_pos (by omega),jZ (by omega) (by omega),hj _ (by simp; omega),Option.bind_some]
   unfold K4
   rw [if_pos c,← List.append_assoc]; rfl
  ·rw [if_neg (by simpa using c),hj _ (by omega),Option.bind_some]
   unfold K4
   rw [if_neg c,List.nil_append]
 ·rintro a rfl
  refine ⟨_,?_,rfl⟩
  show eN dues sums dues.length _ = _
  unfold eN
  rw [if_neg (by simp)]
theorem uY {x:Nat→Int} {m:Nat} {g:aB}:g ∈ iM dues x m ↔ ∃ i b,i < m ∧ g = DG dues x i b ∧ 0 < (DG dues x i b).most:=by
 unfold iM K4
 rw [List.mem_flatMap]
 constructor
 ·rintro ⟨i,hi,hg⟩
  rw [List.mem_range] at hi
  rcases List.mem_append.1 hg with q | q
  ·split at q
   ·rename_i c
    exact ⟨i,false,hi,by simpa using q,by simp [DG]; omega⟩
   ·cases q
  ·split at q
   ·rename_i c
    exact ⟨i,true,hi,by simpa using q,by simp [DG]; omega⟩
   ·cases q
 ·rintro ⟨i,b,hi,rfl,hm⟩
  refine ⟨i,List.mem_range.2 hi,List.mem_append.2 ?_⟩
  cases b
  ·left
   have:x i < (el dues i).Sum:=by simp [DG] at hm; omega
   rw [if_pos this]; simp
  ·right
   have:x i > 0:=by simpa [DG] using hm
   rw [if_pos this]; simp
theorem qP (h:EA n dues) {x:Nat→Int} {i:Nat} (hi:i < dues.length) (b:Bool):bR (DG dues x i b) = DW (mF dues) (nL dues) (pV dues) x RF i b:=by
 have:=h.each i hi
 cases b <;> simp [bR,DG,DW,mF,nL,pV,RF] <;> omega
theorem GO (h:EA n dues) (x:Nat→Int):pK (mF dues) (nL dues) (pV dues) dues.length x (fun _ _=>True) RF ((iM dues x dues.length).map bR):=by
 constructor
 ·intro k hk
  rw [List.length_map] at hk
  rw [iH bR _ k hk]
  obtain ⟨i,b,hi,e,hm⟩:=uY.1 (show el (iM dues x dues.length) k ∈ iM dues x dues.length by rw [show el (iM dues x dues.length) k = (iM dues x dues.length)[k] from by simp [el,hk]]; exact List.getElem_mem _)
  refine ⟨i,b,hi,trivial,?_,by rw [e,qP h hi]⟩
  rw [← qP h hi]
  exact hm
 ·intro i b hi _ hm
  rw [← qP h hi] at hm
  have:=(uY (dues:=dues) (x:=x) (m:=dues.length)).2 ⟨i,b,hi,rfl,hm⟩
  obtain ⟨k,hk,e⟩:=List.mem_iff_getElem.1 this
  refine ⟨k,by rw [List.length_map]; exact hk,?_⟩
  rw [iH bR _ k hk,← qP h hi,← e]
  simp [el,hk]
theorem G2 (h:EA n dues) (x:Nat→Int):∀ g ∈ iM dues x dues.length,EU n g:=by
 intro g hg
 obtain ⟨i,b,hi,rfl,_⟩:=uY.1 hg
 have:=h.each i hi
 cases b <;> simp [EU,DG] <;> omega
end
end Go.Proofs.Ytiimibimkpimbaa
set_option linter.unusedVariables false
set_option linter.unusedSimpArgs false
namespace Go.Proofs.Ytiimibimkpimbaa
open Go.RowKit Vm
def KZ (l:List aB) (a:Int) (ks:List Nat):Int:=ks.foldl (fun a k=>if (el l k).most < a then (el l k).most else a) a
theorem Q2 (l:List aB):∀ (ks:List Nat) (a:Int),KZ l a ks ≤ a ∧ ∀ k ∈ ks,KZ l a ks ≤ (el l k).most
 | [],a=>⟨Int.le_refl _,fun k h=>by cases h⟩
 | k :: ks,a=>by
  obtain ⟨h1,h2⟩:=Q2 l ks (if (el l k).most < a then (el l k).most else a)
  have e:KZ l a (k :: ks) = KZ l (if (el l k).most < a then (el l k).most else a) ks:=rfl
  rw [e]
  have hc:(if (el l k).most < a then (el l k).most else a) ≤ a ∧ (if (el l k).most < a then (el l k).most else a) ≤ (el l k).most:=by split <;> omega
  refine ⟨by omega,fun j hj=>?_⟩
  rcases List.mem_cons.1 hj with rfl | hj
  ·omega
  ·exact h2 j hj
theorem LG (l:List aB):∀ (ks:List Nat) (a:Int),0 < a→(∀ k ∈ ks,0 < (el l k).most)→0 < KZ l a ks
 | [],a,h,_=>h
 | k :: ks,a,h,hk=>by
  have e:KZ l a (k :: ks) = KZ l (if (el l k).most < a then (el l k).most else a) ks:=rfl
  rw [e]
  refine LG l ks _ ?_ fun j hj=>hk j (List.mem_cons_of_mem _ hj)
  have:=hk k (List.mem_cons_self ..)
  split <;> omega
section
variable {n:Nat} {l:List aB} {last:List Int}
theorem EO {v k:Nat} (hv:v < last.length) (hl:el last v = (k:Int)) (hk:k < l.length):last[(v:Int).toNat]? = some (k:Int) ∧ l[(k:Int).toNat]? = some (el l k):=by
 rw [Int.toNat_natCast,Int.toNat_natCast,CH last v hv,CH l k hk,hl]
 exact ⟨rfl,rfl⟩
theorem QL {k:Nat} (hl:∀ g ∈ l,EU n g) (hk:k < l.length):(el (l.map bR) k).src < n ∧ (el l k).from_ = ((el (l.map bR) k).src:Nat):=by
 rw [iH bR l k hk]
 have hg:=hl (el l k) (by rw [show el l k = l[k] from by simp [el,hk]]; exact List.getElem_mem _)
 obtain ⟨⟨g1,g2⟩,_⟩:=hg
 simp only [gE.src,bR]
 omega
theorem aBM (hl:∀ g ∈ l,EU n g) (hla:last.length = n) (a0:Int) (a1:List aG) (p12 p13:List Int) (best:List aD) (r27:Int) {v u:Nat} {ks:List Nat} (w:Pth (l.map bR) last v ks u):v < n→∀ most:Int,gQ a0 a1 p12 p13 l (best,last) r27 most v = some (KZ l most ks,(u:Int)):=by
 induction w with
 | nil v hv =>
  intro hvn most
  unfold gQ
  refine gB ?_
  show fA a0 a1 p12 p13 l (best,last) r27 most v = _
  unfold fA
  dsimp only
  rw [if_pos ⟨by omega,by rw [Int.toNat_natCast]; omega⟩,Int.toNat_natCast,CH last v (by omega),hv]
  rfl
 | @cons v k u ks hk hlv hd w ih =>
  intro hvn most
  rw [List.length_map] at hk
  obtain ⟨q1,q2⟩:=QL hl hk
  obtain ⟨b1,b2⟩:=EO (l:=l) (last:=last) (by omega:v < last.length) hlv hk
  unfold gQ
  rw [gH (s':=((if (el l k).most < most then (el l k).most else most),(el l k).from_)) ?_]
  ·have:=ih q1 (if (el l k).most < most then (el l k).most else most)
   unfold gQ at this
   rw [q2]
   exact this
  ·show fA a0 a1 p12 p13 l (best,last) r27 most v = _
   unfold fA
   dsimp only
   have cv:0 ≤ (v:Int) ∧ (v:Int).toNat < last.length:=⟨by omega,by rw [Int.toNat_natCast]; omega⟩
   have ck:0 ≤ (k:Int) ∧ (k:Int).toNat < l.length:=⟨by omega,by rw [Int.toNat_natCast]; exact hk⟩
   have cg:decide ((k:Int) ≥ 0) = true:=by simp
   simp only [if_pos cv,if_pos ck,b1,b2,Option.bind_some,if_pos cg]
theorem U3 (hl:∀ g ∈ l,EU n g) (hla:last.length = n) (a0:Int) (a1:List aG) (a3:List Int) (a4:Int) (p5:List Int) (best:List aD) {v u:Nat} {ks:List Nat} (w:Pth (l.map bR) last v ks u):v < n→∀ most:Int,iS a0 a1 a3 a4 p5 l (best,last) most v = some (KZ l most ks):=by
 induction w with
 | nil v hv =>
  intro hvn most
  unfold iS
  refine gB ?_
  show fU a0 a1 a3 a4 p5 l (best,last) most v = _
  unfold fU
  dsimp only
  rw [if_pos ⟨by omega,by rw [Int.toNat_natCast]; omega⟩,Int.toNat_natCast,CH last v (by omega),hv]
  rfl
 | @cons v k u ks hk hlv hd w ih =>
  intro hvn most
  rw [List.length_map] at hk
  obtain ⟨q1,q2⟩:=QL hl hk
  obtain ⟨b1,b2⟩:=EO (l:=l) (last:=last) (by omega:v < last.length) hlv hk
  unfold iS
  rw [gH (s':=((if (el l k).most < most then (el l k).most else most),(el l k).from_)) ?_]
  ·have:=ih q1 (if (el l k).most < most then (el l k).most else most)
   unfold iS at this
   rw [q2]
   exact this
  ·show fU a0 a1 a3 a4 p5 l (best,last) most v = _
   unfold fU
   dsimp only
   have cv:0 ≤ (v:Int) ∧ (v:Int).toNat < last.length:=⟨by omega,by rw [Int.toNat_natCast]; omega⟩
   have ck:0 ≤ (k:Int) ∧ (k:Int).toNat < l.length:=⟨by omega,by rw [Int.toNat_natCast]; exact hk⟩
   have cg:decide ((k:Int) ≥ 0) = true:=by simp
   simp only [if_pos cv,if_pos ck,b1,b2,Option.bind_some,if_pos cg]
theorem aDx {g:aB} {x:List Int} {d B D:Int} (h0:0 ≤ g.due) (hd:g.due.toNat < x.length) (hx:∀ i,-B ≤ el x i ∧ el x i ≤ B) (hd0:0 ≤ d) (hdD:d ≤ D) (hB:B + D ≤ 4611686018427387904) :
  fS g x d = some (x.set g.due.toNat (el x g.due.toNat + RS (bR g) d)):=by
 have hj:∀ e:Int,-D ≤ e→e ≤ D→gL g x e = some (x.set g.due.toNat (el x g.due.toNat + e)):=by
  intro e h1 h2
  have:=hx g.due.toNat
  unfold gL
  rw [if_pos ⟨h0,hd⟩,CH x _ hd,Option.bind_some,if_pos ⟨h0,hd⟩,Option.bind_some,jZ (by omega) (by omega)]
 unfold fS
 have hB0:=hx 0
 by_cases c:g.back = true
 ·rw [if_pos c,jZ (by omega) (by omega),hj _ (by omega) (by omega),Option.bind_some]
  simp [RS,bR,c]
 ·rw [if_neg c,hj _ (by omega) hdD,Option.bind_some]
  simp [RS,bR,c]
theorem PI {x:List Int} {i:Nat} {a B D:Int} (hx:∀ i,-B ≤ el x i ∧ el x i ≤ B) (h1:-(B + D) ≤ a) (h2:a ≤ B + D) (hD:0 ≤ D):∀ j,-(B + D) ≤ el (x.set i a) j ∧ el (x.set i a) j ≤ B + D:=by
 intro j
 rw [eR]
 have:=hx j
 split <;> omega
theorem aAb (hl:∀ g ∈ l,EU n g) (hla:last.length = n) {m:Nat} (hdue:∀ g ∈ l,0 ≤ g.due ∧ g.due < m) (a0:Int) (a1:List aG) (p12:List Int) (best:List aD) (r27:Int) (r38:Int × Int) (x39:Int) {D:Int} (hd0:0 ≤ (if x39 < r38.1 then x39 else r38.1)) (hdD:(if x39 < r38.1 then x39 else r38.1) ≤ D) {v u:Nat} {ks:List Nat} (w:Pth (l.map bR) last v ks u):v < n→∀ (x:List Int) (B:Int),x.length = m→(∀ i,-B ≤ el x i ∧ el x i ≤ B)→B + (ks.length:Int) * D ≤ 4611686018427387904 →
  gR a0 a1 p12 l (best,last) r27 r38 x39 v x = some (yP (l.map bR) (if x39 < r38.1 then x39 else r38.1) x ks):=by
 induction w with
 | nil v hv =>
  intro hvn x B hxm hx hB
  unfold gR
  refine gB ?_
  show fE a0 a1 p12 l (best,last) r27 r38 x39 v x = _
  unfold fE
  dsimp only
  rw [if_pos ⟨by omega,by rw [Int.toNat_natCast]; omega⟩,Int.toNat_natCast,CH last v (by omega),hv]
  rfl
 | @cons v k u ks hk hlv hd w ih =>
  intro hvn x B hxm hx hB
  rw [List.length_map] at hk
  obtain ⟨q1,q2⟩:=QL hl hk
  obtain ⟨b1,b2⟩:=EO (l:=l) (last:=last) (by omega:v < last.length) hlv hk
  have hg:=hdue (el l k) (by rw [show el l k = l[k] from by simp [el,hk]]; exact List.getElem_mem _)
  have hD0:0 ≤ D:=by omega
  have hks:((k :: ks).length:Int) * D = (ks.length:Int) * D + D:=by
   rw [List.length_cons]; rw [show ((ks.length + 1:Nat):Int) = (ks.length:Int) + 1 by omega,Int.add_mul,Int.one_mul]
  have hpos:0 ≤ (ks.length:Int) * D:=Int.mul_nonneg (by omega) hD0
  have hmv:=aDx (g:=el l k) (x:=x) (B:=B) hg.1 (by omega) hx hd0 hdD (by omega)
  unfold gR
  rw [gH (s':=((el l k).from_,x.set (el l k).due.toNat (el x (el l k).due.toNat + RS (bR (el l k)) (if x39 < r38.1 then x39 else r38.1)))) ?_]
  ·have hsg:-D ≤ RS (bR (el l k)) (if x39 < r38.1 then x39 else r38.1) ∧ RS (bR (el l k)) (if x39 < r38.1 then x39 else r38.1) ≤ D:=by unfold RS; split <;> omega
   have hxd:=hx (el l k).due.toNat
   have:=ih q1 (x.set (el l k).due.toNat (el x (el l k).due.toNat + RS (bR (el l k)) (if x39 < r38.1 then x39 else r38.1))) (B + D) (by rw [List.length_set]; exact hxm) (PI hx (by omega) (by omega) hD0) (by omega)
   unfold gR at this
   rw [q2,this,yP,iH bR l k hk]
   rfl
  ·show fE a0 a1 p12 l (best,last) r27 r38 x39 v x = _
   unfold fE
   dsimp only
   have cv:0 ≤ (v:Int) ∧ (v:Int).toNat < last.length:=⟨by omega,by rw [Int.toNat_natCast]; omega⟩
   have ck:0 ≤ (k:Int) ∧ (k:Int).toNat < l.length:=⟨by omega,by rw [Int.toNat_natCast]; exact hk⟩
   have cg:decide ((k:Int) ≥ 0) = true:=by simp
   simp only [if_pos cv,if_pos ck,b1,b2,Option.bind_some,if_pos cg,hmv]
end
end Go.Proofs.Ytiimibimkpimbaa
set_option linter.unusedVariables false
set_option linter.unusedSimpArgs false
namespace Go.Proofs.Ytiimibimkpimbaa
open Go.RowKit Vm
theorem HF (fr tt:Nat→Nat) (k:Nat) (x:Nat→Int) (v:Nat):lN fr tt (k + 1) x v = lN fr tt k x v + ((if tt k = v then x k else 0) - (if fr k = v then x k else 0)):=rfl
theorem B0 {fr tt:Nat→Nat} {x:Nat→Int} {S:Int} (hS:0 ≤ S):∀ k,(∀ i,i < k→0 ≤ x i ∧ x i ≤ S)→∀ v,-((k:Int) * S) ≤ lN fr tt k x v ∧ lN fr tt k x v ≤ (k:Int) * S
 | 0,_,v=>by simp [lN,gU]
 | k + 1,h,v=>by
  have:=B0 hS k (fun i hi=>h i (by omega)) v (fr:=fr) (tt:=tt)
  have hk:=h k (by omega)
  rw [HF,show ((k + 1:Nat):Int) * S = (k:Int) * S + S by rw [show ((k + 1:Nat):Int) = (k:Int) + 1 by omega,Int.add_mul,Int.one_mul]]
  split <;> split <;> omega
section
variable {n:Nat} {dues:List aG} {sums:List Int}
def BM (n:Nat) (dues:List aG) (x:Nat→Int):List Int:=(List.range n).map fun v=>lN (mF dues) (nL dues) dues.length x v
theorem AC (x:Nat→Int):(BM n dues x).length = n:=by simp [BM]
theorem F7 (x:Nat→Int) {v:Nat} (hv:v < n):el (BM n dues x) v = lN (mF dues) (nL dues) dues.length x v:=by simp [BM,el,hv]
theorem aJ3 (h:EA n dues) (hl:sums.length = dues.length) (hr:Z2 (pV dues) dues.length (el sums)):kI n dues sums 0 (List.replicate n (0:Int)) = some (BM n dues (el sums)):=by
 unfold kI
 suffices hh:∃ x,eU (fun (w:Int × List Int)=>dP n dues sums w.1 w.2) (0,List.replicate n (0:Int)) = some x ∧ x = BM n dues (el sums) by
  obtain ⟨x,h1,h2⟩:=hh
  rw [h1,h2]
 have hlen:=h.len
 have hS:∀ i,i < dues.length→0 ≤ el sums i ∧ el sums i ≤ 1099511627776:=fun i hi=>by have:=hr i hi; have:=h.each i hi; unfold pV at *; omega
 refine pD (step:=fun (w:Int × List Int)=>dP n dues sums w.1 w.2) (fun k (a:List Int)=>((k:Int),a)) dues.length (fun k a=>a.length = n ∧ ∀ v,v < n→el a v = lN (mF dues) (nL dues) k (el sums) v) _ ?_ ?_ _ ⟨List.length_replicate,fun v hv=>by rw [kC _ _ _ hv]; rfl⟩
 ·rintro k a hk ⟨h1,h2⟩
  obtain ⟨⟨f1,f2⟩,⟨t1,t2⟩,hne,_⟩:=h.each k hk
  have hx:=hS k hk
  have hb:=B0 (fr:=mF dues) (tt:=nL dues) (x:=el sums) (S:=1099511627776) (by omega) k fun i hi=>hS i (by omega)
  have hk100:(k:Int) * 1099511627776 ≤ 100 * 1099511627776:=by omega
  have hT:(el dues k).To.toNat < n:=by omega
  have hF:(el dues k).From.toNat < n:=by omega
  have bT:=hb (el dues k).To.toNat
  have bF:=hb (el dues k).From.toNat
  have hnf:¬ (el dues k).From.toNat = (el dues k).To.toNat:=by omega
  refine .inl ⟨(a.set (el dues k).To.toNat (el a (el dues k).To.toNat + el sums k)).set (el dues k).From.toNat (el a (el dues k).From.toNat - el sums k),?_,by simp [h1],fun v hv=>?_⟩
  ·show dP n dues sums k a = _
   unfold dP
   have c0:decide ((k:Int) < (dues.length:Int)) = true:=by simpa using hk
   have cT:0 ≤ (el dues k).To ∧ (el dues k).To.toNat < a.length:=⟨t1,by omega⟩
   have ck:0 ≤ (k:Int) ∧ (k:Int).toNat < sums.length:=⟨by omega,by rw [Int.toNat_natCast]; omega⟩
   have eS:sums[(k:Int).toNat]? = some (el sums k):=by rw [Int.toNat_natCast]; exact CH sums k (by omega)
   have eT:a[(el dues k).To.toNat]? = some (el a (el dues k).To.toNat):=CH a _ (by omega)
   have w1:IntKind.wrap .i64 (el a (el dues k).To.toNat + el sums k) = el a (el dues k).To.toNat + el sums k:=jZ (by rw [h2 _ hT]; omega) (by rw [h2 _ hT]; omega)
   have cF:0 ≤ (el dues k).From ∧ (el dues k).From.toNat < (a.set (el dues k).To.toNat (el a (el dues k).To.toNat + el sums k)).length:=⟨f1,by rw [List.length_set]; omega⟩
   have eF:(a.set (el dues k).To.toNat (el a (el dues k).To.toNat + el sums k))[(el dues k).From.toNat]? = some (el a (el dues k).From.toNat):=by
    rw [CH _ _ (by rw [List.length_set]; omega),eR,if_neg fun q=>hnf q.1]
   have w2:IntKind.wrap .i64 (el a (el dues k).From.toNat - el sums k) = el a (el dues k).From.toNat - el sums k:=jZ (by rw [h2 _ hF]; omega) (by rw [h2 _ hF]; omega)
   have w3:IntKind.wrap .i64 ((k:Int) + 1) = ((k + 1:Nat):Int):=dB (by omega)
   simp only [if_pos c0,pS dues k hk,Option.bind_some,if_pos cT,eT,if_pos ck,eS,w1,if_pos cF,eF,w2,w3]
  ·rw [HF,eR,List.length_set]
   unfold nL mF
   have h2v:=h2 v hv
   unfold nL mF at h2v
   by_cases e1:v = (el dues k).From.toNat
   ·have e2:¬ (el dues k).To.toNat = v:=by omega
    rw [if_pos ⟨e1,by omega⟩,if_neg e2,if_pos e1.symm,← e1,h2v]; omega
   ·have e1' : ¬ (el dues k).From.toNat = v:=fun q=>e1 q.symm
    have e1'' : ¬ (v = (el dues k).From.toNat ∧ (el dues k).From.toNat < a.length):=fun q=>e1 q.1
    rw [if_neg e1'',if_neg e1',eR]
    by_cases e2:v = (el dues k).To.toNat
    ·rw [if_pos ⟨e2,by omega⟩,if_pos e2.symm,← e2,h2v]; omega
    ·have e2' : ¬ (el dues k).To.toNat = v:=fun q=>e2 q.symm
     have e2'' : ¬ (v = (el dues k).To.toNat ∧ (el dues k).To.toNat < a.length):=fun q=>e2 q.1
     rw [if_neg e2'',if_neg e2',h2v]; omega
 ·rintro a ⟨h1,h2⟩
  refine ⟨a,?_,yE (by rw [h1,AC]) fun v hv=>by rw [h1] at hv; rw [h2 v hv,F7 _ hv]⟩
  show dP n dues sums dues.length a = _
  unfold dP
  rw [if_neg (by simp)]
end
end Go.Proofs.Ytiimibimkpimbaa
set_option linter.unusedVariables false
set_option linter.unusedSimpArgs false
namespace Go.Proofs.Ytiimibimkpimbaa
open Go.RowKit Vm
section
variable {n:Nat} {dues:List aG} {sums:List Int}
theorem aKQ (hn:n ≤ 1000) {too:List Int} (ht:too.length = n) {best:List LZ} (hb:best.length = n) (last:List Int) (l:List aB):∃ e:Int,kO n dues too sums l (best.map mL,last) (-1) 0 = some e ∧
  ((e = -1 ∧ ∀ v,v < n→el too v < 0→(el best v).fine = false) ∨ ∃ v:Nat,e = v ∧ v < n ∧ el too v < 0 ∧ (el best v).fine = true):=by
 unfold kO
 refine pD (step:=fun (w:Int × Int)=>bS n dues too sums l (best.map mL,last) w.1 w.2) (fun k (a:Int)=>(a,(k:Int))) n
  (fun k a=>(a = -1 ∧ ∀ v,v < k→el too v < 0→(el best v).fine = false) ∨ ∃ v:Nat,a = v ∧ v < n ∧ el too v < 0 ∧ (el best v).fine = true) _ ?_ ?_ _ (.inl ⟨rfl,fun v hv=>absurd hv (Nat.not_lt_zero _)⟩)
 ·intro k a hk hI
  refine .inl ?_
  have c0:decide ((k:Int) < (n:Int)) = true:=by simpa using hk
  have ck:0 ≤ (k:Int) ∧ (k:Int).toNat < too.length:=⟨by omega,by rw [Int.toNat_natCast]; omega⟩
  have ek:too[(k:Int).toNat]? = some (el too k):=by rw [Int.toNat_natCast]; exact CH too k (by omega)
  have cb:0 ≤ (k:Int) ∧ (k:Int).toNat < (best.map mL).length:=⟨by omega,by rw [Int.toNat_natCast,List.length_map]; omega⟩
  have eb:(best.map mL)[(k:Int).toNat]? = some (mL (el best k)):=by rw [Int.toNat_natCast,List.getElem?_map,CH best k (by omega)]; rfl
  have w3:IntKind.wrap .i64 ((k:Int) + 1) = ((k + 1:Nat):Int):=dB (by omega)
  have hfine:(mL (el best k)).fine = (el best k).fine:=rfl
  by_cases hneg:el too k < 0
  ·have cn:decide (el too k < 0) = true:=by simpa using hneg
   rcases hI with ⟨rfl,hI⟩ | ⟨v,rfl,hv,hv1,hv2⟩
   ·have ce:decide ((-1:Int) < 0) = true:=rfl
    have cg:¬ decide ((-1:Int) ≥ 0) = true:=by decide
    by_cases hf:(el best k).fine = true
    ·refine ⟨(k:Int),?_,.inr ⟨k,rfl,hk,hneg,hf⟩⟩
     show bS n dues too sums l (best.map mL,last) (-1) k = _
     unfold bS
     simp only [if_pos c0,if_pos ck,ek,Option.bind_some,if_pos cn,if_pos ce,if_pos cb,eb,hfine,if_pos hf,w3]
    ·refine ⟨-1,?_,.inl ⟨rfl,fun v hv hvn=>?_⟩⟩
     ·show bS n dues too sums l (best.map mL,last) (-1) k = _
      unfold bS
      simp only [if_pos c0,if_pos ck,ek,Option.bind_some,if_pos cn,if_pos ce,if_pos cb,eb,hfine,if_neg hf,if_neg cg,w3]
     ·by_cases e:v = k
      ·subst e; simpa using hf
      ·exact hI v (by omega) hvn
   ·have ce:¬ decide ((v:Int) < 0) = true:=by simp
    have cg:decide ((v:Int) ≥ 0) = true:=by simp
    have cv:0 ≤ (v:Int) ∧ (v:Int).toNat < (best.map mL).length:=⟨by omega,by rw [Int.toNat_natCast,List.length_map]; omega⟩
    have ev:(best.map mL)[(v:Int).toNat]? = some (mL (el best v)):=by rw [Int.toNat_natCast,List.getElem?_map,CH best v (by omega)]; rfl
    by_cases hls:oR (el best k) (el best v) = true
    ·refine ⟨(k:Int),?_,.inr ⟨k,rfl,hk,hneg,((IA _ _).1 hls).1⟩⟩
     show bS n dues too sums l (best.map mL,last) v k = _
     unfold bS
     simp only [if_pos c0,if_pos ck,ek,Option.bind_some,if_pos cn,if_neg ce,if_pos cg,if_pos cb,eb,if_pos cv,ev,PW,if_pos hls,w3]
    ·refine ⟨(v:Int),?_,.inr ⟨v,rfl,hv,hv1,hv2⟩⟩
     show bS n dues too sums l (best.map mL,last) v k = _
     unfold bS
     simp only [if_pos c0,if_pos ck,ek,Option.bind_some,if_pos cn,if_neg ce,if_pos cg,if_pos cb,eb,if_pos cv,ev,PW,if_neg hls,w3]
  ·have cn:¬ decide (el too k < 0) = true:=by simpa using hneg
   refine ⟨a,?_,?_⟩
   ·show bS n dues too sums l (best.map mL,last) a k = _
    unfold bS
    simp only [if_pos c0,if_pos ck,ek,Option.bind_some,if_neg cn,w3]
   ·rcases hI with ⟨h1,h2⟩ | q
    ·refine .inl ⟨h1,fun v hv hvn=>?_⟩
     by_cases e:v = k
     ·subst e; exact absurd hvn hneg
     ·exact h2 v (by omega) hvn
    ·exact .inr q
 ·intro a hI
  refine ⟨a,?_,hI⟩
  show bS n dues too sums l (best.map mL,last) a n = _
  unfold bS
  rw [if_neg (by simp)]
end
end Go.Proofs.Ytiimibimkpimbaa
