/- Clearings as flows: what is best (plain mathematics). Least labels by sequences of steps: rounds until nothing changes (plain mathematics). Without cycles that cost less than nothing as many steps as there are nodes are enough (plain mathematics). Steps of a clearing, least labels, and what moves along them (plain mathematics). Balancing and raising (plain mathematics). Balancing ends balanced and best; raising ends lexicographically greatest (plain mathematics). Moving a sum along a due and a way back (plain mathematics). -/
import Derived.Test.YtgjcnbgfaimepaaLoops3
namespace Go.Proofs.Ytgjcnbgfaimepaa
section
def eY (g:Nat->Int):Nat->Int
 | 0=>0
 | n + 1=>eY g n + g n
theorem jJ {g h:Nat->Int}:∀ {n:Nat},(∀ i,i < n->g i = h i)->eY g n = eY h n
 | 0,_=>rfl
 | n + 1,e=>by rw [eY,eY,jJ fun i hi=>e i (by omega),e n (by omega)]
theorem UC (g h:Nat->Int):∀ n,eY (fun i=>g i + h i) n = eY g n + eY h n
 | 0=>rfl
 | n + 1=>by rw [eY,eY,eY,UC g h n]; omega
theorem ED (g h:Nat->Int):∀ n,eY (fun i=>g i - h i) n = eY g n - eY h n
 | 0=>rfl
 | n + 1=>by rw [eY,eY,eY,ED g h n]; omega
theorem aDF (c:Int) (g:Nat->Int):∀ n,eY (fun i=>c * g i) n = c * eY g n
 | 0=>by simp [eY]
 | n + 1=>by rw [eY,eY,aDF c g n,Int.mul_add]
theorem xG:∀ n,eY (fun _=>0) n = 0
 | 0=>rfl
 | n + 1=>by rw [eY,xG n]; rfl
theorem XD {g h:Nat->Int}:∀ {n:Nat},(∀ i,i < n->g i <= h i)->eY g n <= eY h n
 | 0,_=>į _
 | n + 1,e=>by
  have:=XD (n:=n) fun i hi=>e i (by omega)
  have:=e n (by omega)
  rw [eY,eY]; omega
theorem WE {g:Nat->Int} {n:Nat} (h:∀ i,i < n->0 <= g i):0 <= eY g n:=by
 rw [← xG n]; exact XD h
theorem KT {g:Nat->Int}:∀ {n:Nat},(∀ i,i < n->0 <= g i)->∀ i,i < n->g i <= eY g n
 | 0,_,i,hi=>absurd hi (í _)
 | n + 1,h,i,hi=>by
  have h0:=WE (n:=n) fun j hj=>h j (by omega)
  rw [eY]
  by_cases e:i = n
  ·subst e; omega
  ·have:=KT (n:=n) (fun j hj=>h j (by omega)) i (by omega)
   have:=h n (by omega)
   omega
theorem RI {g:Nat->Int} {n:Nat} (h:∀ i,i < n->g i <= 0) (hs:0 <= eY g n):∀ i,i < n->g i = 0:=by
 intro i hi
 have h1:=KT (g:=fun i=>-g i) (n:=n) (fun j hj=>by have:=h j hj; omega) i hi
 have h2:eY (fun i=>-g i) n = - eY g n:=by
  have:=ED (fun _=>0) g n
  rw [xG] at this
  rw [jJ (h:=fun i=>0 - g i) fun i _=>by omega,this]; omega
 have:=h i hi
 omega
theorem TZ {n:Nat} {i:Nat} (hi:i < n) (c:Int):eY (fun v=>if v = i then c else 0) n = c:=by
 induction n with
 | zero=>exact absurd hi (í _)
 | succ n ih =>
  rw [eY]
  by_cases e:i = n
  ·subst e
   rw [Á rfl,jJ (h:=fun _=>0) fun j hj=>Ã (by omega),xG]; omega
  ·rw [ih (by omega),Ã (by omega)]; omega
theorem aAI (f:Nat->Nat->Int) (n:Nat):∀ m,eY (fun v=>eY (fun i=>f v i) m) n = eY (fun i=>eY (fun v=>f v i) n) m
 | 0=>by simp only [eY]; exact xG n
 | m + 1=>by
  simp only [eY]
  rw [UC,aAI f n m]
def netF (fr tt:Nat->Nat) (m:Nat) (x:Nat->Int) (v:Nat):Int:=eY (fun i=>(if tt i = v then x i else 0) - (if fr i = v then x i else 0)) m
theorem aCk {fr tt:Nat->Nat} {n m:Nat} (hf:∀ i,i < m->fr i < n) (ht:∀ i,i < m->tt i < n) (x p:Nat->Int):eY (fun v=>p v * netF fr tt m x v) n = eY (fun i=>x i * (p (tt i) - p (fr i))) m:=by
 unfold netF
 rw [jJ (h:=fun v=>eY (fun i=>p v * ((if tt i = v then x i else 0) - (if fr i = v then x i else 0))) m) fun v _=>(aDF _ _ _).symm,aAI]
 refine jJ fun i hi=>?_
 have h1:eY (fun v=>if v = tt i then p (tt i) * x i else 0) n = p (tt i) * x i:=TZ (ht i hi) _
 have h2:eY (fun v=>if v = fr i then p (fr i) * x i else 0) n = p (fr i) * x i:=TZ (hf i hi) _
 rw [jJ (h:=fun v=>(if v = tt i then p (tt i) * x i else 0) - (if v = fr i then p (fr i) * x i else 0)) fun v _=>?_,ED,h1,h2,Int.mul_sub,Int.mul_comm,Int.mul_comm (p (fr i))]
 by_cases e1:tt i = v <;> by_cases e2:fr i = v
 ·rw [Á e1,Á e2,Á e1.symm,Á e2.symm,← e1,Int.mul_sub]; rw [e1,e2]
 ·rw [Á e1,Ã e2,Á e1.symm,Ã (fun q=>e2 q.symm),← e1]; rw [Int.mul_sub,Int.mul_zero]
 ·rw [Ã e1,Á e2,Ã (fun q=>e1 q.symm),Á e2.symm,← e2]; rw [Int.mul_sub,Int.mul_zero]
 ·rw [Ã e1,Ã e2,Ã (fun q=>e1 q.symm),Ã (fun q=>e2 q.symm)]; simp
structure oG (fr tt:Nat->Nat) (s:Nat->Int) (n m:Nat) (x:Nat->Int):Prop where
 lo:∀ i,i < m->0 <= x i
 hi:∀ i,i < m->x i <= s i
 net:∀ v,v < n->netF fr tt m x v = 0
def iP (fr tt:Nat->Nat) (s:Nat->Int) (m:Nat) (x p:Nat->Int):Prop:=∀ i,i < m->(x i < s i->p (tt i) <= p (fr i) - 1) ∧ (0 < x i->p (fr i) <= p (tt i) + 1)
section
variable {fr tt:Nat->Nat} {s:Nat->Int} {n m:Nat}
theorem K8 (hf:∀ i,i < m->fr i < n) (ht:∀ i,i < m->tt i < n) {x:Nat->Int} (h:∀ v,v < n->netF fr tt m x v = 0) (p:Nat->Int):eY (fun i=>x i * (p (tt i) - p (fr i))) m = 0:=by
 rw [← aCk hf ht,jJ (h:=fun _=>0) fun v hv=>by rw [h v hv,Int.mul_zero],xG]
theorem aBc (hf:∀ i,i < m->fr i < n) (ht:∀ i,i < m->tt i < n) {x y p:Nat->Int} (hx:oG fr tt s n m x) (hy:oG fr tt s n m y):eY (fun i=>(y i - x i) * (1 + (p (tt i) - p (fr i)))) m = eY y m - eY x m:=by
 have h1:=K8 hf ht hx.net p
 have h2:=K8 hf ht hy.net p
 rw [jJ (h:=fun i=>(y i - x i) + (y i * (p (tt i) - p (fr i)) - x i * (p (tt i) - p (fr i)))) fun i _=>by rw [Int.mul_add,Int.mul_one,Int.sub_mul],UC,ED,ED,h1,h2]
 omega
theorem aAt {x y p:Nat->Int} (hx:oG fr tt s n m x) (hy:oG fr tt s n m y) (hc:iP fr tt s m x p):∀ i,i < m->(y i - x i) * (1 + (p (tt i) - p (fr i))) <= 0:=by
 intro i hi
 have c:=hc i hi
 have h1:=hy.hi i hi
 have h2:=hy.lo i hi
 rcases Int.lt_trichotomy (x i) (y i) with q | q | q
 ·have:=c.1 (by omega)
  exact Int.mul_nonpos_of_nonneg_of_nonpos (by omega) (by omega)
 ·rw [← q]; simp
 ·have:=c.2 (by omega)
  exact Int.mul_nonpos_of_nonpos_of_nonneg (by omega) (by omega)
theorem KZ (hf:∀ i,i < m->fr i < n) (ht:∀ i,i < m->tt i < n) {x y p:Nat->Int} (hx:oG fr tt s n m x) (hy:oG fr tt s n m y) (hc:iP fr tt s m x p):eY y m <= eY x m:=by
 have h1:=aBc hf ht (p:=p) hx hy
 have h2:=XD (h:=fun _=>0) (aAt hx hy hc)
 rw [xG] at h2
 omega
theorem SA (hf:∀ i,i < m->fr i < n) (ht:∀ i,i < m->tt i < n) {x y p:Nat->Int} (hx:oG fr tt s n m x) (hy:oG fr tt s n m y) (hc:iP fr tt s m x p) (he:eY x m <= eY y m):∀ i,i < m->y i ≠ x i->p (tt i) = p (fr i) - 1:=by
 intro i hi hne
 have h1:=aBc hf ht (p:=p) hx hy
 have h2:=RI (aAt hx hy hc) (by omega) i hi
 rcases Int.mul_eq_zero.1 h2 with q | q
 ·omega
 ·omega
end
end
section
section
variable {C St:Type} [Inhabited C] [Inhabited St]
def iN (less:C->C->Bool) (onw:C->St->C) (src dst:St->Nat) (l:List St) (z:List C × List Int × Bool) (i:Nat):List C × List Int × Bool :=
 if less (onw (el z.1 (src (el l i))) (el l i)) (el z.1 (dst (el l i))) = true then (z.1.set (dst (el l i)) (onw (el z.1 (src (el l i))) (el l i)),z.2.1.set (dst (el l i)) (i:Int),true) else z
def tY (less:C->C->Bool) (onw:C->St->C) (src dst:St->Nat) (l:List St) (best:List C) (last:List Int):List C × List Int × Bool :=
 (List.range l.length).foldl (iN less onw src dst l) (best,last,false)
def Z9 (less:C->C->Bool) (onw:C->St->C) (src dst:St->Nat) (l:List St):Nat->List C->List Int->Option (List C × List Int)
 | 0,_,_=>none
 | f + 1,best,last=>if (tY less onw src dst l best last).2.2 = true then Z9 less onw src dst l f (tY less onw src dst l best last).1 (tY less onw src dst l best last).2.1
  else some ((tY less onw src dst l best last).1,(tY less onw src dst l best last).2.1)
inductive ZX (onw:C->St->C) (src dst:St->Nat) (l:List St) (init:List C):Nat->C->Nat->Prop
 | zero (v:Nat):v < init.length->ZX onw src dst l init 0 (el init v) v
 | step {k:Nat} {a:C} (i:Nat):i < l.length->ZX onw src dst l init k a (src (el l i))->ZX onw src dst l init (k + 1) (onw a (el l i)) (dst (el l i))
structure aLZ (less:C->C->Bool) (onw:C->St->C):Prop where
 irr:∀ a,less a a = false
 asym:∀ a b,less a b = true->less b a = false
 neg:∀ a b c,less a b = false->less b c = false->less a c = false
 mono:∀ a b s,less a b = false->less (onw a s) (onw b s) = false
def FD (less:C->C->Bool) (a b:C):Prop:=less b a = false
theorem bR {α:Type} [Inhabited α] (l:List α) (i j:Nat) (x:α):el (l.set i x) j = if j = i ∧ i < l.length then x else el l j:=by
 unfold el
 rw [Ý,Ý,ĥ]
 by_cases e:i = j
 ·subst e
  by_cases h:i < l.length
  ·simp [h]
  ·simp [h]
 ·rw [Ã e,Ã (fun q=>e q.1.symm)]
theorem cY {α:Type} [Inhabited α] (n i:Nat) (x:α) (h:i < n):el (List.replicate n x) i = x:=by simp [el,h]
theorem aAC {α β:Type} (f:β->α->β) (P:Nat->β->Prop):∀ (n:Nat) (g:Nat->α) (b:β),P 0 b->(∀ k b,k < n->P k b->P (k + 1) (f b (g k)))->P n (((List.range n).map g).foldl f b)
 | 0,g,b,h0,_=>h0
 | n + 1,g,b,h0,h=>by
  rw [Ĉ,Ă,ü]
  exact h n _ (Ġ n) (aAC f P n g b h0 fun k b hk=>h k b (by omega))
variable {less:C->C->Bool} {onw:C->St->C} {src dst:St->Nat} {l:List St}
structure W6 (less:C->C->Bool) (onw:C->St->C) (src dst:St->Nat) (l:List St) (init best:List C) (last:List Int):Prop where
 len:best.length = init.length
 lenL:last.length = init.length
 wk:∀ v,v < init.length->∃ k,ZX onw src dst l init k (el best v) v
 le0:∀ v,v < init.length->FD less (el best v) (el init v)
 last_:∀ v,v < init.length->(el last v = -1 ∧ el best v = el init v) ∨ ∃ i,i < l.length ∧ el last v = (i:Int) ∧ dst (el l i) = v ∧ FD less (onw (el best (src (el l i))) (el l i)) (el best v)
theorem aAx (O:aLZ less onw) {init best:List C} {last:List Int} (hs:∀ i,i < l.length->src (el l i) < init.length ∧ dst (el l i) < init.length) (h:W6 less onw src dst l init best last) :
  ∃ b la ch,tY less onw src dst l best last = (b,la,ch) ∧ W6 less onw src dst l init b la ∧ (∀ v,v < init.length->FD less (el b v) (el best v)) ∧ (∀ i,i < l.length->FD less (el b (dst (el l i))) (onw (el best (src (el l i))) (el l i))) ∧
   (ch = false->b = best ∧ la = last) ∧ ((∀ k a v,ZX onw src dst l init k a v->FD less (el best v) a)->ch = false):=by
 have key:=aAC (iN less onw src dst l) (fun k z=>W6 less onw src dst l init z.1 z.2.1 ∧ (∀ v,v < init.length->FD less (el z.1 v) (el best v)) ∧ (∀ i,i < k->FD less (el z.1 (dst (el l i))) (onw (el best (src (el l i))) (el l i))) ∧
   (z.2.2 = false->z.1 = best ∧ z.2.1 = last) ∧ ((∀ k a v,ZX onw src dst l init k a v->FD less (el best v) a)->z.2.2 = false)) l.length id (best,last,false)
  ⟨h,fun v _=>O.irr _,fun i hi=>absurd hi (í _),fun _=>⟨rfl,rfl⟩,fun _=>rfl⟩ ?_
 ·rw [List.map_id] at key
  refine ⟨_,_,_,rfl,key.1,key.2.1,key.2.2.1,key.2.2.2.1,key.2.2.2.2⟩
 ·rintro k ⟨b,la,ch⟩ hk ⟨h1,h2,h3,h4,h5⟩
  dsimp only at h1 h2 h3 h4 h5
  obtain ⟨hsu,hdv⟩:=hs k hk
  have hlb:=h1.len
  have hll:=h1.lenL
  simp only [id,iN]
  -- the label over this step
  have hon:FD less (onw (el b (src (el l k))) (el l k)) (onw (el best (src (el l k))) (el l k)):=O.mono _ _ _ (h2 _ hsu)
  by_cases c:less (onw (el b (src (el l k))) (el l k)) (el b (dst (el l k))) = true
  ·rw [Á c]
   dsimp only
   have hset:∀ v,el (b.set (dst (el l k)) (onw (el b (src (el l k))) (el l k))) v = if v = dst (el l k) then onw (el b (src (el l k))) (el l k) else el b v:=fun v=>by
    rw [bR]
    by_cases e:v = dst (el l k)
    ·rw [Á ⟨e,by omega⟩,Á e]
    ·rw [Ã (fun q=>e q.1),Ã e]
   have hsetL:∀ v,el (la.set (dst (el l k)) (k:Int)) v = if v = dst (el l k) then (k:Int) else el la v:=fun v=>by
    rw [bR]
    by_cases e:v = dst (el l k)
    ·rw [Á ⟨e,by omega⟩,Á e]
    ·rw [Ã (fun q=>e q.1),Ã e]
   have hdown:∀ v,FD less (el (b.set (dst (el l k)) (onw (el b (src (el l k))) (el l k))) v) (el b v):=by
    intro v
    rw [hset]
    split
    ·rename_i e; rw [e]; exact O.asym _ _ c
    ·exact O.irr _
   have tr:∀ {x y z:C},FD less x y->FD less y z->FD less x z:=fun hxy hyz=>O.neg _ _ _ hyz hxy
   refine ⟨⟨by simp [hlb],by simp [hll],fun v hv=>?_,fun v hv=>tr (hdown v) (h1.le0 v hv),fun v hv=>?_⟩,fun v hv=>tr (hdown v) (h2 v hv),fun i hi=>?_,(fun q=>by cases q),fun q=>?_⟩
   ·rw [hset]
    split
    ·rename_i e
     subst e
     obtain ⟨j,hj⟩:=h1.wk _ hsu
     exact ⟨j + 1,.step k hk hj⟩
    ·exact h1.wk v hv
   ·rw [hset,hsetL]
    by_cases e:v = dst (el l k)
    ·subst e
     rw [Á rfl,Á rfl]
     exact .inr ⟨k,hk,rfl,rfl,O.mono _ _ _ (hdown _)⟩
    ·rw [Ã e,Ã e]
     rcases h1.last_ v hv with q | ⟨i,q1,q2,q3,q4⟩
     ·exact .inl q
     ·exact .inr ⟨i,q1,q2,q3,tr (O.mono _ _ _ (hdown _)) q4⟩
   ·by_cases e:i = k
    ·subst e
     rw [hset,Á rfl]
     exact hon
    ·exact tr (hdown _) (h3 i (by omega))
   ·exfalso
    have hch:=h5 q
    obtain ⟨e1,e2⟩:=h4 hch
    subst e1
    obtain ⟨j,hj⟩:=h1.wk _ hsu
    have:=q _ _ _ (ZX.step k hk hj)
    unfold FD at this
    rw [this] at c
    cases c
  ·rw [Ã c]
   refine ⟨h1,h2,fun i hi=>?_,h4,h5⟩
   by_cases e:i = k
   ·subst e
    rw [ŏ] at c
    exact O.neg _ _ _ hon c
   ·exact h3 i (by omega)
theorem aMn (O:aLZ less onw) {init:List C} (hs:∀ i,i < l.length->src (el l i) < init.length ∧ dst (el l i) < init.length) (K:Nat) (hK:∀ k a v,ZX onw src dst l init k a v->∃ j b,j <= K ∧ ZX onw src dst l init j b v ∧ FD less b a) {fuel:Nat} (hf:K + 1 <= fuel) :
  ∃ best last,Z9 less onw src dst l fuel init (List.replicate init.length (-1)) = some (best,last) ∧ W6 less onw src dst l init best last ∧ (∀ i,i < l.length->FD less (el best (dst (el l i))) (onw (el best (src (el l i))) (el l i))) ∧ ∀ k a v,ZX onw src dst l init k a v->FD less (el best v) a:=by
 have tr:∀ {x y z:C},FD less x y->FD less y z->FD less x z:=fun hxy hyz=>O.neg _ _ _ hyz hxy
 have fin:∀ best last,W6 less onw src dst l init best last->(∀ i,i < l.length->FD less (el best (dst (el l i))) (onw (el best (src (el l i))) (el l i)))->∀ k a v,ZX onw src dst l init k a v->FD less (el best v) a:=by
  intro best last h1 h2 k a v w
  induction w with
  | zero v hv=>exact h1.le0 v hv
  | step i hi _ ih=>exact tr (h2 i hi) (O.mono _ _ _ ih)
 have key:∀ (f r:Nat) (best:List C) (last:List Int),K + 1 <= f + r->0 < f->W6 less onw src dst l init best last->(∀ k a v,k <= r->ZX onw src dst l init k a v->FD less (el best v) a) ->
   ∃ b la,Z9 less onw src dst l f best last = some (b,la) ∧ W6 less onw src dst l init b la ∧ (∀ i,i < l.length->FD less (el b (dst (el l i))) (onw (el b (src (el l i))) (el l i))):=by
  intro f
  induction f with
  | zero=>intro r best last _ h0; omega
  | succ f ih =>
   intro r best last hr _ hI hd
   obtain ⟨b,la,ch,e,q1,q2,q3,q4,q5⟩:=aAx O hs hI
   simp only [Z9,e]
   cases ch with
   | false =>
    obtain ⟨rfl,rfl⟩:=q4 rfl
    exact ⟨b,la,rfl,q1,q3⟩
   | true =>
    simp only [Č]
    by_cases hrK:K <= r
    ·-- nothing could change any more
     have:=q5 fun k a v w=>by
      obtain ⟨j,a',h1,h2,h3⟩:=hK k a v w
      exact tr (hd j a' v (by omega) h2) h3
     cases this
    ·refine ih (r + 1) b la (by omega) (by omega) q1 fun k a v hk w=>?_
     cases w with
     | zero v hv=>exact tr (q2 v hv) (hd 0 _ _ (Ė _) (.zero v hv))
     | step i hi w =>
      exact tr (q3 i hi) (O.mono _ _ _ (hd _ _ _ (by omega) w))
 obtain ⟨b,la,h1,h2,h3⟩:=key fuel 0 init (List.replicate init.length (-1)) (by omega) (by omega) ⟨rfl,by simp,fun v hv=>⟨0,.zero v hv⟩,fun v hv=>O.irr _,fun v hv=>.inl ⟨cY _ _ _ hv,rfl⟩⟩ fun k a v hk w=>by
  obtain rfl:k = 0:=by omega
  cases w with
  | zero v hv=>exact O.irr _
 exact ⟨b,la,h1,h2,h3,fin b la h2 h3⟩
end
end
section
theorem TE:∀ (n:Nat) (l:List Nat),l.Nodup->(∀ x ∈ l,x < n)->l.length <= n
 | 0,l,_,h=>by
  cases l with
  | nil=>exact É _
  | cons a l=>exact absurd (h a (à ..)) (í _)
 | n + 1,l,hn,h=>by
  have h1:=TE n (l.erase n) (hn.erase n) (fun x hx=>by
   have q:=(List.Nodup.mem_erase_iff hn).1 hx
   have:=h x q.2
   have:=q.1
   omega)
  by_cases c:n ∈ l
  ·rw [List.length_erase_of_mem c] at h1
   omega
  ·rw [List.erase_of_not_mem c] at h1
   omega
section
variable {St:Type} [Inhabited St]
inductive OC (src dst:St->Nat) (cst:St->Int) (l:List St) (u:Nat):Nat->Int->Nat->Prop
 | zero:OC src dst cst l u 0 0 u
 | step {k:Nat} {c:Int} (i:Nat):i < l.length->OC src dst cst l u k c (src (el l i))->OC src dst cst l u (k + 1) (c + cst (el l i)) (dst (el l i))
inductive WkL (src dst:St->Nat) (cst:St->Int) (l:List St) (u:Nat):List Nat->Int->Nat->Prop
 | zero:WkL src dst cst l u [u] 0 u
 | step {vs:List Nat} {c:Int} (i:Nat):i < l.length->WkL src dst cst l u vs c (src (el l i))->dst (el l i) ∉ vs->WkL src dst cst l u (dst (el l i) :: vs) (c + cst (el l i)) (dst (el l i))
variable {src dst:St->Nat} {cst:St->Int} {l:List St}
def Pot (src dst:St->Nat) (cst:St->Int) (l:List St) (p:Nat->Int):Prop:=∀ i,i < l.length->p (dst (el l i)) <= p (src (el l i)) + cst (el l i)
theorem OC.pot {p:Nat->Int} (h:Pot src dst cst l p) {u k v:Nat} {c:Int} (w:OC src dst cst l u k c v):p v <= p u + c:=by
 induction w with
 | zero=>omega
 | step i hi _ ih=>have:=h i hi; omega
theorem OC.trans {u v w j k:Nat} {c d:Int} (h1:OC src dst cst l u j c v) (h2:OC src dst cst l v k d w):OC src dst cst l u (j + k) (c + d) w:=by
 induction h2 with
 | zero=>rw [Int.add_zero]; exact h1
 | step i hi _ ih=>rw [← ğ,← Int.add_assoc]; exact .step i hi ih
theorem WkL.facts {u v:Nat} {vs:List Nat} {c:Int} (w:WkL src dst cst l u vs c v):vs.Nodup ∧ 0 < vs.length ∧ OC src dst cst l u (vs.length - 1) c v:=by
 induction w with
 | zero=>exact ⟨by simp,by simp,.zero⟩
 | @step vs c i hi _ hn ih =>
  refine ⟨Œ.2 ⟨hn,ih.1⟩,by simp,?_⟩
  have:=OC.step i hi ih.2.2
  rw [show vs.length - 1 + 1 = (dst (el l i) :: vs).length - 1 by have:=ih.2.1; simp; omega] at this
  exact this
theorem WkL.lt {n u v:Nat} (hs:∀ i,i < l.length->src (el l i) < n ∧ dst (el l i) < n) (hu:u < n) {vs:List Nat} {c:Int} (w:WkL src dst cst l u vs c v):∀ x ∈ vs,x < n:=by
 induction w with
 | zero=>intro x hx; rw [ê] at hx; omega
 | step i hi _ _ ih =>
  intro x hx
  rcases Ô.1 hx with e | e
  ·rw [e]; exact (hs i hi).2
  ·exact ih x e
theorem WkL.cut {p:Nat->Int} (h:Pot src dst cst l p) {u v:Nat} {vs:List Nat} {c:Int} (w:WkL src dst cst l u vs c v):∀ y ∈ vs,∃ vs' c',WkL src dst cst l u vs' c' y ∧ vs'.length <= vs.length ∧ p v <= p y + (c - c'):=by
 induction w with
 | zero =>
  intro y hy
  rw [ê] at hy
  subst hy
  exact ⟨[y],0,.zero,É _,by omega⟩
 | @step vs c i hi w hn ih =>
  intro y hy
  by_cases e:y = dst (el l i)
  ·subst e
   exact ⟨_,_,.step i hi w hn,É _,by omega⟩
  ·rcases Ô.1 hy with q | q
   ·exact absurd q e
   ·obtain ⟨vs',c',h1,h2,h3⟩:=ih y q
    have:=h i hi
    exact ⟨vs',c',h1,by simp; omega,by omega⟩
theorem OC.simple {p:Nat->Int} (h:Pot src dst cst l p) {u k v:Nat} {c:Int} (w:OC src dst cst l u k c v):∃ vs c',WkL src dst cst l u vs c' v ∧ (c' < c ∨ c' = c ∧ vs.length <= k + 1):=by
 induction w with
 | zero=>exact ⟨[u],0,.zero,.inr ⟨rfl,by simp⟩⟩
 | @step k c i hi w ih =>
  obtain ⟨vs,c',h1,h2⟩:=ih
  by_cases hm:dst (el l i) ∈ vs
  ·obtain ⟨vs',c'',q1,q2,q3⟩:=h1.cut h _ hm
   have:=h i hi
   refine ⟨vs',c'',q1,?_⟩
   rcases h2 with h2 | ⟨h2,h3⟩
   ·exact .inl (by omega)
   ·rcases (by omega:c'' < c + cst (el l i) ∨ c + cst (el l i) <= c'') with q | q
    ·exact .inl q
    ·exact .inr ⟨by omega,by omega⟩
  ·refine ⟨_,_,.step i hi h1 hm,?_⟩
   rcases h2 with h2 | ⟨h2,h3⟩
   ·exact .inl (by omega)
   ·exact .inr ⟨by omega,by simp; omega⟩
theorem OC.short {p:Nat->Int} (h:Pot src dst cst l p) {n:Nat} (hs:∀ i,i < l.length->src (el l i) < n ∧ dst (el l i) < n) {u k v:Nat} (hu:u < n) {c:Int} (w:OC src dst cst l u k c v):∃ j c',j < n ∧ OC src dst cst l u j c' v ∧ (c' < c ∨ c' = c ∧ j <= k):=by
 obtain ⟨vs,c',h1,h2⟩:=w.simple h
 obtain ⟨q1,q2,q3⟩:=h1.facts
 have:=TE n vs q1 (h1.lt hs hu)
 refine ⟨vs.length - 1,c',by omega,q3,?_⟩
 rcases h2 with h2 | ⟨h2,h3⟩
 ·exact .inl h2
 ·exact .inr ⟨h2,by omega⟩
variable {C:Type} [Inhabited C] {less:C->C->Bool} {onw:C->St->C}
structure aJe (less:C->C->Bool) (onw:C->St->C) (cst:St->Int) (KA:C->Int->Nat->C):Prop where
 zero:∀ a,KA a 0 0 = a
 step:∀ a c k s,onw (KA a c k) s = KA a (c + cst s) (k + 1)
 le:∀ a c k c' k',c' < c ∨ (c' = c ∧ k' <= k)->FD less (KA a c' k') (KA a c k)
variable {KA:C->Int->Nat->C}
theorem aKG (A:aJe less onw cst KA) {init:List C} {k v:Nat} {a:C} (w:ZX onw src dst l init k a v):∃ u c,u < init.length ∧ OC src dst cst l u k c v ∧ a = KA (el init u) c k:=by
 induction w with
 | zero v hv=>exact ⟨v,0,hv,.zero,(A.zero _).symm⟩
 | step i hi _ ih =>
  obtain ⟨u,c,h1,h2,rfl⟩:=ih
  exact ⟨u,_,h1,.step i hi h2,A.step _ _ _ _⟩
theorem aJM (A:aJe less onw cst KA) {init:List C} {u k v:Nat} {c:Int} (hu:u < init.length) (w:OC src dst cst l u k c v):ZX onw src dst l init k (KA (el init u) c k) v:=by
 induction w with
 | zero=>rw [A.zero]; exact .zero u hu
 | step i hi _ ih=>rw [← A.step]; exact .step i hi ih
theorem aC9 (A:aJe less onw cst KA) {p:Nat->Int} (h:Pot src dst cst l p) {init:List C} (hs:∀ i,i < l.length->src (el l i) < init.length ∧ dst (el l i) < init.length):∀ k a v,ZX onw src dst l init k a v->∃ j b,j <= init.length ∧ ZX onw src dst l init j b v ∧ FD less b a:=by
 intro k a v w
 obtain ⟨u,c,hu,hw,rfl⟩:=aKG A w
 obtain ⟨j,c',h1,h2,h3⟩:=hw.short h hs hu
 exact ⟨j,_,by omega,aJM A hu h2,A.le _ _ _ _ _ h3⟩
theorem aGE (O:aLZ less onw) (A:aJe less onw cst KA) {p:Nat->Int} (h:Pot src dst cst l p) {init:List C} (hs:∀ i,i < l.length->src (el l i) < init.length ∧ dst (el l i) < init.length) {fuel:Nat} (hf:init.length + 1 <= fuel) :
  ∃ best last,Z9 less onw src dst l fuel init (List.replicate init.length (-1)) = some (best,last) ∧ W6 less onw src dst l init best last ∧ (∀ i,i < l.length->FD less (el best (dst (el l i))) (onw (el best (src (el l i))) (el l i))) ∧ ∀ u k c v,u < init.length->OC src dst cst l u k c v->FD less (el best v) (KA (el init u) c k):=by
 obtain ⟨best,last,h1,h2,h3,h4⟩:=aMn O hs init.length (aC9 A h hs) hf
 exact ⟨best,last,h1,h2,h3,fun u k c v hu w=>h4 _ _ _ (aJM A hu w)⟩
end
end
section
structure c9 where
 due:Int
 sf:Int
 st:Int
 cost:Int
 most:Int
 back:Bool
deriving Inhabited
def c9.src (e:c9):Nat:=e.sf.toNat
def c9.dst (e:c9):Nat:=e.st.toNat
structure J3 where
 c:Int
 k:Int
 fine:Bool
deriving Inhabited
def fN (a b:J3):Bool:=a.fine && (!b.fine || decide (a.c < b.c) || decide (a.c = b.c) && decide (a.k < b.k))
def kO (a:J3) (s:c9):J3:=⟨a.c + s.cost,a.k + 1,a.fine⟩
theorem DW (a b:J3):fN a b = true ↔ a.fine = true ∧ (b.fine = false ∨ a.c < b.c ∨ a.c = b.c ∧ a.k < b.k):=by
 simp only [fN,Ø,Bool.or_eq_true,Ň,Ò,or_assoc]
theorem xE (a b:J3):fN a b = false ↔ a.fine = false ∨ b.fine = true ∧ (b.c < a.c ∨ b.c = a.c ∧ b.k <= a.k):=by
 rw [← ŏ,DW]
 cases ha:a.fine <;> cases hb:b.fine <;> simp <;> omega
theorem aHx:aLZ fN kO where
 irr a:=by rw [xE]; cases a.fine <;> simp
 asym a b h:=by
  rw [DW] at h
  rw [xE]
  rcases h with ⟨h1,h2 | h2⟩
  ·exact .inl h2
  ·exact .inr ⟨h1,by omega⟩
 neg a b c h1 h2:=by
  rw [xE] at *
  cases ha:a.fine <;> cases hb:b.fine <;> cases hc:c.fine <;> simp [ha,hb,hc] at h1 h2 ⊢ <;> omega
 mono a b s h:=by
  rw [xE] at *
  simp only [kO]
  rcases h with h | ⟨h1,h2⟩
  ·exact .inl h
  ·exact .inr ⟨h1,by omega⟩
def KA (a:J3) (c:Int) (k:Nat):J3:=⟨a.c + c,a.k + k,a.fine⟩
theorem aOE (cst:c9->Int) (hc:∀ s,cst s = s.cost):aJe fN kO cst KA where
 zero a:=by simp [KA]
 step a c k s:=by
  rw [hc]
  simp only [KA,kO,J3.mk.injEq,and_true]
  constructor <;> omega
 le a c k c' k' h:=by
  unfold FD
  rw [xE]
  simp only [KA]
  cases a.fine <;> simp <;> omega
structure P6 (n:Nat) (l:List c9) (F R:Nat->Prop) (q:Nat->Int) (μ:Nat->Nat) (last:List Int):Prop where
 tree:∀ v,v < n->F v->(el last v = -1 ∧ R v) ∨ ∃ k,k < l.length ∧ el last v = (k:Int) ∧ (el l k).dst = v ∧ (el l k).src < n ∧ F (el l k).src ∧ μ (el l k).src < μ v ∧ q v = q (el l k).src + (el l k).cost
 closed:∀ k,k < l.length->F (el l k).src->F (el l k).dst ∧ q (el l k).dst <= q (el l k).src + (el l k).cost
 root:∀ v,v < n->R v->F v
theorem aJE {l:List c9} {init:List J3} {k v:Nat} {a:J3} (w:ZX kO c9.src c9.dst l init k a v):∃ u,u < init.length ∧ a.k = (el init u).k + k ∧ a.fine = (el init u).fine:=by
 induction w with
 | zero v hv=>exact ⟨v,hv,by simp,rfl⟩
 | step i hi _ ih =>
  obtain ⟨u,h1,h2,h3⟩:=ih
  exact ⟨u,h1,by simp [kO]; omega,h3⟩
theorem aFc {n:Nat} {l:List c9} {p:Nat->Int} (h:Pot c9.src c9.dst c9.cost l p) (R:Nat->Bool) (hs:∀ i,i < l.length->(el l i).src < n ∧ (el l i).dst < n) {init:List J3} (hn:init.length = n) (hi:∀ v,v < n->el init v = ⟨0,0,R v⟩) {fuel:Nat} (hf:n + 1 <= fuel) :
  ∃ best last,Z9 fN kO c9.src c9.dst l fuel init (List.replicate n (-1)) = some (best,last) ∧ best.length = n ∧ last.length = n ∧
   P6 n l (fun v=>(el best v).fine = true) (fun v=>R v = true) (fun v=>(el best v).c) (fun v=>(el best v).k.toNat) last:=by
 subst hn
 obtain ⟨best,last,h1,h2,h3,h4⟩:=aGE aHx (aOE c9.cost fun _=>rfl) h hs hf
 refine ⟨best,last,h1,h2.len,h2.lenL,?_,?_,?_⟩
 ·intro v hv hF
  rcases h2.last_ v hv with ⟨q1,q2⟩ | ⟨k,q1,q2,q3,q4⟩
  ·refine .inl ⟨q1,?_⟩
   rw [q2,hi v hv] at hF
   exact hF
  ·refine .inr ⟨k,q1,q2,q3,(hs k q1).1,?_⟩
   have q5:=h3 k q1
   rw [q3] at q5
   unfold FD at q4 q5
   rw [xE] at q4 q5
   simp only [kO] at q4 q5
   obtain ⟨j,hj⟩:=h2.wk _ (hs k q1).1
   obtain ⟨u,r1,r2,r3⟩:=aJE hj
   rw [hi u r1] at r2
   dsimp only at r2
   rcases q4 with q4 | ⟨q4,q6⟩
   ·rw [hF] at q4; cases q4
   ·rcases q5 with q5 | ⟨_,q7⟩
    ·rw [q4] at q5; cases q5
    ·exact ⟨q4,by omega,by omega⟩
 ·intro k hk hF
  have q5:=h3 k hk
  unfold FD at q5
  rw [xE] at q5
  simp only [kO] at q5
  rcases q5 with q5 | ⟨q6,q7⟩
  ·rw [hF] at q5; cases q5
  ·exact ⟨q6,by omega⟩
 ·intro v hv hR
  have q:=h2.le0 v hv
  unfold FD at q
  rw [xE,hi v hv] at q
  dsimp only at q
  rcases q with q | q
  ·rw [hR] at q; cases q
  ·exact q.1
inductive Pth (l:List c9) (last:List Int):Nat->List Nat->Nat->Prop
 | nil (v:Nat):el last v = -1->Pth l last v [] v
 | cons {v k u:Nat} {ks:List Nat}:k < l.length->el last v = (k:Int)->(el l k).dst = v->Pth l last (el l k).src ks u->Pth l last v (k :: ks) u
section
variable {n:Nat} {l:List c9} {F R:Nat->Prop} {q:Nat->Int} {μ:Nat->Nat} {last:List Int}
theorem P6.path (T:P6 n l F R q μ last):∀ (b v:Nat),μ v < b->v < n->F v->∃ ks u,Pth l last v ks u ∧ u < n ∧ R u ∧ F u ∧ (∀ k ∈ ks,k < l.length ∧ F (el l k).src ∧ F (el l k).dst ∧ μ (el l k).src < μ (el l k).dst ∧ μ (el l k).dst <= μ v ∧ q (el l k).dst = q (el l k).src + (el l k).cost)
 | 0,v,h,_,_=>absurd h (í _)
 | b + 1,v,h,hv,hF=>by
  rcases T.tree v hv hF with ⟨h1,h2⟩ | ⟨k,h1,h2,h3,h4,h5,h6,h7⟩
  ·exact ⟨[],v,.nil v h1,hv,h2,hF,fun k hk=>by cases hk⟩
  ·obtain ⟨ks,u,q1,q2,q3,q4,q5⟩:=T.path b (el l k).src (by omega) h4 h5
   refine ⟨k :: ks,u,.cons h1 h2 h3 q1,q2,q3,q4,fun j hj=>?_⟩
   rcases Ô.1 hj with rfl | hj
   ·exact ⟨h1,h5,by rw [h3]; exact hF,by rw [h3]; exact h6,by rw [h3]; exact É _,by rw [h3]; exact h7⟩
   ·obtain ⟨r1,r2,r3,r4,r5,r6⟩:=q5 j hj
    exact ⟨r1,r2,r3,r4,by omega,r6⟩
end
end
section
def G8 (fr tt:Nat->Nat) (s x:Nat->Int) (cc:Bool->Int) (i:Nat) (b:Bool):c9 :=
 ⟨i,if b = true then tt i else fr i,if b = true then fr i else tt i,cc b,if b = true then x i else s i - x i,b⟩
structure lY (fr tt:Nat->Nat) (s:Nat->Int) (m:Nat) (x:Nat->Int) (Q:Nat->Bool->Prop) (cc:Bool->Int) (l:List c9):Prop where
 sound:∀ k,k < l.length->∃ i b,i < m ∧ Q i b ∧ 0 < (G8 fr tt s x cc i b).most ∧ el l k = G8 fr tt s x cc i b
 all:∀ i b,i < m->Q i b->0 < (G8 fr tt s x cc i b).most->∃ k,k < l.length ∧ el l k = G8 fr tt s x cc i b
def QF (b:Bool):Int:=if b = true then 1 else -1
def XQ (e:c9) (d:Int):Int:=if e.back = true then -d else d
def u0 (l:List c9) (d:Int):List Int->List Nat->List Int
 | x,[]=>x
 | x,k :: ks=>u0 l d (x.set (el l k).due.toNat (el x (el l k).due.toNat + XQ (el l k) d)) ks
theorem EB (l:List c9) (d:Int):∀ (ks:List Nat) (x:List Int),(u0 l d x ks).length = x.length
 | [],x=>rfl
 | k :: ks,x=>by rw [u0,EB l d ks,á]
theorem YI {fr tt:Nat->Nat} {m:Nat} {x:List Int} {i:Nat} (hi:i < m) (hx:x.length = m) (a:Int) (w:Nat) :
  netF fr tt m (el (x.set i a)) w = netF fr tt m (el x) w + (if tt i = w then a - el x i else 0) - (if fr i = w then a - el x i else 0):=by
 unfold netF
 rw [jJ (h:=fun j=>((if tt j = w then el x j else 0) - (if fr j = w then el x j else 0)) + (if j = i then ((if tt i = w then a - el x i else 0) - (if fr i = w then a - el x i else 0)) else 0)) fun j _=>?_,UC,TZ hi]
 ·omega
 ·have hs:el (x.set i a) j = if j = i then a else el x j:=by
   rw [bR]
   by_cases e:j = i
   ·rw [Á ⟨e,by omega⟩,Á e]
   ·rw [Ã fun q=>e q.1,Ã e]
  rw [hs]
  by_cases e:j = i
  ·subst e
   rw [Á rfl,Á rfl]
   split <;> split <;> omega
  ·rw [Ã e,Ã e]
   omega
theorem QC (g:Nat->Int):∀ n,∃ B:Int,0 <= B ∧ ∀ v,v < n->g v <= B ∧ -g v <= B
 | 0=>⟨0,į _,fun v h=>absurd h (í _)⟩
 | n + 1=>by
  obtain ⟨B,h1,h2⟩:=QC g n
  refine ⟨B + (g n).natAbs,by omega,fun v hv=>?_⟩
  by_cases e:v = n
  ·subst e; omega
  ·have:=h2 v (by omega); omega
section
variable {fr tt:Nat->Nat} {s:Nat->Int} {n m:Nat} {Q:Nat->Bool->Prop} {cc:Bool->Int} {x:Nat->Int} {l:List c9}
theorem uL (i:Nat) (b:Bool):(G8 fr tt s x cc i b).src = if b = true then tt i else fr i:=by cases b <;> simp [G8,c9.src]
theorem uK (i:Nat) (b:Bool):(G8 fr tt s x cc i b).dst = if b = true then fr i else tt i:=by cases b <;> simp [G8,c9.dst]
theorem lY.in_ (S:lY fr tt s m x Q cc l) (hf:∀ i,i < m->fr i < n) (ht:∀ i,i < m->tt i < n):∀ k,k < l.length->(el l k).src < n ∧ (el l k).dst < n:=by
 intro k hk
 obtain ⟨i,b,hi,_,_,e⟩:=S.sound k hk
 rw [e,uL,uK]
 have:=hf i hi
 have:=ht i hi
 cases b <;> simp <;> omega
theorem KQ (S:lY fr tt s m x (fun _ _=>True) QF l) (p:Nat->Int):iP fr tt s m x p ↔ Pot c9.src c9.dst c9.cost l p:=by
 constructor
 ·intro h k hk
  obtain ⟨i,b,hi,_,q,e⟩:=S.sound k hk
  have c:=h i hi
  rw [e,uL,uK]
  cases b
  ·have:=c.1 (by simp only [G8] at q; simp at q; omega)
   simp [G8,QF]; omega
  ·have:=c.2 (by simp only [G8] at q; simpa using q)
   simp [G8,QF]; omega
 ·intro h i hi
  constructor
  ·intro c
   obtain ⟨k,hk,e⟩:=S.all i false hi trivial (by simp [G8]; omega)
   have:=h k hk
   rw [e,uL,uK] at this
   simp [G8,QF] at this; omega
  ·intro c
   obtain ⟨k,hk,e⟩:=S.all i true hi trivial (by simp [G8]; omega)
   have:=h k hk
   rw [e,uL,uK] at this
   simp [G8,QF] at this; omega
theorem Pth.dues (S:lY fr tt s m x Q cc l) {last:List Int} {μ:Nat->Nat} {v u:Nat} {ks:List Nat} (w:Pth l last v ks u) (h:∀ k ∈ ks,k < l.length ∧ μ (el l k).src < μ (el l k).dst):(∀ k ∈ ks,μ (el l k).dst <= μ v) ∧ (ks.map fun k=>(el l k).due.toNat).Nodup:=by
 induction w with
 | nil v _=>exact ⟨fun k hk=>(by cases hk),by simp⟩
 | @cons v k u ks hk hl hd w ih =>
  obtain ⟨q1,q2⟩:=ih fun j hj=>h j (Õ _ hj)
  have hkk:=(h k (à ..)).2
  rw [hd] at hkk
  refine ⟨fun j hj=>?_,?_⟩
  ·rcases Ô.1 hj with rfl | hj
   ·rw [hd]; exact É _
   ·have:=q1 j hj; omega
  ·rw [ø,Œ]
   refine ⟨fun hm=>?_,q2⟩
   obtain ⟨j,hj,e⟩:=Ú.1 hm
   have h1:=q1 j hj
   have h2:=(h j (Õ _ hj))
   obtain ⟨i,b,hi,_,_,ek⟩:=S.sound k hk
   obtain ⟨i',b',hi',_,_,ej⟩:=S.sound j h2.1
   have hii:i' = i:=by rw [ek,ej] at e; simpa [G8] using e
   subst hii
   have h3:=h2.2
   rw [ej,uL,uK] at h3
   rw [ej,uK,ek,uL] at h1
   rw [← hd,ek,uL,uK] at hkk
   cases b <;> cases b' <;> simp at h1 h3 hkk <;> omega
theorem aFf (S:lY fr tt s m x Q cc l) {last:List Int} {v u:Nat} {ks:List Nat} (w:Pth l last v ks u) (d:Int) (z:Nat):∀ y:List Int,y.length = m->netF fr tt m (el (u0 l d y ks)) z = netF fr tt m (el y) z + (if v = z then d else 0) - (if u = z then d else 0):=by
 induction w with
 | nil v _=>intro y _; simp only [u0]; omega
 | @cons v k u ks hk hl hd w ih =>
  intro y hy
  obtain ⟨i,b,hi,_,_,ek⟩:=S.sound k hk
  have hdue:(el l k).due.toNat = i:=by rw [ek]; simp [G8]
  rw [u0,ih _ (by rw [á,hy]),hdue,YI hi hy]
  have hb:(el l k).back = b:=by rw [ek]; rfl
  rw [← hd]
  have e1:(el l k).src = if b = true then tt i else fr i:=by rw [ek,uL]
  have e2:(el l k).dst = if b = true then fr i else tt i:=by rw [ek,uK]
  rw [e1,e2]
  have hsg:el y i + XQ (el l k) d - el y i = if b = true then -d else d:=by unfold XQ; rw [hb]; omega
  rw [hsg]
  cases b
  ·simp only [ö,Ĵ]
   split <;> split <;> split <;> omega
  ·simp only [Č]
   split <;> split <;> split <;> omega
theorem SW (d:Int) (i:Nat):∀ (ks:List Nat) (y:List Int),(∀ k ∈ ks,(el l k).due.toNat ≠ i)->el (u0 l d y ks) i = el y i
 | [],y,_=>rfl
 | k :: ks,y,h=>by
  rw [u0,SW d i ks _ fun j hj=>h j (Õ _ hj),bR,Ã fun q=>h k (à ..) q.1.symm]
theorem XB (d:Int):∀ (ks:List Nat) (y:List Int),(ks.map fun k=>(el l k).due.toNat).Nodup->∀ k ∈ ks,(el l k).due.toNat < y.length->el (u0 l d y ks) (el l k).due.toNat = el y (el l k).due.toNat + XQ (el l k) d
 | [],y,_,k,hk,_=>by cases hk
 | j :: ks,y,h,k,hk,hl=>by
  rw [ø,Œ] at h
  have hfar:∀ i ∈ ks,(el l i).due.toNat ≠ (el l j).due.toNat:=fun i hi e=>h.1 (Ú.2 ⟨i,hi,e⟩)
  rcases Ô.1 hk with rfl | hk
  ·rw [u0,SW d _ ks _ hfar,bR,Á ⟨rfl,hl⟩]
  ·rw [u0,XB d ks _ h.2 k hk (by rw [á]; exact hl),bR,Ã fun q=>hfar k hk q.1]
theorem ZV (S:lY fr tt s m x Q cc l) {y:List Int} (hy:y.length = m) {ks:List Nat} (hk:∀ k ∈ ks,k < l.length) (hn:(ks.map fun k=>(el l k).due.toNat).Nodup) (d:Int):∀ i,i < m->el (u0 l d y ks) i = el y i ∧ (∀ k ∈ ks,(el l k).due.toNat ≠ i) ∨ ∃ k ∈ ks,∃ b,Q i b ∧ el l k = G8 fr tt s x cc i b ∧ el (u0 l d y ks) i = el y i + (if b = true then -d else d):=by
 intro i hi
 by_cases c:∀ k ∈ ks,(el l k).due.toNat ≠ i
 ·exact .inl ⟨SW d i ks y c,c⟩
 ·obtain ⟨k,c⟩:=Classical.not_forall.1 c
  obtain ⟨h1,h2⟩:=Classical.not_imp.1 c
  have h2:=Classical.not_not.1 h2
  obtain ⟨j,b,hj,hQ,_,ek⟩:=S.sound k (hk k h1)
  have hji:j = i:=by rw [ek] at h2; simpa [G8] using h2
  subst hji
  refine .inr ⟨k,h1,b,hQ,ek,?_⟩
  have:=XB d ks y hn k h1 (by rw [h2,hy]; exact hi)
  rw [h2] at this
  rw [this,ek]
  rfl
theorem XY {y:List Int} (S:lY fr tt s m (el y) Q cc l) (hy:y.length = m) {ks:List Nat} (hk:∀ k ∈ ks,k < l.length) (hn:(ks.map fun k=>(el l k).due.toNat).Nodup) {d:Int} (hd:0 <= d) (hm:∀ k ∈ ks,d <= (el l k).most) (h0:∀ i,i < m->0 <= el y i ∧ el y i <= s i):∀ i,i < m->0 <= el (u0 l d y ks) i ∧ el (u0 l d y ks) i <= s i:=by
 intro i hi
 have h:=h0 i hi
 rcases ZV S hy hk hn d i hi with ⟨e,_⟩ | ⟨k,hkk,b,_,ek,e⟩
 ·rw [e]; exact h
 ·have:=hm k hkk
  rw [ek] at this
  rw [e]
  cases b <;> simp [G8] at this ⊢ <;> omega
theorem aGt {y:List Int} (S:lY fr tt s m (el y) Q cc l) (hy:y.length = m) {ks:List Nat} (hk:∀ k ∈ ks,k < l.length) (hn:(ks.map fun k=>(el l k).due.toNat).Nodup) (d:Int) {p:Nat->Int} (hc:iP fr tt s m (el y) p) (ht:∀ k ∈ ks,∀ i b,Q i b->el l k = G8 fr tt s (el y) cc i b->p (if b = true then fr i else tt i) = p (if b = true then tt i else fr i) + QF b):iP fr tt s m (el (u0 l d y ks)) p:=by
 intro i hi
 rcases ZV S hy hk hn d i hi with ⟨e,_⟩ | ⟨k,hkk,b,hQ,ek,e⟩
 ·rw [e]; exact hc i hi
 ·have:=ht k hkk i b hQ ek
  cases b <;> simp [QF] at this <;> constructor <;> intro _ <;> omega
end
end
section
section
variable {fr tt:Nat->Nat} {s:Nat->Int} {n m:Nat} {l:List c9} {last:List Int}
def InR (s:Nat->Int) (m:Nat) (x:Nat->Int):Prop:=∀ i,i < m->0 <= x i ∧ x i <= s i
theorem aNa {y:List Int} (S:lY fr tt s m (el y) (fun _ _=>True) QF l) (hf:∀ i,i < m->fr i < n) (ht:∀ i,i < m->tt i < n) {p q:Nat->Int} (hp:iP fr tt s m (el y) p) {F:Nat->Bool} {R:Nat->Prop} {μ:Nat->Nat} (T:P6 n l (fun v=>F v = true) R q μ last) :
  ∃ p',iP fr tt s m (el y) p' ∧ ∀ v,F v = true->p' v = q v:=by
 obtain ⟨B,hB0,hB⟩:=QC p n
 obtain ⟨C,hC0,hC⟩:=QC q n
 refine ⟨fun v=>if F v = true then q v else p v + (B + C + 1),?_,fun v h=>Á h⟩
 rw [KQ S] at hp ⊢
 intro k hk
 have h1:=hp k hk
 obtain ⟨hs1,hs2⟩:=S.in_ hf ht k hk
 have hcost:-1 <= (el l k).cost:=by
  obtain ⟨i,b,_,_,_,e⟩:=S.sound k hk
  rw [e]; cases b <;> simp [G8,QF]
 show (if F (el l k).dst = true then q (el l k).dst else p (el l k).dst + (B + C + 1)) <= (if F (el l k).src = true then q (el l k).src else p (el l k).src + (B + C + 1)) + (el l k).cost
 by_cases c:F (el l k).src = true
 ·obtain ⟨q1,q2⟩:=T.closed k hk c
  rw [Á c,Á q1]
  exact q2
 ·rw [Ã c]
  by_cases c2:F (el l k).dst = true
  ·rw [Á c2]
   have:=(hB _ hs1).2
   have:=(hC _ hs2).1
   omega
  ·rw [Ã c2]
   omega
theorem aCg {y:List Int} (hy:y.length = m) (S:lY fr tt s m (el y) (fun _ _=>True) QF l) (hf:∀ i,i < m->fr i < n) (ht:∀ i,i < m->tt i < n) (hr:InR s m (el y)) {p q:Nat->Int} (hp:iP fr tt s m (el y) p) {F:Nat->Bool} {R:Nat->Prop} {μ:Nat->Nat} (T:P6 n l (fun v=>F v = true) R q μ last)
  {v u:Nat} {ks:List Nat} (w:Pth l last v ks u) (hk:∀ k ∈ ks,k < l.length ∧ F (el l k).src = true ∧ F (el l k).dst = true ∧ μ (el l k).src < μ (el l k).dst ∧ q (el l k).dst = q (el l k).src + (el l k).cost) {d:Int} (hd:0 <= d) (hm:∀ k ∈ ks,d <= (el l k).most) :
  (u0 l d y ks).length = m ∧ InR s m (el (u0 l d y ks)) ∧ (∃ p',iP fr tt s m (el (u0 l d y ks)) p') ∧ ∀ z,netF fr tt m (el (u0 l d y ks)) z = netF fr tt m (el y) z + (if v = z then d else 0) - (if u = z then d else 0):=by
 obtain ⟨_,hnd⟩:=w.dues S (μ:=μ) fun k h=>⟨(hk k h).1,(hk k h).2.2.2.1⟩
 obtain ⟨p',h1,h2⟩:=aNa S hf ht hp T
 refine ⟨by rw [EB,hy],XY S hy (fun k h=>(hk k h).1) hnd hd hm hr,⟨p',aGt S hy (fun k h=>(hk k h).1) hnd d h1 fun k h i b _ e=>?_⟩,fun z=>aFf S w d z y hy⟩
 obtain ⟨_,q1,q2,_,q3⟩:=hk k h
 rw [← h2 _ q1,← h2 _ q2,e,uL,uK] at q3
 exact q3
theorem aCI {x:Nat->Int} (S:lY fr tt s m x (fun _ _=>True) QF l) (hf:∀ i,i < m->fr i < n) (ht:∀ i,i < m->tt i < n) (hr:InR s m x) {q:Nat->Int} {F:Nat->Bool} {μ:Nat->Nat} (T:P6 n l (fun v=>F v = true) (fun v=>0 < netF fr tt m x v) q μ last)
  (he:∀ v,v < n->netF fr tt m x v < 0->F v = false):oG fr tt s n m x:=by
 have h1:=aCk hf ht x fun v=>if F v = true then 1 else 0
 have hR:eY (fun i=>x i * ((if F (tt i) = true then 1 else 0) - (if F (fr i) = true then 1 else 0))) m <= 0:=by
  refine Int.le_trans (XD (h:=fun _=>0) fun i hi=>?_) (Int.le_of_eq (xG m))
  have h0:=(hr i hi).1
  by_cases c:F (tt i) = true
  ·by_cases c2:F (fr i) = true
   ·rw [Á c,Á c2]; simp
   ·have:x i = 0:=by
     refine å fun hx=>c2 ?_
     obtain ⟨k,hk,e⟩:=S.all i true hi trivial (by simp [G8]; omega)
     have:=(T.closed k hk (by rw [e,uL]; simpa using c)).1
     rw [e,uK] at this
     simpa using this
    rw [this]; simp
  ·rw [Ã c]
   split
   ·simp; omega
   ·simp
 have hpos:∀ v,v < n->0 <= (if F v = true then 1 else 0) * netF fr tt m x v:=by
  intro v hv
  split
  ·rename_i c
   have:¬ netF fr tt m x v < 0:=fun q=>by rw [he v hv q] at c; cases c
   omega
  ·omega
 have hle:∀ v,v < n->netF fr tt m x v <= 0:=by
  intro v hv
  refine å fun c=>?_
  have c:0 < netF fr tt m x v:=by omega
  have:=KT hpos v hv
  rw [Á (T.root v hv c)] at this
  rw [h1] at this
  omega
 refine ⟨fun i hi=>(hr i hi).1,fun i hi=>(hr i hi).2,?_⟩
 refine RI hle ?_
 have h2:=aCk hf ht x fun _=>1
 rw [jJ (h:=fun v=>netF fr tt m x v) fun v _=>by omega] at h2
 rw [h2,jJ (h:=fun _=>0) fun i _=>by simp,xG]
 exact į _
def BZ (fr tt:Nat->Nat) (s:Nat->Int) (n m:Nat) (x:Nat->Int) (i:Nat):Prop:=∀ y,oG fr tt s n m y->eY x m <= eY y m->(∀ j,j < i->y j = x j)->y i <= x i
def aA2 (fr tt:Nat->Nat) (p:Nat->Int) (i j:Nat) (b:Bool):Prop:=i < j ∧ p (if b = true then fr j else tt j) = p (if b = true then tt j else fr j) + QF b
theorem aEm {y:List Int} (hy:y.length = m) {p:Nat->Int} {i:Nat} (hi:i < m) (S:lY fr tt s m (el y) (aA2 fr tt p i) (fun _=>0) l) (hB:oG fr tt s n m (el y)) (hc:iP fr tt s m (el y) p) (hp:p (tt i) = p (fr i) - 1) {μ:Nat->Nat}
  {ks:List Nat} (w:Pth l last (fr i) ks (tt i)) (hk:∀ k ∈ ks,k < l.length ∧ μ (el l k).src < μ (el l k).dst) {d:Int} (hd:0 <= d) (hm:∀ k ∈ ks,d <= (el l k).most) (hdi:d <= s i - el y i) :
  let z:=(u0 l d y ks).set i (el (u0 l d y ks) i + d)
  el (u0 l d y ks) i = el y i ∧ z.length = m ∧ oG fr tt s n m (el z) ∧ iP fr tt s m (el z) p ∧ (∀ j,j < i->el z j = el y j) ∧ el z i = el y i + d:=by
 intro z
 obtain ⟨_,hnd⟩:=w.dues S (μ:=μ) hk
 have hr:=XY S hy (fun k h=>(hk k h).1) hnd hd hm fun j hj=>⟨hB.lo j hj,hB.hi j hj⟩
 have hc':=aGt S hy (fun k h=>(hk k h).1) hnd d hc fun k h j b hQ e=>hQ.2
 have hlen:(u0 l d y ks).length = m:=by rw [EB,hy]
 have hbefore:∀ j,j <= i->el (u0 l d y ks) j = el y j:=by
  intro j hj
  refine SW d j ks y fun k h e=>?_
  obtain ⟨j',b,_,hQ,_,ek⟩:=S.sound k (hk k h).1
  rw [ek] at e
  have:j' = j:=by simpa [G8] using e
  have:=hQ.1
  omega
 have hz:∀ j,el z j = if j = i then el y i + d else el (u0 l d y ks) j:=by
  intro j
  show el ((u0 l d y ks).set i _) j = _
  rw [bR]
  by_cases e:j = i
  ·rw [Á ⟨e,by omega⟩,Á e,hbefore i (É _)]
  ·rw [Ã fun q=>e q.1,Ã e]
 have hyi:=hB.lo i hi
 refine ⟨hbefore i (É _),by show ((u0 l d y ks).set i _).length = m; rw [á,hlen],⟨fun j hj=>?_,fun j hj=>?_,fun v hv=>?_⟩,fun j hj=>?_,fun j hj=>?_,?_⟩
 ·rw [hz]; split
  ·omega
  ·exact (hr j hj).1
 ·rw [hz]; split
  ·rename_i e; subst e; omega
  ·exact (hr j hj).2
 ·show netF fr tt m (el ((u0 l d y ks).set i _)) v = 0
  rw [YI hi hlen,aFf S w d v y hy,hB.net v hv]
  split <;> split <;> omega
 ·rw [hz]
  split
  ·rename_i e; subst e
   exact ⟨fun _=>by omega,fun _=>by omega⟩
  ·exact hc' j hj
 ·rw [hz,Ã (by omega)]; exact hbefore j (by omega)
 ·rw [hz,Á rfl]
theorem aIY {x:Nat->Int} {p:Nat->Int} {i:Nat} (hi:i < m) (hf:∀ i,i < m->fr i < n) (ht:∀ i,i < m->tt i < n) (hB:oG fr tt s n m x) (hc:iP fr tt s m x p) (S:lY fr tt s m x (aA2 fr tt p i) (fun _=>0) l) {F:Nat->Bool} (hcl:∀ k,k < l.length->F (el l k).src = true->F (el l k).dst = true) (h1:F (tt i) = true) (h2:F (fr i) = false):BZ fr tt s n m x i:=by
 intro y hy hs hj
 refine å fun c=>?_
 have c:x i < y i:=by omega
 have hti:=SA hf ht hB hy hc hs
 have hx0:=K8 hf ht hB.net fun v=>if F v = true then 1 else 0
 have hy0:=K8 hf ht hy.net fun v=>if F v = true then 1 else 0
 have h0:eY (fun j=>(y j - x j) * ((if F (tt j) = true then 1 else 0) - (if F (fr j) = true then 1 else 0))) m = 0:=by
  rw [jJ (h:=fun j=>y j * ((if F (tt j) = true then 1 else 0) - (if F (fr j) = true then 1 else 0)) - x j * ((if F (tt j) = true then 1 else 0) - (if F (fr j) = true then 1 else 0))) fun j _=>by rw [Int.sub_mul],ED,hx0,hy0]
  rfl
 have hpos:∀ j,j < m->0 <= (y j - x j) * ((if F (tt j) = true then 1 else 0) - (if F (fr j) = true then 1 else 0)):=by
  intro j hjm
  by_cases e:y j = x j
  ·rw [e]; simp
  ·have hij:i <= j:=by
    refine å fun q=>e (hj j (by omega))
   by_cases e2:j = i
   ·subst e2
    rw [h1,h2]; simp; omega
   ·have hp:=hti j hjm e
    have a1:=hy.lo j hjm
    have a2:=hy.hi j hjm
    by_cases c1:F (tt j) = true
    ·by_cases c2:F (fr j) = true
     ·rw [Á c1,Á c2]; simp
     ·rw [Á c1,Ã c2]
      rcases (by omega:x j <= y j ∨ y j < x j) with q | q
      ·simp; omega
      ·exfalso
       obtain ⟨k,hk,ek⟩:=S.all j true hjm ⟨by omega,by simp [QF]; omega⟩ (by simp [G8]; omega)
       have:=hcl k hk (by rw [ek,uL]; simpa using c1)
       rw [ek,uK] at this
       exact c2 (by simpa using this)
    ·by_cases c2:F (fr j) = true
     ·rw [Ã c1,Á c2]
      rcases (by omega:y j <= x j ∨ x j < y j) with q | q
      ·simp; omega
      ·exfalso
       obtain ⟨k,hk,ek⟩:=S.all j false hjm ⟨by omega,by simp [QF]; omega⟩ (by simp [G8]; omega)
       have:=hcl k hk (by rw [ek,uL]; simpa using c2)
       rw [ek,uK] at this
       exact c1 (by simpa using this)
     ·rw [Ã c1,Ã c2]; simp
 have:=KT hpos i hi
 rw [h0] at this
 simp only [h1,h2,Č,ö,Ĵ] at this
 omega
theorem ZT {x:Nat->Int} {i:Nat} (hi:i < m) (h:s i <= x i):BZ fr tt s n m x i:=fun y hy _ _=>by have:=hy.hi i hi; omega
theorem V3 {x:Nat->Int} {p:Nat->Int} {i:Nat} (hi:i < m) (hf:∀ i,i < m->fr i < n) (ht:∀ i,i < m->tt i < n) (hB:oG fr tt s n m x) (hc:iP fr tt s m x p) (h:p (tt i) ≠ p (fr i) - 1):BZ fr tt s n m x i:=fun y hy hs _=>by
 have:=SA hf ht hB hy hc hs i hi
 refine å fun c=>h (this ?_)
 omega
theorem BZ.keep {x x' : Nat->Int} {i:Nat} (h:BZ fr tt s n m x i) (he:∀ j,j <= i->x' j = x j) (hs:eY x m <= eY x' m):BZ fr tt s n m x' i:=fun y hy hl hj=>by
 rw [he i (É _)]
 exact h y hy (by omega) fun j hji=>by rw [hj j hji,he j (by omega)]
theorem aPJ {x y:Nat->Int} (hx:oG fr tt s n m x) (hy:oG fr tt s n m y) (hs:eY x m = eY y m) (h1:∀ i,i < m->BZ fr tt s n m x i) (h2:∀ i,i < m->BZ fr tt s n m y i):∀ i,i < m->x i = y i:=by
 intro i
 induction i using Nat.strongRecOn with
 | ind i ih =>
  intro hi
  have a:=h1 i hi y hy (by omega) fun j hj=>(ih j hj (by omega)).symm
  have b:=h2 i hi x hx (by omega) fun j hj=>ih j hj (by omega)
  omega
end
end
section
theorem aOy {α:Type} [Inhabited α] {a b:List α} (h:a.length = b.length) (he:∀ i,i < a.length->el a i = el b i):a = b:=by
 apply List.ext_getElem h
 intro i h1 h2
 have:=he i h1
 simpa [el,h1,h2] using this
section
variable {fr tt:Nat->Nat} {s:Nat->Int} {n m:Nat} {l:List c9} {last:List Int} {Q:Nat->Bool->Prop} {cc:Bool->Int}
theorem aKl {x:Nat->Int} {y:List Int} (S:lY fr tt s m x Q cc l) (hy:y.length = m) {ks:List Nat} (hk:∀ k ∈ ks,k < l.length) (hn:(ks.map fun k=>(el l k).due.toNat).Nodup) (d:Int) {t:Nat} (htm:t <= m) {p:Nat->Int} (hc:iP fr tt s t (el y) p) (ht:∀ k ∈ ks,∀ i b,Q i b->el l k = G8 fr tt s x cc i b->p (if b = true then fr i else tt i) = p (if b = true then tt i else fr i) + QF b):iP fr tt s t (el (u0 l d y ks)) p:=by
 intro i hi
 rcases ZV S hy hk hn d i (by omega) with ⟨e,_⟩ | ⟨k,hkk,b,hQ,ek,e⟩
 ·rw [e]; exact hc i hi
 ·have:=ht k hkk i b hQ ek
  cases b <;> simp [QF] at this <;> constructor <;> intro _ <;> omega
theorem aMj {y:List Int} (hy:y.length = m) {a:Nat} (ha:a < m) (S:lY fr tt s m (el y) Q cc l) (hQ:∀ i b,Q i b->i ≠ a) (hB:oG fr tt s n m (el y)) {μ:Nat->Nat} {ks:List Nat} (w:Pth l last (fr a) ks (tt a)) (hk:∀ k ∈ ks,k < l.length ∧ μ (el l k).src < μ (el l k).dst) {d:Int} (hd:0 <= d) (hm:∀ k ∈ ks,d <= (el l k).most) (hda:d <= s a - el y a) :
  (ks.map fun k=>(el l k).due.toNat).Nodup ∧ el (u0 l d y ks) a = el y a ∧ ((u0 l d y ks).set a (el y a + d)).length = m ∧ oG fr tt s n m (el ((u0 l d y ks).set a (el y a + d))) ∧ (∀ j,j ≠ a->el ((u0 l d y ks).set a (el y a + d)) j = el (u0 l d y ks) j) ∧ (∀ j,(∀ b,¬ Q j b)->el (u0 l d y ks) j = el y j) ∧ el ((u0 l d y ks).set a (el y a + d)) a = el y a + d:=by
 obtain ⟨_,hnd⟩:=w.dues S (μ:=μ) hk
 have hr:=XY S hy (fun k h=>(hk k h).1) hnd hd hm fun j hj=>⟨hB.lo j hj,hB.hi j hj⟩
 have hlen:(u0 l d y ks).length = m:=by rw [EB,hy]
 have hother:∀ j,(∀ b,¬ Q j b)->el (u0 l d y ks) j = el y j:=by
  intro j hj
  refine SW d j ks y fun k h e=>?_
  obtain ⟨j',b,_,hQ',_,ek⟩:=S.sound k (hk k h).1
  rw [ek] at e
  have:j' = j:=by simpa [G8] using e
  subst this
  exact hj b hQ'
 have hea:el (u0 l d y ks) a = el y a:=hother a fun b q=>hQ a b q rfl
 have hz:∀ j,el ((u0 l d y ks).set a (el y a + d)) j = if j = a then el y a + d else el (u0 l d y ks) j:=by
  intro j
  rw [bR]
  by_cases e:j = a
  ·rw [Á ⟨e,by omega⟩,Á e]
  ·rw [Ã fun q=>e q.1,Ã e]
 have hya:=hB.lo a ha
 refine ⟨hnd,hea,by rw [á,hlen],⟨fun j hj=>?_,fun j hj=>?_,fun v hv=>?_⟩,fun j hj=>by rw [hz,Ã hj],hother,by rw [hz,Á rfl]⟩
 ·rw [hz]; split
  ·omega
  ·exact (hr j hj).1
 ·rw [hz]; split
  ·rename_i e; subst e; omega
  ·exact (hr j hj).2
 ·rw [YI ha hlen,aFf S w d v y hy,hB.net v hv,hea]
  split <;> split <;> omega
theorem aDw (d:Int) (k:Nat):∀ (ks:List Nat) (y:List Int),u0 l d y (ks ++ [k]) = (u0 l d y ks).set (el l k).due.toNat (el (u0 l d y ks) (el l k).due.toNat + XQ (el l k) d)
 | [],y=>rfl
 | j :: ks,y=>by
  rw [ą,u0,aDw d k ks]
  rfl
theorem aR5 (d:Int) {ks:List Nat} (hn:(ks.map fun k=>(el l k).due.toNat).Nodup) {y:List Int} (hk:∀ k ∈ ks,(el l k).due.toNat < y.length):u0 l d y ks.reverse = u0 l d y ks:=by
 have hn' : (ks.reverse.map fun k=>(el l k).due.toNat).Nodup:=by rw [List.map_reverse]; exact ((List.reverse_perm _).nodup_iff).2 hn
 refine aOy (by rw [EB,EB]) fun i _=>?_
 by_cases c:∀ k ∈ ks,(el l k).due.toNat ≠ i
 ·rw [SW d i ks y c,SW d i ks.reverse y fun k h=>c k (ľ.1 h)]
 ·obtain ⟨k,c⟩:=Classical.not_forall.1 c
  obtain ⟨h1,h2⟩:=Classical.not_imp.1 c
  have h2:=Classical.not_not.1 h2
  subst h2
  rw [XB d ks y hn k h1 (hk k h1),XB d ks.reverse y hn' k (ľ.2 h1) (hk k h1)]
end
section
variable {fr tt:Nat->Nat} {s:Nat->Int} {n m:Nat} {l:List c9} {last:List Int}
theorem aCG {y:Nat->Int} (S:lY fr tt s m y (fun _ _=>True) QF l) (hf:∀ i,i < m->fr i < n) (ht:∀ i,i < m->tt i < n) {p q:Nat->Int} (hp:iP fr tt s m y p) {F:Nat->Bool} {R:Nat->Prop} {μ:Nat->Nat} (T:P6 n l (fun v=>F v = true) R q μ last) (N:Int) :
  ∃ p',iP fr tt s m y p' ∧ (∀ v,F v = true->p' v = q v) ∧ ∀ v,v < n->F v = false->N <= p' v:=by
 obtain ⟨B,hB0,hB⟩:=QC p n
 obtain ⟨C,hC0,hC⟩:=QC q n
 refine ⟨fun v=>if F v = true then q v else p v + (B + C + 1 + N.natAbs),?_,fun v h=>Á h,fun v hv h=>?_⟩
 ·rw [KQ S] at hp ⊢
  intro k hk
  have h1:=hp k hk
  obtain ⟨hs1,hs2⟩:=S.in_ hf ht k hk
  have hcost:-1 <= (el l k).cost:=by
   obtain ⟨i,b,_,_,_,e⟩:=S.sound k hk
   rw [e]; cases b <;> simp [G8,QF]
  show (if F (el l k).dst = true then q (el l k).dst else p (el l k).dst + (B + C + 1 + N.natAbs)) <= (if F (el l k).src = true then q (el l k).src else p (el l k).src + (B + C + 1 + N.natAbs)) + (el l k).cost
  by_cases c:F (el l k).src = true
  ·obtain ⟨q1,q2⟩:=T.closed k hk c
   rw [Á c,Á q1]
   exact q2
  ·rw [Ã c]
   by_cases c2:F (el l k).dst = true
   ·rw [Á c2]
    have:=(hB _ hs1).2
    have:=(hC _ hs2).1
    omega
   ·rw [Ã c2]
    omega
 ·show N <= if F v = true then q v else p v + (B + C + 1 + N.natAbs)
  rw [h,Ã (by decide)]
  have:=(hB v hv).2
  omega
theorem iP.min {x p p' : Nat->Int} (h:iP fr tt s m x p) (h' : iP fr tt s m x p'):iP fr tt s m x fun v=>if p v <= p' v then p v else p' v:=by
 intro i hi
 obtain ⟨a,b⟩:=h i hi
 obtain ⟨a',b'⟩:=h' i hi
 refine ⟨fun c=>?_,fun c=>?_⟩
 ·have:=a c
  have:=a' c
  dsimp only
  split <;> split <;> omega
 ·have:=b c
  have:=b' c
  dsimp only
  split <;> split <;> omega
theorem iP.shift {x p:Nat->Int} (h:iP fr tt s m x p) (K:Int):iP fr tt s m x fun v=>p v + K:=fun i hi=>⟨fun c=>by have:=(h i hi).1 c; dsimp only; omega,fun c=>by have:=(h i hi).2 c; dsimp only; omega⟩
theorem iP.succ {x p:Nat->Int} (h:iP fr tt s m x p) (h1:x m < s m->p (tt m) <= p (fr m) - 1) (h2:0 < x m->p (fr m) <= p (tt m) + 1):iP fr tt s (m + 1) x p:=by
 intro i hi
 by_cases e:i = m
 ·subst e; exact ⟨h1,h2⟩
 ·exact h i (by omega)
theorem iP.join {x p p' : Nat->Int} (h:iP fr tt s m x p) (h' : iP fr tt s m x p') (hn:p (tt m) <= p (fr m) - 1) (ho:p' (fr m) <= p' (tt m)):∃ p'',iP fr tt s (m + 1) x p'':=by
 refine ⟨_,(h.min (h'.shift (p (tt m) + 1 - p' (fr m)))).succ (fun _=>?_) fun _=>?_⟩
 ·split <;> split <;> omega
 ·split <;> split <;> omega
theorem Pth.along {p q:Nat->Int} (hp:Pot c9.src c9.dst c9.cost l p) {v u:Nat} {ks:List Nat} (w:Pth l last v ks u) (hk:∀ k ∈ ks,k < l.length ∧ q (el l k).dst = q (el l k).src + (el l k).cost):q u - p u <= q v - p v ∧ ∀ k ∈ ks,q u - p u <= q (el l k).src - p (el l k).src ∧ q (el l k).dst - p (el l k).dst <= q v - p v:=by
 induction w with
 | nil v hv=>exact ⟨į _,fun k hk=>by cases hk⟩
 | @cons v k u ks hk' hlv hd w ih =>
  obtain ⟨i1,i2⟩:=ih fun k hk''=>hk k (Õ _ hk'')
  have h1:=hk k (à ..)
  have h2:=hp k hk'
  rw [hd] at h1 h2
  refine ⟨by omega,fun j hj=>?_⟩
  rcases Ô.1 hj with rfl | hj
  ·rw [hd]; exact ⟨by omega,į _⟩
  ·have:=i2 j hj
   exact ⟨this.1,by omega⟩
theorem aFA {x:Nat->Int} {p:Nat->Int} {i:Nat} (hi:i < m) (hf:∀ i,i < m->fr i < n) (ht:∀ i,i < m->tt i < n) (hB:oG fr tt s n m x) (hc:iP fr tt s m x p) {F:Nat->Bool} (hcl:∀ j b,j < m->aA2 fr tt p i j b->0 < (G8 fr tt s x QF j b).most->F (if b = true then tt j else fr j) = true->F (if b = true then fr j else tt j) = true) (h1:F (tt i) = true) (h2:F (fr i) = false):BZ fr tt s n m x i:=by
 intro y hy hs hj
 refine å fun c=>?_
 have c:x i < y i:=by omega
 have hti:=SA hf ht hB hy hc hs
 have hx0:=K8 hf ht hB.net fun v=>if F v = true then 1 else 0
 have hy0:=K8 hf ht hy.net fun v=>if F v = true then 1 else 0
 have h0:eY (fun j=>(y j - x j) * ((if F (tt j) = true then 1 else 0) - (if F (fr j) = true then 1 else 0))) m = 0:=by
  rw [jJ (h:=fun j=>y j * ((if F (tt j) = true then 1 else 0) - (if F (fr j) = true then 1 else 0)) - x j * ((if F (tt j) = true then 1 else 0) - (if F (fr j) = true then 1 else 0))) fun j _=>by rw [Int.sub_mul],ED,hx0,hy0]
  rfl
 have hpos:∀ j,j < m->0 <= (y j - x j) * ((if F (tt j) = true then 1 else 0) - (if F (fr j) = true then 1 else 0)):=by
  intro j hjm
  by_cases e:y j = x j
  ·rw [e]; simp
  ·have hij:i <= j:=by
    refine å fun q=>e (hj j (by omega))
   by_cases e2:j = i
   ·subst e2
    rw [h1,h2]; simp; omega
   ·have hp:=hti j hjm e
    have a1:=hy.lo j hjm
    have a2:=hy.hi j hjm
    by_cases c1:F (tt j) = true
    ·by_cases c2:F (fr j) = true
     ·rw [Á c1,Á c2]; simp
     ·rw [Á c1,Ã c2]
      rcases (by omega:x j <= y j ∨ y j < x j) with q | q
      ·simp; omega
      ·exfalso
       have:=hcl j true hjm ⟨by omega,by simp [QF]; omega⟩ (by simp [G8]; omega) (by simpa using c1)
       exact c2 (by simpa using this)
    ·by_cases c2:F (fr j) = true
     ·rw [Ã c1,Á c2]
      rcases (by omega:y j <= x j ∨ x j < y j) with q | q
      ·simp; omega
      ·exfalso
       have:=hcl j false hjm ⟨by omega,by simp [QF]; omega⟩ (by simp [G8]; omega) (by simpa using c2)
       exact c1 (by simpa using this)
     ·rw [Ã c1,Ã c2]; simp
 have:=KT hpos i hi
 rw [h0] at this
 simp only [h1,h2,Č,ö,Ĵ] at this
 omega
end
end
end Go.Proofs.Ytgjcnbgfaimepaa
