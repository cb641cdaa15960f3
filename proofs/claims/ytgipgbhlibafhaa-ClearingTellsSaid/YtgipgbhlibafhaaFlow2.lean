/- Least labels by sequences of steps: rounds until nothing changes (plain mathematics). -/
import Derived.Test.YtgipgbhlibafhaaLoops3
set_option linter.unusedVariables false
set_option linter.unusedSimpArgs false
namespace Go.Proofs.Ytgipgbhlibafhaa
section
variable {C St:Type} [Inhabited C] [Inhabited St]
def relaxS (less:C→C→Bool) (onw:C→St→C) (src dst:St→Nat) (l:List St) (z:List C × List Int × Bool) (i:Nat):List C × List Int × Bool :=
 if less (onw (el z.1 (src (el l i))) (el l i)) (el z.1 (dst (el l i))) = true then (z.1.set (dst (el l i)) (onw (el z.1 (src (el l i))) (el l i)),z.2.1.set (dst (el l i)) (i:Int),true) else z
def roundS (less:C→C→Bool) (onw:C→St→C) (src dst:St→Nat) (l:List St) (best:List C) (last:List Int):List C × List Int × Bool :=
 (List.range l.length).foldl (relaxS less onw src dst l) (best,last,false)
def runS (less:C→C→Bool) (onw:C→St→C) (src dst:St→Nat) (l:List St):Nat→List C→List Int→Option (List C × List Int)
 | 0,_,_=>none
 | f + 1,best,last=>if (roundS less onw src dst l best last).2.2 = true then runS less onw src dst l f (roundS less onw src dst l best last).1 (roundS less onw src dst l best last).2.1
  else some ((roundS less onw src dst l best last).1,(roundS less onw src dst l best last).2.1)
inductive WkS (onw:C→St→C) (src dst:St→Nat) (l:List St) (init:List C):Nat→C→Nat→Prop
 | zero (v:Nat):v < init.length→WkS onw src dst l init 0 (el init v) v
 | step {k:Nat} {a:C} (i:Nat):i < l.length→WkS onw src dst l init k a (src (el l i))→WkS onw src dst l init (k + 1) (onw a (el l i)) (dst (el l i))
structure OrdS (less:C→C→Bool) (onw:C→St→C):Prop where
 irr:∀ a,less a a = false
 asym:∀ a b,less a b = true→less b a = false
 neg:∀ a b c,less a b = false→less b c = false→less a c = false
 mono:∀ a b s,less a b = false→less (onw a s) (onw b s) = false
def leS (less:C→C→Bool) (a b:C):Prop:=less b a = false
theorem el_set_any {α:Type} [Inhabited α] (l:List α) (i j:Nat) (x:α):el (l.set i x) j = if j = i ∧ i < l.length then x else el l j:=by
 unfold el
 rw [List.getD_eq_getElem?_getD,List.getD_eq_getElem?_getD,List.getElem?_set]
 by_cases e:i = j
 ·subst e
  by_cases h:i < l.length
  ·simp [h]
  ·simp [h]
 ·rw [if_neg e,if_neg (fun q=>e q.1.symm)]
theorem el_replicate_any {α:Type} [Inhabited α] (n i:Nat) (x:α) (h:i < n):el (List.replicate n x) i = x:=by simp [el,h]
theorem foldl_inv {α β:Type} (f:β→α→β) (P:Nat→β→Prop):∀ (n:Nat) (g:Nat→α) (b:β),P 0 b→(∀ k b,k < n→P k b→P (k + 1) (f b (g k)))→P n (((List.range n).map g).foldl f b)
 | 0,g,b,h0,_=>h0
 | n + 1,g,b,h0,h=>by
  rw [List.range_succ,List.map_append,List.foldl_append]
  exact h n _ (Nat.lt_succ_self n) (foldl_inv f P n g b h0 fun k b hk=>h k b (by omega))
variable {less:C→C→Bool} {onw:C→St→C} {src dst:St→Nat} {l:List St}
structure InvS (less:C→C→Bool) (onw:C→St→C) (src dst:St→Nat) (l:List St) (init best:List C) (last:List Int):Prop where
 len:best.length = init.length
 lenL:last.length = init.length
 wk:∀ v,v < init.length→∃ k,WkS onw src dst l init k (el best v) v
 le0:∀ v,v < init.length→leS less (el best v) (el init v)
 last_:∀ v,v < init.length→(el last v = -1 ∧ el best v = el init v) ∨ ∃ i,i < l.length ∧ el last v = (i:Int) ∧ dst (el l i) = v ∧ leS less (onw (el best (src (el l i))) (el l i)) (el best v)
theorem round_inv (O:OrdS less onw) {init best:List C} {last:List Int} (hs:∀ i,i < l.length→src (el l i) < init.length ∧ dst (el l i) < init.length) (h:InvS less onw src dst l init best last) :
  ∃ b la ch,roundS less onw src dst l best last = (b,la,ch) ∧ InvS less onw src dst l init b la ∧ (∀ v,v < init.length→leS less (el b v) (el best v)) ∧ (∀ i,i < l.length→leS less (el b (dst (el l i))) (onw (el best (src (el l i))) (el l i))) ∧
   (ch = false→b = best ∧ la = last) ∧ ((∀ k a v,WkS onw src dst l init k a v→leS less (el best v) a)→ch = false):=by
 have key:=foldl_inv (relaxS less onw src dst l) (fun k z=>InvS less onw src dst l init z.1 z.2.1 ∧ (∀ v,v < init.length→leS less (el z.1 v) (el best v)) ∧ (∀ i,i < k→leS less (el z.1 (dst (el l i))) (onw (el best (src (el l i))) (el l i))) ∧
   (z.2.2 = false→z.1 = best ∧ z.2.1 = last) ∧ ((∀ k a v,WkS onw src dst l init k a v→leS less (el best v) a)→z.2.2 = false)) l.length id (best,last,false)
  ⟨h,fun v _=>O.irr _,fun i hi=>absurd hi (Nat.not_lt_zero _),fun _=>⟨rfl,rfl⟩,fun _=>rfl⟩ ?_
 ·rw [List.map_id] at key
  refine ⟨_,_,_,rfl,key.1,key.2.1,key.2.2.1,key.2.2.2.1,key.2.2.2.2⟩
 ·rintro k ⟨b,la,ch⟩ hk ⟨h1,h2,h3,h4,h5⟩
  dsimp only at h1 h2 h3 h4 h5
  obtain ⟨hsu,hdv⟩:=hs k hk
  have hlb:=h1.len
  have hll:=h1.lenL
  simp only [id,relaxS]
  -- the label over this step
  have hon:leS less (onw (el b (src (el l k))) (el l k)) (onw (el best (src (el l k))) (el l k)):=O.mono _ _ _ (h2 _ hsu)
  by_cases c:less (onw (el b (src (el l k))) (el l k)) (el b (dst (el l k))) = true
  ·rw [if_pos c]
   dsimp only
   have hset:∀ v,el (b.set (dst (el l k)) (onw (el b (src (el l k))) (el l k))) v = if v = dst (el l k) then onw (el b (src (el l k))) (el l k) else el b v:=fun v=>by
    rw [el_set_any]
    by_cases e:v = dst (el l k)
    ·rw [if_pos ⟨e,by omega⟩,if_pos e]
    ·rw [if_neg (fun q=>e q.1),if_neg e]
   have hsetL:∀ v,el (la.set (dst (el l k)) (k:Int)) v = if v = dst (el l k) then (k:Int) else el la v:=fun v=>by
    rw [el_set_any]
    by_cases e:v = dst (el l k)
    ·rw [if_pos ⟨e,by omega⟩,if_pos e]
    ·rw [if_neg (fun q=>e q.1),if_neg e]
   have hdown:∀ v,leS less (el (b.set (dst (el l k)) (onw (el b (src (el l k))) (el l k))) v) (el b v):=by
    intro v
    rw [hset]
    split
    ·rename_i e; rw [e]; exact O.asym _ _ c
    ·exact O.irr _
   have tr:∀ {x y z:C},leS less x y→leS less y z→leS less x z:=fun hxy hyz=>O.neg _ _ _ hyz hxy
   refine ⟨⟨by simp [hlb],by simp [hll],fun v hv=>?_,fun v hv=>tr (hdown v) (h1.le0 v hv),fun v hv=>?_⟩,fun v hv=>tr (hdown v) (h2 v hv),fun i hi=>?_,(fun q=>by cases q),fun q=>?_⟩
   ·rw [hset]
    split
    ·rename_i e
     subst e
     obtain ⟨j,hj⟩:=h1.wk _ hsu
     exact ⟨j + 1,.step k hk hj⟩
    ·exact h1.wk v hv
   ·rw [hset,hsetL]
    by_cases e:v = dst (el l k)
    ·subst e
     rw [if_pos rfl,if_pos rfl]
     exact .inr ⟨k,hk,rfl,rfl,O.mono _ _ _ (hdown _)⟩
    ·rw [if_neg e,if_neg e]
     rcases h1.last_ v hv with q | ⟨i,q1,q2,q3,q4⟩
     ·exact .inl q
     ·exact .inr ⟨i,q1,q2,q3,tr (O.mono _ _ _ (hdown _)) q4⟩
   ·by_cases e:i = k
    ·subst e
     rw [hset,if_pos rfl]
     exact hon
    ·exact tr (hdown _) (h3 i (by omega))
   ·exfalso
    have hch:=h5 q
    obtain ⟨e1,e2⟩:=h4 hch
    subst e1
    obtain ⟨j,hj⟩:=h1.wk _ hsu
    have:=q _ _ _ (WkS.step k hk hj)
    unfold leS at this
    rw [this] at c
    cases c
  ·rw [if_neg c]
   refine ⟨h1,h2,fun i hi=>?_,h4,h5⟩
   by_cases e:i = k
   ·subst e
    rw [Bool.not_eq_true] at c
    exact O.neg _ _ _ hon c
   ·exact h3 i (by omega)
theorem run_spec (O:OrdS less onw) {init:List C} (hs:∀ i,i < l.length→src (el l i) < init.length ∧ dst (el l i) < init.length) (K:Nat) (hK:∀ k a v,WkS onw src dst l init k a v→∃ j b,j ≤ K ∧ WkS onw src dst l init j b v ∧ leS less b a) {fuel:Nat} (hf:K + 1 ≤ fuel) :
  ∃ best last,runS less onw src dst l fuel init (List.replicate init.length (-1)) = some (best,last) ∧ InvS less onw src dst l init best last ∧ (∀ i,i < l.length→leS less (el best (dst (el l i))) (onw (el best (src (el l i))) (el l i))) ∧ ∀ k a v,WkS onw src dst l init k a v→leS less (el best v) a:=by
 have tr:∀ {x y z:C},leS less x y→leS less y z→leS less x z:=fun hxy hyz=>O.neg _ _ _ hyz hxy
 have fin:∀ best last,InvS less onw src dst l init best last→(∀ i,i < l.length→leS less (el best (dst (el l i))) (onw (el best (src (el l i))) (el l i)))→∀ k a v,WkS onw src dst l init k a v→leS less (el best v) a:=by
  intro best last h1 h2 k a v w
  induction w with
  | zero v hv=>exact h1.le0 v hv
  | step i hi _ ih=>exact tr (h2 i hi) (O.mono _ _ _ ih)
 have key:∀ (f r:Nat) (best:List C) (last:List Int),K + 1 ≤ f + r→0 < f→InvS less onw src dst l init best last→(∀ k a v,k ≤ r→WkS onw src dst l init k a v→leS less (el best v) a) →
   ∃ b la,runS less onw src dst l f best last = some (b,la) ∧ InvS less onw src dst l init b la ∧ (∀ i,i < l.length→leS less (el b (dst (el l i))) (onw (el b (src (el l i))) (el l i))):=by
  intro f
  induction f with
  | zero=>intro r best last _ h0; omega
  | succ f ih =>
   intro r best last hr _ hI hd
   obtain ⟨b,la,ch,e,q1,q2,q3,q4,q5⟩:=round_inv O hs hI
   simp only [runS,e]
   cases ch with
   | false =>
    obtain ⟨rfl,rfl⟩:=q4 rfl
    exact ⟨b,la,rfl,q1,q3⟩
   | true =>
    simp only [if_true]
    by_cases hrK:K ≤ r
    ·-- nothing could change any more
     have:=q5 fun k a v w=>by
      obtain ⟨j,a',h1,h2,h3⟩:=hK k a v w
      exact tr (hd j a' v (by omega) h2) h3
     cases this
    ·refine ih (r + 1) b la (by omega) (by omega) q1 fun k a v hk w=>?_
     cases w with
     | zero v hv=>exact tr (q2 v hv) (hd 0 _ _ (Nat.zero_le _) (.zero v hv))
     | step i hi w =>
      exact tr (q3 i hi) (O.mono _ _ _ (hd _ _ _ (by omega) w))
 obtain ⟨b,la,h1,h2,h3⟩:=key fuel 0 init (List.replicate init.length (-1)) (by omega) (by omega) ⟨rfl,by simp,fun v hv=>⟨0,.zero v hv⟩,fun v hv=>O.irr _,fun v hv=>.inl ⟨el_replicate_any _ _ _ hv,rfl⟩⟩ fun k a v hk w=>by
  obtain rfl:k = 0:=by omega
  cases w with
  | zero v hv=>exact O.irr _
 exact ⟨b,la,h1,h2,h3,fin b la h2 h3⟩
end
end Go.Proofs.Ytgipgbhlibafhaa
