/- Law 43: RightsPays. -/
import Derived.Test.YtgjcnbgfaimepaaPRight4
set_option linter.unusedVariables false
set_option linter.unusedSimpArgs false
namespace Go.Proofs.Ytgjcnbgfaimepaa
open Go.RowKit Vm
def yP (p:Nat->Bool):Nat->List Nat
 | 0=>[]
 | k + 1=>yP p k ++ if p k = true then [k] else []
section
variable {p:Nat->Bool}
theorem w7 (k:Nat):yP p (k + 1) = yP p k ++ if p k = true then [k] else []:=rfl
theorem PZ:∀ k,(yP p k).length <= k
 | 0=>Nat.le_refl _
 | k + 1=>by
  have:=PZ k
  rw [w7,List.length_append]
  split <;> simp <;> omega
theorem aBI:∀ k,∀ i ∈ yP p k,i < k ∧ p i = true
 | 0,i,h=>by cases h
 | k + 1,i,h=>by
  rw [w7] at h
  rcases List.mem_append.1 h with q | q
  ·have:=aBI k i q
   exact ⟨by omega,this.2⟩
  ·split at q
   ·rename_i c
    have:i = k:=by simpa using q
    subst this
    exact ⟨by omega,c⟩
   ·cases q
theorem aDI {k:Nat}:∀ d,∃ r,yP p (k + d) = yP p k ++ r
 | 0=>⟨[],by simp⟩
 | d + 1=>by
  obtain ⟨r,h⟩:=aDI (k:=k) d
  exact ⟨r ++ if p (k + d) = true then [k + d] else [],by rw [show k + (d + 1) = (k + d) + 1 by omega,w7,h,List.append_assoc]⟩
theorem aJ0 {n k:Nat} (hk:k < n) (hf:p k = true):(yP p k).length < (yP p n).length ∧ el (yP p n) (yP p k).length = k:=by
 obtain ⟨r,h⟩:=aDI (k:=k + 1) (p:=p) (n - (k + 1))
 rw [show k + 1 + (n - (k + 1)) = n by omega,w7,if_pos hf] at h
 rw [h]
 refine ⟨by simp,?_⟩
 simp [el]
theorem aJW {n:Nat} (g:Nat->Int):∀ k,k <= n->(∀ i,i < k->p i = false->g i = 0)->dE g k = dE (fun j=>g (el (yP p n) j)) (yP p k).length
 | 0,_,_=>rfl
 | k + 1,hk,h=>by
  have ih:=aJW (n:=n) g k (by omega) (fun i hi=>h i (by omega))
  show dE g k + g k = _
  rw [ih]
  cases hf:p k with
  | false =>
   rw [w7,hf,h k (by omega) hf]
   simp
  | true =>
   obtain ⟨h1,h2⟩:=aJ0 (by omega:k < n) hf
   rw [show (yP p (k + 1)).length = (yP p k).length + 1 by rw [w7,if_pos hf]; simp]
   show _ = dE _ _ + g (el (yP p n) (yP p k).length)
   rw [h2]
end
def pC (d:aE) (x day:Int):aW:=⟨6,d.From,d.To,d.Part,d.Sign,x,day,0,0⟩
def jK (d:aE) (s:Int):aG:=⟨d.From,d.To,0,d.Sign,-1,0,s,0,1⟩
def mY (X:List Int) (i:Nat):Bool:=decide (el X i > 0)
section
variable {m:Nat} {l:List aE} {asked X q y:List Int}
theorem aAK (hlen:l.length <= 9) (hX:X.length = l.length) (day:Int):jS l X day 0 = some ((yP (mY X) l.length).map fun i=>(el l i).File,(yP (mY X) l.length).map fun i=>pC (el l i) (el X i) day):=by
 unfold jS
 rw [if_neg (by simp; omega)]
 have key:∃ x,kX l X day 0 0 [] [] = some x ∧ x = ((yP (mY X) l.length).map fun i=>(el l i).File,(yP (mY X) l.length).map fun i=>pC (el l i) (el X i) day):=by
  unfold kX
  refine hZ (step:=fun (w:Int × List Int × List aW)=>dF l X day 0 w.1 w.2.1 w.2.2) (fun k (a:List Int × List aW)=>((k:Int),a.1,a.2)) l.length (fun k a=>a = ((yP (mY X) k).map fun i=>(el l i).File,(yP (mY X) k).map fun i=>pC (el l i) (el X i) day)) _ ?_ ?_ ([],[]) rfl
  ·rintro k a hk rfl
   refine .inl ⟨_,?_,rfl⟩
   show dF l X day 0 k _ _ = _
   unfold dF
   have w3:IntKind.wrap .i64 ((k:Int) + 1) = ((k + 1:Nat):Int):=cD (by omega)
   have hle:=PZ (p:=mY X) k
   rw [if_pos (by simpa using hk),dU l k hk,Option.bind_some,dU X k (by omega),Option.bind_some,w3,w7]
   by_cases c:el X k > 0
   ·have hp:mY X k = true:=decide_eq_true c
    rw [if_pos (by simpa using c),if_pos (by simp; omega),Option.bind_some,if_pos (by simp; omega),hp]
    simp [pC]
   ·have hp:mY X k = false:=decide_eq_false c
    rw [if_neg (by simpa using c),hp]
    simp
  ·rintro a rfl
   refine ⟨_,?_,rfl⟩
   show dF l X day 0 l.length _ _ = _
   unfold dF
   rw [if_neg (by simp)]
 obtain ⟨x,h1,rfl⟩:=key
 rw [h1]; rfl
theorem aNs (d:aE) (x day:Int) (h1:0 < x) (h2:x <= d.Sum) (h3:d.Sum <= 1099511627776):xV [jK d d.Sum] (pC d x day) 1 false = some ([jK d (d.Sum - x)],[⟨d.From,d.To,d.Sign,x⟩]):=by
 unfold xV dH
 rw [if_pos (by simp),Option.bind_some]
 have key:tU [jK d d.Sum] (pC d x day) 1 false 0 [] [jK d d.Sum] = some ([⟨d.From,d.To,d.Sign,x⟩],[jK d (d.Sum - x)]):=by
  unfold tU
  have s1:(fun (w:Int × List aU × List aG)=>fS [jK d d.Sum] (pC d x day) 1 false w.1 w.2.1 w.2.2) (0,[],[jK d d.Sum]) = some (.inl (1,[⟨d.From,d.To,d.Sign,x⟩],[jK d (d.Sum - x)])):=by
   show fS [jK d d.Sum] (pC d x day) 1 false 0 [] [jK d d.Sum] = _
   unfold fS BE
   have hat:at? [jK d d.Sum] 0 = some (jK d d.Sum):=rfl
   have c0:((jK d d.Sum).Creditor == (pC d x day).To) = true:=by simp [jK,pC]
   rw [if_pos (by simp),hat,Option.bind_some,if_pos c0,Option.bind_some,if_neg (by simp),if_pos ⟨by decide,Nat.zero_lt_one⟩]
   show (some (jK d d.Sum)).bind _ = _
   rw [Option.bind_some,if_pos (by decide),if_neg (by decide)]
   have e1:(if (jK d d.Sum).Sum > 0 then (jK d d.Sum).Sum else 0) = d.Sum:=if_pos (show d.Sum > 0 by omega)
   have e2:(if (pC d x day).Sum > 0 then (pC d x day).Sum else 0) = x:=if_pos h1
   rw [e1,e2,if_neg (show ¬ d.Sum < x by omega),show IntKind.wrap .i64 (d.Sum - x) = d.Sum - x from jG (by omega) (by omega),show IntKind.wrap .i64 ((0:Int) + 1) = 1 from jG (by omega) (by omega)]
   rfl
  have s2:(fun (w:Int × List aU × List aG)=>fS [jK d d.Sum] (pC d x day) 1 false w.1 w.2.1 w.2.2) (1,[⟨d.From,d.To,d.Sign,x⟩],[jK d (d.Sum - x)]) = some (.inr ([⟨d.From,d.To,d.Sign,x⟩],[jK d (d.Sum - x)])):=by
   show fS _ _ _ _ _ _ _ = _
   unfold fS
   rw [if_neg (by simp)]
  rw [lO s1]
  exact jQ s2
 rw [key,Option.bind_some]
 have k2:uC (([⟨d.From,d.To,d.Sign,x⟩]:List aU),[jK d (d.Sum - x)]) = some ():=by
  unfold uC
  exact jQ (step:=fun (w:Unit)=>mQ _) (s:=()) (by unfold mQ; rfl)
 rw [k2]
 rfl
theorem aCM (c:aG):eZ [c] [c] = some true:=by
 unfold eZ iF
 have s1:(fun (w:Int)=>bG [c] [c] w) 0 = some (.inl 1):=by
  show bG [c] [c] 0 = _
  unfold bG
  have hat:at? [c] 0 = some c:=rfl
  rw [if_pos (by simp),hat,Option.bind_some,Option.bind_some]
  simp
  rfl
 have s2:(fun (w:Int)=>bG [c] [c] w) 1 = some (.inr (.inl ())):=by
  show bG [c] [c] 1 = _
  unfold bG
  rw [if_neg (by simp)]
 rw [if_neg (by simp),lO s1,jQ s2]
 rfl
theorem aMB (hlen:l.length <= 9) (h:LR m (l.map kH)) (b:BN m l asked X q y) (n day:Int) (r1:Bool):dR n l day r1 (X,q,0) ((yP (mY X) l.length).map fun i=>(el l i).File,(yP (mY X) l.length).map fun i=>pC (el l i) (el X i) day) 0 0 = some (.inl ((yP (mY X) l.length).length:Int)):=by
 have hX:=b.len
 have key:∃ x,dR n l day r1 (X,q,0) ((yP (mY X) l.length).map fun i=>(el l i).File,(yP (mY X) l.length).map fun i=>pC (el l i) (el X i) day) 0 0 = some x ∧ x = .inl ((yP (mY X) l.length).length:Int):=by
  unfold dR
  refine hZ (step:=fun (w:Int × Int)=>bO n l day r1 (X,q,0) _ w.1 w.2) (fun k (a:Int)=>(a,(k:Int))) l.length (fun k a=>a = ((yP (mY X) k).length:Int)) _ ?_ ?_ 0 rfl
  ·rintro k a hk rfl
   refine .inl ⟨_,?_,rfl⟩
   show bO n l day r1 (X,q,0) _ ((yP (mY X) k).length:Int) k = _
   unfold bO
   have w3:IntKind.wrap .i64 ((k:Int) + 1) = ((k + 1:Nat):Int):=cD (by omega)
   have hle:=PZ (p:=mY X) k
   have w4:IntKind.wrap .i64 (((yP (mY X) k).length:Int) + 1) = (((yP (mY X) k).length + 1:Nat):Int):=cD (by omega)
   have hr:=b.rng h hk
   have hs:=(yW h hk).2.2.2
   simp only [if_pos (show decide ((k:Int) < (l.length:Int)) = true by simpa using hk),dU l k hk,Option.bind_some,dU X k (by omega:k < X.length),w3]
   by_cases c:el X k = 0
   ·have hp:mY X k = false:=decide_eq_false (by omega)
    rw [if_pos (by simpa using c),w7,hp]
    simp
   ·have hp:mY X k = true:=decide_eq_true (by omega)
    obtain ⟨i1,i2⟩:=aJ0 hk hp
    have hA:at? ((yP (mY X) l.length).map fun i=>pC (el l i) (el X i) day) ((yP (mY X) k).length:Int) = some (pC (el l k) (el X k) day):=by
     rw [dU _ _ (by rw [List.length_map]; exact i1),eW (fun i=>pC (el l i) (el X i) day) _ _ i1,i2]
    have hF:at? ((yP (mY X) l.length).map fun i=>(el l i).File) ((yP (mY X) k).length:Int) = some (el l k).File:=by
     rw [dU _ _ (by rw [List.length_map]; exact i1),eW (fun i=>(el l i).File) _ _ i1,i2]
    have hap:=aNs (el l k) (el X k) day (by omega) hr.2 hs.2
    unfold jK at hap
    rw [if_neg (by simpa using c),if_neg (by simp; omega)]
    simp only [hF,hA,Option.bind_some]
    rw [if_neg (by simp),if_neg (by simp [pC]),if_neg (by simp [pC]),if_neg (by simp [pC]),hap,Option.bind_some,jG (by omega) (by omega)]
    simp only
    rw [aCM,Option.bind_some,if_neg (by simp),if_neg (by simp)]
    show (some (aU.mk _ _ _ _)).bind _ = _
    rw [Option.bind_some,if_neg (by simp),w4,w7,hp]
    simp
  ·rintro a rfl
   refine ⟨_,?_,rfl⟩
   show bO n l day r1 (X,q,0) _ _ l.length = _
   unfold bO
   rw [if_neg (by simp)]
 obtain ⟨x,h1,rfl⟩:=key
 exact h1
theorem aPs (hlen:l.length <= 9) (h:LR m (l.map kH)) (b:BN m l asked X q y) (n day:Int) (r1:Bool) (F:List Int) (z:Int) {v:Nat} (hv:v < m):dT n v r1 (X,q,0) (F,(yP (mY X) l.length).map fun i=>pC (el l i) (el X i) day) z 0 0 = some 0:=by
 have hX:=b.len
 generalize hA:((yP (mY X) l.length).map fun i=>pC (el l i) (el X i) day) = A
 have hAl:A.length = (yP (mY X) l.length).length:=by rw [← hA,List.length_map]
 have hAe:∀ j,j < A.length->el A j = pC (el l (el (yP (mY X) l.length) j)) (el X (el (yP (mY X) l.length) j)) day:=fun j hj=>by
  rw [hAl] at hj
  rw [← hA,eW (fun i=>pC (el l i) (el X i) day) _ _ hj]
 have hA9:A.length <= 9:=by have:=PZ (p:=mY X) l.length; omega
 have hsum:∀ j,j < A.length->0 <= (el A j).Sum ∧ (el A j).Sum <= 1099511627776:=fun j hj=>by
  rw [hAe j hj]
  have hi:=aBI _ _ (F3 (yP (mY X) l.length) j (by omega))
  have:=b.rng h hi.1
  have:=(yW h hi.1).2.2.2.2
  show 0 <= el X _ ∧ el X _ <= _
  omega
 let g:Nat->Int:=fun j=>(if (el A j).To = (v:Int) then (el A j).Sum else 0) - (if (el A j).Who = (v:Int) then (el A j).Sum else 0)
 have hg:∀ k,k <= A.length->-((k:Int) * 1099511627776) <= dE g k ∧ dE g k <= (k:Int) * 1099511627776:=by
  intro k
  induction k with
  | zero=>intro _; simp [dE]
  | succ k ih =>
   intro hk
   have:=ih (by omega)
   have hs:=hsum k (by omega)
   show -(((k + 1:Nat):Int) * 1099511627776) <= dE g k + g k ∧ dE g k + g k <= ((k + 1:Nat):Int) * 1099511627776
   have:-1099511627776 <= g k ∧ g k <= 1099511627776:=by
    show -1099511627776 <= (if (el A k).To = (v:Int) then (el A k).Sum else 0) - (if (el A k).Who = (v:Int) then (el A k).Sum else 0) ∧ _
    show _ ∧ (if (el A k).To = (v:Int) then (el A k).Sum else 0) - (if (el A k).Who = (v:Int) then (el A k).Sum else 0) <= _
    split <;> split <;> omega
   omega
 have key:∃ x,dT n v r1 (X,q,0) (F,A) z 0 0 = some x ∧ x = dE g A.length:=by
  unfold dT
  refine hZ (step:=fun (w:Int × Int)=>bN n v r1 (X,q,0) (F,A) z w.1 w.2) (fun k (a:Int)=>(a,(k:Int))) A.length (fun k a=>a = dE g k) _ ?_ ?_ 0 rfl
  ·rintro k a hk rfl
   refine .inl ⟨_,?_,rfl⟩
   show bN n v r1 (X,q,0) (F,A) z _ k = _
   have w3:IntKind.wrap .i64 ((k:Int) + 1) = ((k + 1:Nat):Int):=cD (by omega)
   have hb:=hg k (by omega)
   have hs:=hsum k hk
   show _ = some (Sum.inl (dE g k + g k,_))
   have hj:∀ s:Int,-(100 * 1099511627776) <= s->s <= 100 * 1099511627776->dQ n v k r1 (X,q,0) (F,A) z s = some (s - if (el A k).Who = (v:Int) then (el A k).Sum else 0):=fun s s1 s2=>by
    unfold dQ
    simp only
    rw [dU A k hk,Option.bind_some]
    by_cases c:(el A k).Who = v
    ·rw [if_pos (by simpa using c),Option.bind_some,jG (by omega) (by omega),if_pos c]
    ·rw [if_neg (by simpa using c),if_neg c,Int.sub_zero]
   unfold bN
   simp only
   rw [if_pos (by simpa using hk),dU A k hk,Option.bind_some,w3]
   show _ = some (Sum.inl (dE g k + ((if (el A k).To = (v:Int) then (el A k).Sum else 0) - (if (el A k).Who = (v:Int) then (el A k).Sum else 0)),_))
   by_cases c:(el A k).To = v
   ·rw [if_pos (by simpa using c),Option.bind_some,jG (by omega) (by omega),hj _ (by omega) (by omega),Option.bind_some,if_pos c]
    congr 3
    omega
   ·rw [if_neg (by simpa using c),hj _ (by omega) (by omega),Option.bind_some,if_neg c]
    congr 3
    omega
  ·rintro a rfl
   refine ⟨_,?_,rfl⟩
   show bN n v r1 (X,q,0) (F,A) z _ A.length = _
   unfold bN
   simp only
   rw [if_neg (by simp)]
 obtain ⟨x,h1,rfl⟩:=key
 rw [h1]
 have hn:netF (oW (l.map kH)) (qV (l.map kH)) l.length (el X) v = 0:=by
  rw [b.netF v _ (Nat.le_refl _)]
  have:=b.best.bald.net v hv
  rwa [xS] at this
 unfold netF at hn
 rw [aJW (p:=mY X) (n:=l.length) _ l.length (Nat.le_refl _) (fun i hi hf=>by
  have h0:el X i = 0:=by
   have:=of_decide_eq_false hf
   have:=b.rng h hi
   omega
  rw [h0]; simp),← hAl] at hn
 congr 1
 refine Eq.trans (i7 fun j hj=>?_) hn
 have hi:=aBI _ _ (F3 (yP (mY X) l.length) j (by omega))
 have he:=yW h hi.1
 show (if (el A j).To = (v:Int) then (el A j).Sum else 0) - (if (el A j).Who = (v:Int) then (el A j).Sum else 0) = _
 rw [hAe j hj]
 unfold oW qV
 rw [eW kH l _ hi.1]
 show (if (el l (el (yP (mY X) l.length) j)).To = (v:Int) then el X _ else 0) - (if (el l (el (yP (mY X) l.length) j)).From = (v:Int) then el X _ else 0) = (if (el l (el (yP (mY X) l.length) j)).To.toNat = v then el X _ else 0) - (if (el l (el (yP (mY X) l.length) j)).From.toNat = v then el X _ else 0)
 congr 1
 ·by_cases c:(el l (el (yP (mY X) l.length) j)).To = v
  ·rw [if_pos c,if_pos (by omega)]
  ·rw [if_neg c,if_neg (by omega)]
 ·by_cases c:(el l (el (yP (mY X) l.length) j)).From = v
  ·rw [if_pos c,if_pos (by omega)]
  ·rw [if_neg c,if_neg (by omega)]
theorem aFl (x:List Int):0 <= U4 x:=by
 unfold U4
 split
 ·rename_i c
  have h:=c.2
  unfold ZS at h
  exact (K1 (B:=1099511627776) (by omega) x.length fun i hi=>of_decide_eq_true (nE.1 h i hi)).1
 ·omega
theorem aAS (hs:gC = some true) (n:Int) (l:List aE) (asked:List Int) (day:Int) (hl:l.length < 4611686018427387904) (ha:asked.length < 4611686018427387904):gL n l asked day = some true:=by
 unfold gL
 obtain ⟨bf,hb,hf⟩:=aTl n l hl
 rw [hs,Option.bind_some,hb,Option.bind_some]
 cases bf with
 | false=>rfl
 | true =>
  obtain ⟨h9,hr⟩:=hf rfl
  have hS:=aKY h9 hr ha
  rw [if_neg (by decide)]
  cases hc:EX n l && QP asked with
  | false =>
   rw [aIF hS hc]
   rfl
  | true =>
   rw [Bool.and_eq_true] at hc
   obtain ⟨m,X,q,y,rfl,hk,e1,b⟩:=aK1 hS hc.1 hc.2
   rw [e1,Option.bind_some,if_neg (by simp)]
   simp only
   rw [aAK h9 b.len day,Option.bind_some,if_neg (by simp [b.len]),if_neg (by simp),aMB h9 hk b,Option.bind_some,Sum.elim_inl]
   have key:=zT? (step:=fun w=>bP m true (X,q,0) ((yP (mY X) l.length).map fun i=>(el l i).File,(yP (mY X) l.length).map fun i=>pC (el l i) (el X i) day) ((yP (mY X) l.length).length:Int) w) (fun i:Nat=>(i:Int)) m (fun _=>true) () ?_ ?_
   ·change iG m true (X,q,0) _ _ 0 = _ at key
    rw [key,nE.2 fun _ _=>rfl,if_pos rfl,Option.bind_some,Sum.elim_inl,if_pos trivial,if_pos (by simp),aJT,Option.bind_some]
    have:=aFl X
    simp [this]
   ·intro v hv
    show bP m true (X,q,0) _ _ v = _
    unfold bP
    have:=hk.nn
    have w3:IntKind.wrap .i64 ((v:Int) + 1) = ((v + 1:Nat):Int):=cD (by omega)
    rw [if_pos (by simpa using hv),aPs h9 hk b m day true _ _ hv,Option.bind_some,if_neg (by decide),w3]
    rfl
   ·show bP m true (X,q,0) _ _ m = _
    unfold bP
    rw [if_neg (by simp)]
end
end Go.Proofs.Ytgjcnbgfaimepaa
