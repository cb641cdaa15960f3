/- Lemmas on the answers. -/
import Derived.Test.YtoefdnkjcfoccaaDoorPConflict
import Derived.Test.YtoefdnkjcfoccaaDoorLoops3
namespace Go.Proofs.YtoefdnkjcfoccaaDoor
open Go.RowKit Vm
def oB (x:Int):Int:=if x > 0 then x else 0
theorem QD {α:Type} [Inhabited α] (l:List α) (i:Nat):l.set i (el l i) = l:=by
 apply ē
 intro j
 rw [Ę]
 by_cases h:i = j
 ·subst h
  by_cases hi:i < l.length
  ·simp [hi,C4 l i hi]
  ·simp [hi]
 ·simp [h]
theorem BW (a:List Int) (step:Int × List Int->Option ((Int × List Int) ⊕ List Int)) (ha:a.length < 9223372036854775807)
  (hs:∀ i xs,step (i,xs) = if decide (i < (a.length:Int)) = true then (if 0 <= i ∧ i.toNat < xs.length then (xs[i.toNat]?).bind fun x=>if 0 <= i ∧ i.toNat < xs.length then (xs[i.toNat]?).bind fun _=>some (.inl (IntKind.wrap .i64 (i + 1),xs.set i.toNat (if x > 0 then x else 0))) else none else none) else some (.inr xs)) :
  eJ step (0,a) = some (a.map oB):=by
 have key:∀ k,k <= a.length->eJ step (0,a) = eJ step ((k:Int),(a.take k).map oB ++ a.drop k):=by
  intro k
  induction k with
  | zero=>intro _; simp
  | succ k ih =>
   intro hk
   rw [ih (by omega)]
   refine pH ?_
   have hl:((a.take k).map oB ++ a.drop k).length = a.length:=by simp; omega
   have h0:(0:Int) <= (k:Int) ∧ (k:Int).toNat < ((a.take k).map oB ++ a.drop k).length:=by rw [hl]; omega
   have hg:((a.take k).map oB ++ a.drop k)[(k:Int).toNat]? = some a[k]:=by
    rw [å (by simp; omega)]
    simp [show min k a.length = k by omega,show k < a.length by omega]
   rw [hs]
   simp only [tN (show k < a.length by omega),Ë,Â h0,hg,À,b5 (show k < 9223372036854775807 by omega)]
   congr 3
   rw [List.set_append_right _ _ (by simp; omega)]
   simp only [ć,â,Ā,show min k a.length = k by omega,Nat.sub_self]
   rw [ď (show k < a.length by omega),List.set_cons_zero,đ (show k < a.length by omega),Ă,ç]
   rfl
 rw [key a.length (Õ _),jP (x:=a.map oB)]
 rw [hs]
 simp only [wR,È,ÿ,List.drop_length,ý]
def bW (p:List Int):Int:=el p (p.length - 1)
theorem hU (p:List Int) (x:Int):bW (p ++ [x]) = x:=by simp [bW,el]
theorem AP {X:Type} (p:List Int) (f:Int->Option X) (h1:0 < p.length) (h2:p.length < 1000):(if 0 <= (IntKind.wrap .i64 ((p.length:Int) - 1)) ∧ (IntKind.wrap .i64 ((p.length:Int) - 1)).toNat < p.length then (p[(IntKind.wrap .i64 ((p.length:Int) - 1)).toNat]?).bind f else none) = f (bW p):=by
 rw [CQ (by omega) (by omega),Â (by omega)]
 have:((p.length:Int) - 1).toNat = p.length - 1:=by omega
 rw [this,Ü (by omega)]
 simp only [À,bW,C4 p (p.length - 1) (by omega)]
theorem R7 {X:Type} (p:List Int) (i:Int) (f:Int->Option X) (h1:0 <= i) (h2:i.toNat < p.length):(if 0 <= i ∧ i.toNat < p.length then (p[i.toNat]?).bind f else none) = f (el p i.toNat):=by
 rw [Â ⟨h1,h2⟩,Ü h2,À,C4 p _ h2]
theorem aG8 (p:List Int) (x:Int) (h2:p.length < 1000):IntKind.wrap .i64 (((p ++ [x]).length:Int) - 1) = (p.length:Int):=by
 rw [CQ (by simp <;> omega) (by simp <;> omega)]
 simp
theorem sB (l:List Int) (h:l.length < 1000):aL l = some l:=by unfold aL; rw [Â (by omega)]
def PI (cs:List aQ) (ask:Int):Int × Bool:=(m6 (fun i=>if (el cs i).Ask = ask ∧ (el cs i).By ≠ 0 then some ((el cs i).By,(el cs i).Whole) else none) 0 cs.length).getD (0,false)
theorem M2 (o:aJ) (ask:Int) (h:o.Choices.length < 9223372036854775807):mI o ask = some (PI o.Choices ask):=by
 unfold mI PI
 have hl:uB o ask 0 = some (toS () (m6 (fun i=>if (el o.Choices i).Ask = ask ∧ (el o.Choices i).By ≠ 0 then some ((el o.Choices i).By,(el o.Choices i).Whole) else none) 0 o.Choices.length)):=by
  refine MX (step:=fun w=>iK o ask w) (fun i=>(i:Int)) _ _ _ ?_ ?_
  ·intro i hi
   simp only [iK,tN hi,Ë,fW _ _ hi,À,b5 (show i < 9223372036854775807 by omega),beq_iff_eq,bne_iff_ne]
   by_cases h1:(el o.Choices i).Ask = ask
   ·by_cases h2:(el o.Choices i).By ≠ 0
    ·rw [Â h1,Â h2,Â ⟨h1,h2⟩]
    ·rw [Â h1,Ã h2,Ã (fun q=>h2 q.2)]
   ·rw [Ã h1,Ã (fun q=>h1 q.1)]
  ·simp only [iK,wR,È]
 rw [hl]
 simp only [À,T2]
 cases m6 (fun i=>if (el o.Choices i).Ask = ask ∧ (el o.Choices i).By ≠ 0 then some ((el o.Choices i).By,(el o.Choices i).Whole) else none) 0 o.Choices.length <;> rfl
def j6 (o:aJ) (ask:Int):Bool:=(m6 (fun i=>if (el o.Rules i).Ask = ask then some (i:Int) else none) 0 o.Rules.length).isSome
theorem t8 (o:aJ) (ask:Int) (h:o.Rules.length < 9223372036854775807):eO o ask = some (j6 o ask):=by
 unfold eO cD cJ j6
 have hl:dH o.Rules ask 0 = some (toS () (m6 (fun i=>if (el o.Rules i).Ask = ask then some (i:Int) else none) 0 o.Rules.length)):=by
  refine MX (step:=fun w=>bG o.Rules ask w) (fun i=>(i:Int)) _ _ _ ?_ ?_
  ·intro i hi
   simp only [bG,nS,tN hi,Ë,fW _ _ hi,À,b5 (show i < 9223372036854775807 by omega),beq_iff_eq]
   by_cases h1:(el o.Rules i).Ask = ask
   ·rw [Â h1,Â h1]
   ·rw [Ã h1,Ã h1]
  ·simp only [bG,wR,È]
 rw [hl]
 simp only [À,T2]
 cases e:m6 (fun i=>if (el o.Rules i).Ask = ask then some (i:Int) else none) 0 o.Rules.length with
 | none=>rfl
 | some x =>
  obtain ⟨i,_,_,q,_⟩:=BL _ _ e
  split at q
  ·cases q; simp
  ·cases q
def BF (a b:Int):Int:=if a < b then -1 else if a > b then 1 else 0
def l9:List Int->List Int->Int
 | [],[]=>0
 | [],_ :: _=>-1
 | _ :: _,[]=>1
 | a :: p,b :: q=>if BF a b = 0 then l9 p q else BF a b
theorem RI (a b:List Int) (ha:a.length < 9223372036854775807):eG a b = some (l9 a b):=by
 unfold eG
 have key:∀ m k,k + m = a.length->k <= b.length->eJ (fun w=>bT a b w) (k:Int) = some (if m <= b.length - k ∧ l9 (a.drop k) ((b.drop k).take m) = 0 then .inl () else .inr (l9 (a.drop k) (b.drop k))):=by
  intro m
  induction m with
  | zero =>
   intro k hk hb
   obtain rfl:k = a.length:=by omega
   rw [jP (x:=.inl ()) (by simp only [bT,wR,È])]
   simp [l9]
  | succ m ih =>
   intro k hk hb
   have hk' : k < a.length:=by omega
   by_cases hkb:k < b.length
   ·have hd:a.drop k = el a k :: a.drop (k + 1):=by rw [C4 a k hk']; exact ď hk'
    have hd2:b.drop k = el b k :: b.drop (k + 1):=by rw [C4 b k hkb]; exact ď hkb
    by_cases hc:BF (el a k) (el b k) = 0
    ·rw [pH (s':=((k + 1:Nat):Int))]
     ·rw [ih (k + 1) (by omega) (by omega),hd,hd2]
      simp only [List.take_succ_cons,l9,hc,Ë]
      congr 1
      by_cases q:m <= b.length - (k + 1) ∧ l9 (List.drop (k + 1) a) (List.take m (List.drop (k + 1) b)) = 0
      ·rw [Â q,Â ⟨by omega,q.2⟩]
      ·rw [Ã q,Ã (fun q'=>q ⟨by omega,q'.2⟩)]
     ·simp only [bT,tN hk',Ë,fW _ _ hk',fW _ _ hkb,À,show ¬ ((k:Int) ≥ (b.length:Int)) by omega,decide_false,Æ,È,mJ,mX,bne_self_eq_false,Ñ,b5 (show k < 9223372036854775807 by omega)]
      unfold BF at hc
      split at hc
      ·cases hc
      ·split at hc
       ·cases hc
       ·rename_i h1 h2; simp [h1,h2]
    ·rw [jP (x:=.inr (BF (el a k) (el b k)))]
     ·rw [hd,hd2]
      simp only [List.take_succ_cons,l9,hc,È,and_false]
     ·simp only [bT,tN hk',Ë,fW _ _ hk',fW _ _ hkb,À,show ¬ ((k:Int) ≥ (b.length:Int)) by omega,decide_false,Æ,È,mJ,mX,bne_self_eq_false,Ñ]
      unfold BF at hc ⊢
      by_cases h1:el a k < el b k
      ·simp [h1]
      ·by_cases h2:el a k > el b k
       ·simp [h1,h2]
       ·simp [h1,h2] at hc
   ·obtain rfl:k = b.length:=by omega
    rw [jP (x:=.inr 1)]
    ·have hd:a.drop b.length = el a b.length :: a.drop (b.length + 1):=by rw [C4 a _ hk']; exact ď hk'
     rw [hd]
     simp [l9]
    ·simp only [bT,tN hk',Ë,fW _ _ hk',À,ge_iff_le,Int.le_refl,decide_true]
 have h0:i7 a b 0 = _:=key a.length 0 (by omega) (by omega)
 rw [h0]
 simp only [À,List.drop_zero,Nat.sub_zero]
 have fin:∀ (x y:List Int),x.length <= y.length->l9 x (y.take x.length) = 0->l9 x y = if (x.length:Int) < (y.length:Int) then -1 else 0:=by
  intro x
  induction x with
  | nil=>intro y h1 h2; cases y <;> simp [l9]
  | cons u x ih =>
   intro y h1 h2
   cases y with
   | nil=>simp at h1
   | cons v y =>
    simp only [Ø,List.take_succ_cons,l9] at h2 ⊢
    by_cases hc:BF u v = 0
    ·rw [Â hc] at h2 ⊢
     rw [ih y (by simpa using h1) h2]
     by_cases q:(x.length:Int) < (y.length:Int)
     ·rw [Â q,Â (by omega)]
     ·rw [Ã q,Ã (by omega)]
    ·rw [Ã hc] at h2; exact absurd h2 hc
 by_cases q:a.length <= b.length ∧ l9 a (b.take a.length) = 0
 ·rw [Â q,fin a b q.1 q.2]
  simp only [û,Ñ]
  split <;> rfl
 ·rw [Ã q]; rfl
def VO (a b:aA):Bool:=if a.Path.length ≠ b.Path.length then decide (a.Path.length < b.Path.length) else if l9 a.Path b.Path ≠ 0 then decide (l9 a.Path b.Path < 0) else decide (l9 a.Places b.Places < 0)
theorem A0 (a b:aA) (h1:a.Path.length < 1000) (h2:a.Places.length < 1000):bJ a b = some (VO a b):=by
 unfold bJ VO
 rw [RI _ _ (by omega),RI _ _ (by omega)]
 simp only [À,bne_iff_ne,ne_eq,Int.natCast_inj]
 by_cases q:a.Path.length = b.Path.length
 ·simp only [q,not_true_eq_false,È]
  by_cases q2:l9 a.Path b.Path = 0
  ·simp only [q2,not_true_eq_false,È]
  ·simp only [q2,not_false_eq_true,Ë]
 ·simp only [q,not_false_eq_true,Ë,Int.ofNat_lt]
def DH (b:Option aA) (h:aA):Option aA:=match b with
 | none=>some h
 | some x=>if VO h x = true then some h else some x
theorem aFW (b:Option aA) (h:aA) (h1:h.Path.length < 1000) (h2:h.Places.length < 1000):(if b.isNone = true then some (some h) else b.bind fun x=>(bJ h x).bind fun r=>if r = true then some (some h) else some b) = some (DH b h):=by
 cases b with
 | none=>rfl
 | some x =>
  simp only [Option.isNone_some,Æ,È,À,A0 _ _ h1 h2,DH]
  split <;> rfl
def aDd (bb:Option aA × Option aA) (h:aA):Option aA × Option aA:=if h.Kind = 0 then (DH bb.1 h,bb.2) else (bb.1,DH bb.2 h)
def rB (bb:Option aA × Option aA) (l:List aA):Option aA × Option aA:=l.foldl aDd bb
def lC (r:aB) (forum ask:Int) (cyc:Bool) (pl path:List Int):List aA :=
 if cyc = true then [aA.mk 1 forum ask (pl.map oB) path] else if j6 (el r.Orders (bW path).toNat) ask = true then [] else [aA.mk 0 forum ask (pl.map oB) path]
def dJ (r:aB) (ask last:Int):Int × Bool:=PI (el r.Orders last.toNat).Choices ask
def dU (r:aB) (forum ask:Int) (deep:List Int->List Int->List aA) (pl path:List Int) (next:Int):List aA :=
 let w:=dJ r ask (bW path)
 let pl':=pl.set w.1.toNat next
 if next = bW path then lC r forum ask false pl' path
 else if w.2 = true ∧ next ∉ path then deep pl' (path ++ [next])
 else lC r forum ask (w.2 && !qC r next) pl' (path ++ [next])
def gZ (r:aB) (forum ask:Int):Nat->List Int->List Int->List aA
 | 0,_,_=>[]
 | d + 1,pl,path =>
  let w:=dJ r ask (bW path)
  if w.1 = 0 then lC r forum ask false pl path
  else (List.range r.Orders.length).flatMap fun (k:Nat)=>if el pl w.1.toNat ≠ -1 ∧ el pl w.1.toNat ≠ (k:Int) then [] else dU r forum ask (gZ r forum ask d) pl path (k:Int)
structure qU (r:aB):Prop where
 few:r.Orders.length <= 3
 cs:∀ i,i < r.Orders.length->(el r.Orders i).Choices.length < 1000 ∧ (el r.Orders i).Rules.length < 1000
 by_:∀ i,i < r.Orders.length->∀ ask,0 <= (PI (el r.Orders i).Choices ask).1 ∧ (PI (el r.Orders i).Choices ask).1 < 5
structure CA (r:aB) (path:List Int) (m:Nat):Prop where
 len:path.length = m
 pos:0 < m
 nd:path.Nodup
 ins:∀ x ∈ path,0 <= x ∧ x < (r.Orders.length:Int)
theorem CA.last {r:aB} {path:List Int} {m:Nat} (h:CA r path m):0 <= bW path ∧ bW path < (r.Orders.length:Int) ∧ bW path ∈ path:=by
 have:bW path ∈ path:=GK _ _ (by have:=h.len; have:=h.pos; omega)
 exact ⟨(h.ins _ this).1,(h.ins _ this).2,this⟩
theorem CA.push {r:aB} {path:List Int} {m:Nat} (h:CA r path m) {k:Int} (h0:0 <= k) (h1:k < (r.Orders.length:Int)) (hn:k ∉ path):CA r (path ++ [k]) (m + 1) :=
 ⟨by simp [h.len],by omega,by
  rw [List.nodup_append]
  exact ⟨h.nd,by simp,fun a ha b hb=>by rcases í.1 hb with rfl; intro e; subst e; exact hn ha⟩,fun x hx=>by
  rcases Ó.1 hx with hx | hx
  ·exact h.ins x hx
  ·rcases í.1 hx with rfl; exact ⟨h0,h1⟩⟩
end Go.Proofs.YtoefdnkjcfoccaaDoor
