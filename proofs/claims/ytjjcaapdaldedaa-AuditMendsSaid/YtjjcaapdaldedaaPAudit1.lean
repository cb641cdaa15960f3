/- search of package audit: the situations that it meets, as a list. Written by a program (paudit.py). -/
import Derived.Test.YtjjcaapdaldedaaPConflict
import Derived.Test.YtjjcaapdaldedaaLoops3
set_option linter.unusedVariables false
set_option linter.unusedSimpArgs false
namespace Go.Proofs.Ytjjcaapdaldedaa
open Go.RowKit Vm
def qU (x:Int):Int:=if x > 0 then x else 0
theorem MD {α:Type} [Inhabited α] (l:List α) (i:Nat):l.set i (el l i) = l:=by
 apply List.ext_getElem?
 intro j
 rw [List.getElem?_set]
 by_cases h:i = j
 ·subst h
  by_cases hi:i < l.length
  ·simp [hi,uM l i hi]
  ·simp [hi]
 ·simp [h]
theorem zY (a:List Int) (step:Int × List Int->Option ((Int × List Int) ⊕ List Int)) (ha:a.length < 9223372036854775807)
  (hs:∀ i xs,step (i,xs) = if decide (i < (a.length:Int)) = true then (if 0 <= i ∧ i.toNat < xs.length then (xs[i.toNat]?).bind fun x=>if 0 <= i ∧ i.toNat < xs.length then (xs[i.toNat]?).bind fun _=>some (.inl (IntKind.wrap .i64 (i + 1),xs.set i.toNat (if x > 0 then x else 0))) else none else none) else some (.inr xs)) :
  eO step (0,a) = some (a.map qU):=by
 have key:∀ k,k <= a.length->eO step (0,a) = eO step ((k:Int),(a.take k).map qU ++ a.drop k):=by
  intro k
  induction k with
  | zero=>intro _; simp
  | succ k ih =>
   intro hk
   rw [ih (by omega)]
   refine qV ?_
   have hl:((a.take k).map qU ++ a.drop k).length = a.length:=by simp; omega
   have h0:(0:Int) <= (k:Int) ∧ (k:Int).toNat < ((a.take k).map qU ++ a.drop k).length:=by rw [hl]; omega
   have hg:((a.take k).map qU ++ a.drop k)[(k:Int).toNat]? = some a[k]:=by
    rw [List.getElem?_append_right (by simp; omega)]
    simp [show min k a.length = k by omega,show k < a.length by omega]
   rw [hs]
   simp only [nG (show k < a.length by omega),if_true,if_pos h0,hg,Option.bind_some,bC (show k < 9223372036854775807 by omega)]
   congr 3
   rw [List.set_append_right _ _ (by simp; omega)]
   simp only [Int.toNat_natCast,List.length_map,List.length_take,show min k a.length = k by omega,Nat.sub_self]
   rw [List.drop_eq_getElem_cons (show k < a.length by omega),List.set_cons_zero,List.take_succ_eq_append_getElem (show k < a.length by omega),List.map_append,List.append_assoc]
   rfl
 rw [key a.length (Nat.le_refl _),mG (x:=a.map qU)]
 rw [hs]
 simp only [pA,if_false,List.take_length,List.drop_length,List.append_nil]
def bT (p:List Int):Int:=el p (p.length - 1)
theorem gE (p:List Int) (x:Int):bT (p ++ [x]) = x:=by simp [bT,el]
theorem DV {X:Type} (p:List Int) (f:Int->Option X) (h1:0 < p.length) (h2:p.length < 1000):(if 0 <= (IntKind.wrap .i64 ((p.length:Int) - 1)) ∧ (IntKind.wrap .i64 ((p.length:Int) - 1)).toNat < p.length then (p[(IntKind.wrap .i64 ((p.length:Int) - 1)).toNat]?).bind f else none) = f (bT p):=by
 rw [GR (by omega) (by omega),if_pos (by omega)]
 have:((p.length:Int) - 1).toNat = p.length - 1:=by omega
 rw [this,List.getElem?_eq_getElem (by omega)]
 simp only [Option.bind_some,bT,uM p (p.length - 1) (by omega)]
theorem OS {X:Type} (p:List Int) (i:Int) (f:Int->Option X) (h1:0 <= i) (h2:i.toNat < p.length):(if 0 <= i ∧ i.toNat < p.length then (p[i.toNat]?).bind f else none) = f (el p i.toNat):=by
 rw [if_pos ⟨h1,h2⟩,List.getElem?_eq_getElem h2,Option.bind_some,uM p _ h2]
theorem aDo (p:List Int) (x:Int) (h2:p.length < 1000):IntKind.wrap .i64 (((p ++ [x]).length:Int) - 1) = (p.length:Int):=by
 rw [GR (by simp <;> omega) (by simp <;> omega)]
 simp
theorem qY (l:List Int) (h:l.length < 1000):aE l = some l:=by unfold aE; rw [if_pos (by omega)]
def GC (cs:List aK) (ask:Int):Int × Bool:=(jX (fun i=>if (el cs i).Ask = ask ∧ (el cs i).By ≠ 0 then some ((el cs i).By,(el cs i).Whole) else none) 0 cs.length).getD (0,false)
theorem J8 (o:aC) (ask:Int) (h:o.Choices.length < 9223372036854775807):mA o ask = some (GC o.Choices ask):=by
 unfold mA GC
 have hl:sN o ask 0 = some (toS () (jX (fun i=>if (el o.Choices i).Ask = ask ∧ (el o.Choices i).By ≠ 0 then some ((el o.Choices i).By,(el o.Choices i).Whole) else none) 0 o.Choices.length)):=by
  refine EE (step:=fun w=>iJ o ask w) (fun i=>(i:Int)) _ _ _ ?_ ?_
  ·intro i hi
   simp only [iJ,nG hi,if_true,fI _ _ hi,Option.bind_some,bC (show i < 9223372036854775807 by omega),beq_iff_eq,bne_iff_ne]
   by_cases h1:(el o.Choices i).Ask = ask
   ·by_cases h2:(el o.Choices i).By ≠ 0
    ·rw [if_pos h1,if_pos h2,if_pos ⟨h1,h2⟩]
    ·rw [if_pos h1,if_neg h2,if_neg (fun q=>h2 q.2)]
   ·rw [if_neg h1,if_neg (fun q=>h1 q.1)]
  ·simp only [iJ,pA,if_false]
 rw [hl]
 simp only [Option.bind_some,VD]
 cases jX (fun i=>if (el o.Choices i).Ask = ask ∧ (el o.Choices i).By ≠ 0 then some ((el o.Choices i).By,(el o.Choices i).Whole) else none) 0 o.Choices.length <;> rfl
def jY (o:aC) (ask:Int):Bool:=(jX (fun i=>if (el o.Rules i).Ask = ask then some (i:Int) else none) 0 o.Rules.length).isSome
theorem sO (o:aC) (ask:Int) (h:o.Rules.length < 9223372036854775807):eW o ask = some (jY o ask):=by
 unfold eW bQ b8 jY
 have hl:dA o.Rules ask 0 = some (toS () (jX (fun i=>if (el o.Rules i).Ask = ask then some (i:Int) else none) 0 o.Rules.length)):=by
  refine EE (step:=fun w=>aY o.Rules ask w) (fun i=>(i:Int)) _ _ _ ?_ ?_
  ·intro i hi
   simp only [aY,nD,nG hi,if_true,fI _ _ hi,Option.bind_some,bC (show i < 9223372036854775807 by omega),beq_iff_eq]
   by_cases h1:(el o.Rules i).Ask = ask
   ·rw [if_pos h1,if_pos h1]
   ·rw [if_neg h1,if_neg h1]
  ·simp only [aY,pA,if_false]
 rw [hl]
 simp only [Option.bind_some,VD]
 cases e:jX (fun i=>if (el o.Rules i).Ask = ask then some (i:Int) else none) 0 o.Rules.length with
 | none=>rfl
 | some x =>
  obtain ⟨i,_,_,q,_⟩:=vV _ _ e
  split at q
  ·cases q; simp
  ·cases q
def ZA (a b:Int):Int:=if a < b then -1 else if a > b then 1 else 0
def FB:List Int->List Int->Int
 | [],[]=>0
 | [],_ :: _=>-1
 | _ :: _,[]=>1
 | a :: p,b :: q=>if ZA a b = 0 then FB p q else ZA a b
theorem N7 (a b:List Int) (ha:a.length < 9223372036854775807):eN a b = some (FB a b):=by
 unfold eN
 have key:∀ m k,k + m = a.length->k <= b.length->eO (fun w=>bL a b w) (k:Int) = some (if m <= b.length - k ∧ FB (a.drop k) ((b.drop k).take m) = 0 then .inl () else .inr (FB (a.drop k) (b.drop k))):=by
  intro m
  induction m with
  | zero =>
   intro k hk hb
   obtain rfl:k = a.length:=by omega
   rw [mG (x:=.inl ()) (by simp only [bL,pA,if_false])]
   simp [FB]
  | succ m ih =>
   intro k hk hb
   have hk' : k < a.length:=by omega
   by_cases hkb:k < b.length
   ·have hd:a.drop k = el a k :: a.drop (k + 1):=by rw [uM a k hk']; exact List.drop_eq_getElem_cons hk'
    have hd2:b.drop k = el b k :: b.drop (k + 1):=by rw [uM b k hkb]; exact List.drop_eq_getElem_cons hkb
    by_cases hc:ZA (el a k) (el b k) = 0
    ·rw [qV (s':=((k + 1:Nat):Int))]
     ·rw [ih (k + 1) (by omega) (by omega),hd,hd2]
      simp only [List.take_succ_cons,FB,hc,if_true]
      congr 1
      by_cases q:m <= b.length - (k + 1) ∧ FB (List.drop (k + 1) a) (List.take m (List.drop (k + 1) b)) = 0
      ·rw [if_pos q,if_pos ⟨by omega,q.2⟩]
      ·rw [if_neg q,if_neg (fun q'=>q ⟨by omega,q'.2⟩)]
     ·simp only [bL,nG hk',if_true,fI _ _ hk',fI _ _ hkb,Option.bind_some,show ¬ ((k:Int) ≥ (b.length:Int)) by omega,decide_false,Bool.false_eq_true,if_false,mD,mE,bne_self_eq_false,decide_eq_true_eq,bC (show k < 9223372036854775807 by omega)]
      unfold ZA at hc
      split at hc
      ·cases hc
      ·split at hc
       ·cases hc
       ·rename_i h1 h2; simp [h1,h2]
    ·rw [mG (x:=.inr (ZA (el a k) (el b k)))]
     ·rw [hd,hd2]
      simp only [List.take_succ_cons,FB,hc,if_false,and_false]
     ·simp only [bL,nG hk',if_true,fI _ _ hk',fI _ _ hkb,Option.bind_some,show ¬ ((k:Int) ≥ (b.length:Int)) by omega,decide_false,Bool.false_eq_true,if_false,mD,mE,bne_self_eq_false,decide_eq_true_eq]
      unfold ZA at hc ⊢
      by_cases h1:el a k < el b k
      ·simp [h1]
      ·by_cases h2:el a k > el b k
       ·simp [h1,h2]
       ·simp [h1,h2] at hc
   ·obtain rfl:k = b.length:=by omega
    rw [mG (x:=.inr 1)]
    ·have hd:a.drop b.length = el a b.length :: a.drop (b.length + 1):=by rw [uM a _ hk']; exact List.drop_eq_getElem_cons hk'
     rw [hd]
     simp [FB]
    ·simp only [bL,nG hk',if_true,fI _ _ hk',Option.bind_some,ge_iff_le,Int.le_refl,decide_true]
 have h0:iZ a b 0 = _:=key a.length 0 (by omega) (by omega)
 rw [h0]
 simp only [Option.bind_some,List.drop_zero,Nat.sub_zero]
 have fin:∀ (x y:List Int),x.length <= y.length->FB x (y.take x.length) = 0->FB x y = if (x.length:Int) < (y.length:Int) then -1 else 0:=by
  intro x
  induction x with
  | nil=>intro y h1 h2; cases y <;> simp [FB]
  | cons u x ih =>
   intro y h1 h2
   cases y with
   | nil=>simp at h1
   | cons v y =>
    simp only [List.length_cons,List.take_succ_cons,FB] at h2 ⊢
    by_cases hc:ZA u v = 0
    ·rw [if_pos hc] at h2 ⊢
     rw [ih y (by simpa using h1) h2]
     by_cases q:(x.length:Int) < (y.length:Int)
     ·rw [if_pos q,if_pos (by omega)]
     ·rw [if_neg q,if_neg (by omega)]
    ·rw [if_neg hc] at h2; exact absurd h2 hc
 by_cases q:a.length <= b.length ∧ FB a (b.take a.length) = 0
 ·rw [if_pos q,fin a b q.1 q.2]
  simp only [Sum.elim_inl,decide_eq_true_eq]
  split <;> rfl
 ·rw [if_neg q]; rfl
def W1 (a b:aA):Bool:=if a.Path.length ≠ b.Path.length then decide (a.Path.length < b.Path.length) else if FB a.Path b.Path ≠ 0 then decide (FB a.Path b.Path < 0) else decide (FB a.Places b.Places < 0)
theorem xT (a b:aA) (h1:a.Path.length < 1000) (h2:a.Places.length < 1000):bD a b = some (W1 a b):=by
 unfold bD W1
 rw [N7 _ _ (by omega),N7 _ _ (by omega)]
 simp only [Option.bind_some,bne_iff_ne,ne_eq,Int.natCast_inj]
 by_cases q:a.Path.length = b.Path.length
 ·simp only [q,not_true_eq_false,if_false]
  by_cases q2:FB a.Path b.Path = 0
  ·simp only [q2,not_true_eq_false,if_false]
  ·simp only [q2,not_false_eq_true,if_true]
 ·simp only [q,not_false_eq_true,if_true,Int.ofNat_lt]
def BI (b:Option aA) (h:aA):Option aA:=match b with
 | none=>some h
 | some x=>if W1 h x = true then some h else some x
theorem aDs (b:Option aA) (h:aA) (h1:h.Path.length < 1000) (h2:h.Places.length < 1000):(if b.isNone = true then some (some h) else b.bind fun x=>(bD h x).bind fun r=>if r = true then some (some h) else some b) = some (BI b h):=by
 cases b with
 | none=>rfl
 | some x =>
  simp only [Option.isNone_some,Bool.false_eq_true,if_false,Option.bind_some,xT _ _ h1 h2,BI]
  split <;> rfl
def R0 (bb:Option aA × Option aA) (h:aA):Option aA × Option aA:=if h.Kind = 0 then (BI bb.1 h,bb.2) else (bb.1,BI bb.2 h)
def pM (bb:Option aA × Option aA) (l:List aA):Option aA × Option aA:=l.foldl R0 bb
def jC (r:aB) (forum ask:Int) (cyc:Bool) (pl path:List Int):List aA :=
 if cyc = true then [aA.mk 1 forum ask (pl.map qU) path] else if jY (el r.Orders (bT path).toNat) ask = true then [] else [aA.mk 0 forum ask (pl.map qU) path]
def c8 (r:aB) (ask last:Int):Int × Bool:=GC (el r.Orders last.toNat).Choices ask
def dU (r:aB) (forum ask:Int) (deep:List Int->List Int->List aA) (pl path:List Int) (next:Int):List aA :=
 let w:=c8 r ask (bT path)
 let pl':=pl.set w.1.toNat next
 if next = bT path then jC r forum ask false pl' path
 else if w.2 = true ∧ next ∉ path then deep pl' (path ++ [next])
 else jC r forum ask (w.2 && !xL r next) pl' (path ++ [next])
def gH (r:aB) (forum ask:Int):Nat->List Int->List Int->List aA
 | 0,_,_=>[]
 | d + 1,pl,path =>
  let w:=c8 r ask (bT path)
  if w.1 = 0 then jC r forum ask false pl path
  else (List.range r.Orders.length).flatMap fun (k:Nat)=>if el pl w.1.toNat ≠ -1 ∧ el pl w.1.toNat ≠ (k:Int) then [] else dU r forum ask (gH r forum ask d) pl path (k:Int)
structure oV (r:aB):Prop where
 few:r.Orders.length <= 3
 cs:∀ i,i < r.Orders.length->(el r.Orders i).Choices.length < 1000 ∧ (el r.Orders i).Rules.length < 1000
 by_:∀ i,i < r.Orders.length->∀ ask,0 <= (GC (el r.Orders i).Choices ask).1 ∧ (GC (el r.Orders i).Choices ask).1 < 5
structure AF (r:aB) (path:List Int) (m:Nat):Prop where
 len:path.length = m
 pos:0 < m
 nd:path.Nodup
 ins:∀ x ∈ path,0 <= x ∧ x < (r.Orders.length:Int)
theorem AF.last {r:aB} {path:List Int} {m:Nat} (h:AF r path m):0 <= bT path ∧ bT path < (r.Orders.length:Int) ∧ bT path ∈ path:=by
 have:bT path ∈ path:=NE _ _ (by have:=h.len; have:=h.pos; omega)
 exact ⟨(h.ins _ this).1,(h.ins _ this).2,this⟩
theorem AF.push {r:aB} {path:List Int} {m:Nat} (h:AF r path m) {k:Int} (h0:0 <= k) (h1:k < (r.Orders.length:Int)) (hn:k ∉ path):AF r (path ++ [k]) (m + 1) :=
 ⟨by simp [h.len],by omega,by
  rw [List.nodup_append]
  exact ⟨h.nd,by simp,fun a ha b hb=>by rcases List.mem_singleton.1 hb with rfl; intro e; subst e; exact hn ha⟩,fun x hx=>by
  rcases List.mem_append.1 hx with hx | hx
  ·exact h.ins x hx
  ·rcases List.mem_singleton.1 hx with rfl; exact ⟨h0,h1⟩⟩
end Go.Proofs.Ytjjcaapdaldedaa
