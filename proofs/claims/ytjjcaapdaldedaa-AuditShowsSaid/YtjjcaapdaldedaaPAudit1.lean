/- search of package audit: the situations that it meets, as a list. Written by a program (paudit.py). -/
import Derived.Test.YtjjcaapdaldedaaPConflict
import Derived.Test.YtjjcaapdaldedaaLoops3
set_option linter.unusedVariables false
set_option linter.unusedSimpArgs false
namespace Go.Proofs.Ytjjcaapdaldedaa
open Go.RowKit Vm
def mG (x:Int):Int:=if x > 0 then x else 0
theorem HD {α:Type} [Inhabited α] (l:List α) (i:Nat):l.set i (el l i) = l:=by
 apply List.ext_getElem?
 intro j
 rw [List.getElem?_set]
 by_cases h:i = j
 ·subst h
  by_cases hi:i < l.length
  ·simp [hi,xC l i hi]
  ·simp [hi]
 ·simp [h]
theorem vF (a:List Int) (step:Int × List Int->Option ((Int × List Int) ⊕ List Int)) (ha:a.length < 9223372036854775807)
  (hs:∀ i xs,step (i,xs) = if decide (i < (a.length:Int)) = true then (if 0 <= i ∧ i.toNat < xs.length then (xs[i.toNat]?).bind fun x=>if 0 <= i ∧ i.toNat < xs.length then (xs[i.toNat]?).bind fun _=>some (.inl (IntKind.wrap .i64 (i + 1),xs.set i.toNat (if x > 0 then x else 0))) else none else none) else some (.inr xs)) :
  gB step (0,a) = some (a.map mG):=by
 have key:∀ k,k <= a.length->gB step (0,a) = gB step ((k:Int),(a.take k).map mG ++ a.drop k):=by
  intro k
  induction k with
  | zero=>intro _; simp
  | succ k ih =>
   intro hk
   rw [ih (by omega)]
   refine nQ ?_
   have hl:((a.take k).map mG ++ a.drop k).length = a.length:=by simp; omega
   have h0:(0:Int) <= (k:Int) ∧ (k:Int).toNat < ((a.take k).map mG ++ a.drop k).length:=by rw [hl]; omega
   have hg:((a.take k).map mG ++ a.drop k)[(k:Int).toNat]? = some a[k]:=by
    rw [List.getElem?_append_right (by simp; omega)]
    simp [show min k a.length = k by omega,show k < a.length by omega]
   rw [hs]
   simp only [rU (show k < a.length by omega),if_true,if_pos h0,hg,Option.bind_some,eO (show k < 9223372036854775807 by omega)]
   congr 3
   rw [List.set_append_right _ _ (by simp; omega)]
   simp only [Int.toNat_natCast,List.length_map,List.length_take,show min k a.length = k by omega,Nat.sub_self]
   rw [List.drop_eq_getElem_cons (show k < a.length by omega),List.set_cons_zero,List.take_succ_eq_append_getElem (show k < a.length by omega),List.map_append,List.append_assoc]
   rfl
 rw [key a.length (Nat.le_refl _),i5 (x:=a.map mG)]
 rw [hs]
 simp only [tX,if_false,List.take_length,List.drop_length,List.append_nil]
def eI (p:List Int):Int:=el p (p.length - 1)
theorem gO (p:List Int) (x:Int):eI (p ++ [x]) = x:=by simp [eI,el]
theorem AY {X:Type} (p:List Int) (f:Int->Option X) (h1:0 < p.length) (h2:p.length < 1000):(if 0 <= (IntKind.wrap .i64 ((p.length:Int) - 1)) ∧ (IntKind.wrap .i64 ((p.length:Int) - 1)).toNat < p.length then (p[(IntKind.wrap .i64 ((p.length:Int) - 1)).toNat]?).bind f else none) = f (eI p):=by
 rw [uP (by omega) (by omega),if_pos (by omega)]
 have:((p.length:Int) - 1).toNat = p.length - 1:=by omega
 rw [this,List.getElem?_eq_getElem (by omega)]
 simp only [Option.bind_some,eI,xC p (p.length - 1) (by omega)]
theorem I1 {X:Type} (p:List Int) (i:Int) (f:Int->Option X) (h1:0 <= i) (h2:i.toNat < p.length):(if 0 <= i ∧ i.toNat < p.length then (p[i.toNat]?).bind f else none) = f (el p i.toNat):=by
 rw [if_pos ⟨h1,h2⟩,List.getElem?_eq_getElem h2,Option.bind_some,xC p _ h2]
theorem WT (p:List Int) (x:Int) (h2:p.length < 1000):IntKind.wrap .i64 (((p ++ [x]).length:Int) - 1) = (p.length:Int):=by
 rw [uP (by simp <;> omega) (by simp <;> omega)]
 simp
theorem pI (l:List Int) (h:l.length < 1000):aQ l = some l:=by unfold aQ; rw [if_pos (by omega)]
def HE (cs:List cW) (ask:Int):Int × Bool:=(lN (fun i=>if (el cs i).Ask = ask ∧ (el cs i).By ≠ 0 then some ((el cs i).By,(el cs i).Whole) else none) 0 cs.length).getD (0,false)
theorem EX (o:b4) (ask:Int) (h:o.Choices.length < 9223372036854775807):lI o ask = some (HE o.Choices ask):=by
 unfold lI HE
 have hl:qN o ask 0 = some (toS () (lN (fun i=>if (el o.Choices i).Ask = ask ∧ (el o.Choices i).By ≠ 0 then some ((el o.Choices i).By,(el o.Choices i).Whole) else none) 0 o.Choices.length)):=by
  refine E2 (step:=fun w=>iI o ask w) (fun i=>(i:Int)) _ _ _ ?_ ?_
  ·intro i hi
   simp only [iI,rU hi,if_true,jO _ _ hi,Option.bind_some,eO (show i < 9223372036854775807 by omega),beq_iff_eq,bne_iff_ne]
   by_cases h1:(el o.Choices i).Ask = ask
   ·by_cases h2:(el o.Choices i).By ≠ 0
    ·rw [if_pos h1,if_pos h2,if_pos ⟨h1,h2⟩]
    ·rw [if_pos h1,if_neg h2,if_neg (fun q=>h2 q.2)]
   ·rw [if_neg h1,if_neg (fun q=>h1 q.1)]
  ·simp only [iI,tX,if_false]
 rw [hl]
 simp only [Option.bind_some,PD]
 cases lN (fun i=>if (el o.Choices i).Ask = ask ∧ (el o.Choices i).By ≠ 0 then some ((el o.Choices i).By,(el o.Choices i).Whole) else none) 0 o.Choices.length <;> rfl
def lP (o:b4) (ask:Int):Bool:=(lN (fun i=>if (el o.Rules i).Ask = ask then some (i:Int) else none) 0 o.Rules.length).isSome
theorem o9 (o:b4) (ask:Int) (h:o.Rules.length < 9223372036854775807):fZ o ask = some (lP o ask):=by
 unfold fZ eJ eU lP
 have hl:fD o.Rules ask 0 = some (toS () (lN (fun i=>if (el o.Rules i).Ask = ask then some (i:Int) else none) 0 o.Rules.length)):=by
  refine E2 (step:=fun w=>dN o.Rules ask w) (fun i=>(i:Int)) _ _ _ ?_ ?_
  ·intro i hi
   simp only [dN,mH,rU hi,if_true,jO _ _ hi,Option.bind_some,eO (show i < 9223372036854775807 by omega),beq_iff_eq]
   by_cases h1:(el o.Rules i).Ask = ask
   ·rw [if_pos h1,if_pos h1]
   ·rw [if_neg h1,if_neg h1]
  ·simp only [dN,tX,if_false]
 rw [hl]
 simp only [Option.bind_some,PD]
 cases e:lN (fun i=>if (el o.Rules i).Ask = ask then some (i:Int) else none) 0 o.Rules.length with
 | none=>rfl
 | some x =>
  obtain ⟨i,_,_,q,_⟩:=yK _ _ e
  split at q
  ·cases q; simp
  ·cases q
def SD (a b:Int):Int:=if a < b then -1 else if a > b then 1 else 0
def B6:List Int->List Int->Int
 | [],[]=>0
 | [],_ :: _=>-1
 | _ :: _,[]=>1
 | a :: p,b :: q=>if SD a b = 0 then B6 p q else SD a b
theorem IJ (a b:List Int) (ha:a.length < 9223372036854775807):fU a b = some (B6 a b):=by
 unfold fU
 have key:∀ m k,k + m = a.length->k <= b.length->gB (fun w=>eA a b w) (k:Int) = some (if m <= b.length - k ∧ B6 (a.drop k) ((b.drop k).take m) = 0 then .inl () else .inr (B6 (a.drop k) (b.drop k))):=by
  intro m
  induction m with
  | zero =>
   intro k hk hb
   obtain rfl:k = a.length:=by omega
   rw [i5 (x:=.inl ()) (by simp only [eA,tX,if_false])]
   simp [B6]
  | succ m ih =>
   intro k hk hb
   have hk' : k < a.length:=by omega
   by_cases hkb:k < b.length
   ·have hd:a.drop k = el a k :: a.drop (k + 1):=by rw [xC a k hk']; exact List.drop_eq_getElem_cons hk'
    have hd2:b.drop k = el b k :: b.drop (k + 1):=by rw [xC b k hkb]; exact List.drop_eq_getElem_cons hkb
    by_cases hc:SD (el a k) (el b k) = 0
    ·rw [nQ (s':=((k + 1:Nat):Int))]
     ·rw [ih (k + 1) (by omega) (by omega),hd,hd2]
      simp only [List.take_succ_cons,B6,hc,if_true]
      congr 1
      by_cases q:m <= b.length - (k + 1) ∧ B6 (List.drop (k + 1) a) (List.take m (List.drop (k + 1) b)) = 0
      ·rw [if_pos q,if_pos ⟨by omega,q.2⟩]
      ·rw [if_neg q,if_neg (fun q'=>q ⟨by omega,q'.2⟩)]
     ·simp only [eA,rU hk',if_true,jO _ _ hk',jO _ _ hkb,Option.bind_some,show ¬ ((k:Int) ≥ (b.length:Int)) by omega,decide_false,Bool.false_eq_true,if_false,lJ,lL,bne_self_eq_false,decide_eq_true_eq,eO (show k < 9223372036854775807 by omega)]
      unfold SD at hc
      split at hc
      ·cases hc
      ·split at hc
       ·cases hc
       ·rename_i h1 h2; simp [h1,h2]
    ·rw [i5 (x:=.inr (SD (el a k) (el b k)))]
     ·rw [hd,hd2]
      simp only [List.take_succ_cons,B6,hc,if_false,and_false]
     ·simp only [eA,rU hk',if_true,jO _ _ hk',jO _ _ hkb,Option.bind_some,show ¬ ((k:Int) ≥ (b.length:Int)) by omega,decide_false,Bool.false_eq_true,if_false,lJ,lL,bne_self_eq_false,decide_eq_true_eq]
      unfold SD at hc ⊢
      by_cases h1:el a k < el b k
      ·simp [h1]
      ·by_cases h2:el a k > el b k
       ·simp [h1,h2]
       ·simp [h1,h2] at hc
   ·obtain rfl:k = b.length:=by omega
    rw [i5 (x:=.inr 1)]
    ·have hd:a.drop b.length = el a b.length :: a.drop (b.length + 1):=by rw [xC a _ hk']; exact List.drop_eq_getElem_cons hk'
     rw [hd]
     simp [B6]
    ·simp only [eA,rU hk',if_true,jO _ _ hk',Option.bind_some,ge_iff_le,Int.le_refl,decide_true]
 have h0:iU a b 0 = _:=key a.length 0 (by omega) (by omega)
 rw [h0]
 simp only [Option.bind_some,List.drop_zero,Nat.sub_zero]
 have fin:∀ (x y:List Int),x.length <= y.length->B6 x (y.take x.length) = 0->B6 x y = if (x.length:Int) < (y.length:Int) then -1 else 0:=by
  intro x
  induction x with
  | nil=>intro y h1 h2; cases y <;> simp [B6]
  | cons u x ih =>
   intro y h1 h2
   cases y with
   | nil=>simp at h1
   | cons v y =>
    simp only [List.length_cons,List.take_succ_cons,B6] at h2 ⊢
    by_cases hc:SD u v = 0
    ·rw [if_pos hc] at h2 ⊢
     rw [ih y (by simpa using h1) h2]
     by_cases q:(x.length:Int) < (y.length:Int)
     ·rw [if_pos q,if_pos (by omega)]
     ·rw [if_neg q,if_neg (by omega)]
    ·rw [if_neg hc] at h2; exact absurd h2 hc
 by_cases q:a.length <= b.length ∧ B6 a (b.take a.length) = 0
 ·rw [if_pos q,fin a b q.1 q.2]
  simp only [Sum.elim_inl,decide_eq_true_eq]
  split <;> rfl
 ·rw [if_neg q]; rfl
def OB (a b:aA):Bool:=if a.Path.length ≠ b.Path.length then decide (a.Path.length < b.Path.length) else if B6 a.Path b.Path ≠ 0 then decide (B6 a.Path b.Path < 0) else decide (B6 a.Places b.Places < 0)
theorem uD (a b:aA) (h1:a.Path.length < 1000) (h2:a.Places.length < 1000):dP a b = some (OB a b):=by
 unfold dP OB
 rw [IJ _ _ (by omega),IJ _ _ (by omega)]
 simp only [Option.bind_some,bne_iff_ne,ne_eq,Int.natCast_inj]
 by_cases q:a.Path.length = b.Path.length
 ·simp only [q,not_true_eq_false,if_false]
  by_cases q2:B6 a.Path b.Path = 0
  ·simp only [q2,not_true_eq_false,if_false]
  ·simp only [q2,not_false_eq_true,if_true]
 ·simp only [q,not_false_eq_true,if_true,Int.ofNat_lt]
def yX (b:Option aA) (h:aA):Option aA:=match b with
 | none=>some h
 | some x=>if OB h x = true then some h else some x
theorem VU (b:Option aA) (h:aA) (h1:h.Path.length < 1000) (h2:h.Places.length < 1000):(if b.isNone = true then some (some h) else b.bind fun x=>(dP h x).bind fun r=>if r = true then some (some h) else some b) = some (yX b h):=by
 cases b with
 | none=>rfl
 | some x =>
  simp only [Option.isNone_some,Bool.false_eq_true,if_false,Option.bind_some,uD _ _ h1 h2,yX]
  split <;> rfl
def aCn (bb:Option aA × Option aA) (h:aA):Option aA × Option aA:=if h.Kind = 0 then (yX bb.1 h,bb.2) else (bb.1,yX bb.2 h)
def pE (bb:Option aA × Option aA) (l:List aA):Option aA × Option aA:=l.foldl aCn bb
def kB (r:aB) (forum ask:Int) (cyc:Bool) (pl path:List Int):List aA :=
 if cyc = true then [aA.mk 1 forum ask (pl.map mG) path] else if lP (el r.Orders (eI path).toNat) ask = true then [] else [aA.mk 0 forum ask (pl.map mG) path]
def fT (r:aB) (ask last:Int):Int × Bool:=HE (el r.Orders last.toNat).Choices ask
def fX (r:aB) (forum ask:Int) (deep:List Int->List Int->List aA) (pl path:List Int) (next:Int):List aA :=
 let w:=fT r ask (eI path)
 let pl':=pl.set w.1.toNat next
 if next = eI path then kB r forum ask false pl' path
 else if w.2 = true ∧ next ∉ path then deep pl' (path ++ [next])
 else kB r forum ask (w.2 && !tY r next) pl' (path ++ [next])
def iH (r:aB) (forum ask:Int):Nat->List Int->List Int->List aA
 | 0,_,_=>[]
 | d + 1,pl,path =>
  let w:=fT r ask (eI path)
  if w.1 = 0 then kB r forum ask false pl path
  else (List.range r.Orders.length).flatMap fun (k:Nat)=>if el pl w.1.toNat ≠ -1 ∧ el pl w.1.toNat ≠ (k:Int) then [] else fX r forum ask (iH r forum ask d) pl path (k:Int)
structure lY (r:aB):Prop where
 few:r.Orders.length <= 3
 cs:∀ i,i < r.Orders.length->(el r.Orders i).Choices.length < 1000 ∧ (el r.Orders i).Rules.length < 1000
 by_:∀ i,i < r.Orders.length->∀ ask,0 <= (HE (el r.Orders i).Choices ask).1 ∧ (HE (el r.Orders i).Choices ask).1 < 5
structure wA (r:aB) (path:List Int) (m:Nat):Prop where
 len:path.length = m
 pos:0 < m
 nd:path.Nodup
 ins:∀ x ∈ path,0 <= x ∧ x < (r.Orders.length:Int)
theorem wA.last {r:aB} {path:List Int} {m:Nat} (h:wA r path m):0 <= eI path ∧ eI path < (r.Orders.length:Int) ∧ eI path ∈ path:=by
 have:eI path ∈ path:=HJ _ _ (by have:=h.len; have:=h.pos; omega)
 exact ⟨(h.ins _ this).1,(h.ins _ this).2,this⟩
theorem wA.push {r:aB} {path:List Int} {m:Nat} (h:wA r path m) {k:Int} (h0:0 <= k) (h1:k < (r.Orders.length:Int)) (hn:k ∉ path):wA r (path ++ [k]) (m + 1) :=
 ⟨by simp [h.len],by omega,by
  rw [List.nodup_append]
  exact ⟨h.nd,by simp,fun a ha b hb=>by rcases List.mem_singleton.1 hb with rfl; intro e; subst e; exact hn ha⟩,fun x hx=>by
  rcases List.mem_append.1 hx with hx | hx
  ·exact h.ins x hx
  ·rcases List.mem_singleton.1 hx with rfl; exact ⟨h0,h1⟩⟩
end Go.Proofs.Ytjjcaapdaldedaa
