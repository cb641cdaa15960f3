/- What the functions of package conflict answer, as plain functions. -/
import Derived.Test.YtjjcaapdaldedaaPRealm
set_option linter.unusedVariables false
set_option linter.unusedSimpArgs false
namespace Go.Proofs.Ytjjcaapdaldedaa
open Go.RowKit Vm
theorem sE:∀ (n:Nat) (l:List Int),l.Nodup->(∀ x ∈ l,0 <= x ∧ x < (n:Int))->l.length <= n
 | 0,l,_,h=>by
  cases l with
  | nil=>simp
  | cons x l=>have:=h x (by simp); omega
 | n + 1,l,hd,h=>by
  by_cases hm:(n:Int) ∈ l
  ·have h1:=sE n (l.erase (n:Int)) (hd.erase _) (fun x hx=>by
    have hx':=(hd.mem_erase_iff).1 hx
    have:=h x hx'.2
    have hne:=hx'.1
    omega)
   rw [List.length_erase_of_mem hm] at h1
   omega
  ·have h1:=sE n l hd (fun x hx=>by
    have:=h x hx
    have hne:x ≠ (n:Int):=fun e=>hm (e ▸ hx)
    omega)
   omega
theorem DH (l:List Int) (x:Int) (hl:l.length < 9223372036854775807):b7 l x = some (decide (x ∈ l)):=by
 unfold b7 lY
 obtain ⟨z,hz,q1,q2⟩:=lD (step:=fun w=>dO l x w) (fun i=>(i:Int)) l.length (fun i=>el l i ≠ x) (fun z=>(z = .inl ()->∀ i,i < l.length->el l i ≠ x) ∧ ∀ k,z = .inr k->0 <= k ∧ x ∈ l) (by
  intro i hi
  simp only [dO,hZ hi,if_true,bQ _ _ hi,Option.bind_some,aS (show i < 9223372036854775807 by omega),beq_iff_eq]
  by_cases h:x = el l i
  ·exact .inr ⟨.inr (i:Int),by rw [if_pos h],fun _=>⟨(fun h=>nomatch h),fun k e=>by cases e; exact ⟨by omega,h ▸ JG l i hi⟩⟩⟩
  ·exact .inl ⟨by rw [if_neg h],fun e=>h e.symm⟩) (by
  refine ⟨.inl (),?_,fun h=>⟨fun _=>h,fun e h=>nomatch h⟩⟩
  simp only [dO,jG,if_false])
 have hz' : mP l x 0 = some z:=hz
 rw [hz']
 cases z with
 | inl u =>
  have:x ∉ l:=fun hm=>by
   obtain ⟨i,hi,e⟩:=aOj hm
   exact q1 rfl i hi e
  simp [this]
 | inr k =>
  obtain ⟨h1,h2⟩:=q2 k rfl
  simp [h1,h2]
theorem aGN (l:List Int) (n:Int) (hl:l.length < 9223372036854775807):∃ b,c8 l n = some b ∧ (b = false ↔ ∀ i,i < l.length->0 <= el l i ∧ el l i < n):=by
 unfold c8 gJ
 obtain ⟨z,hz,q1,q2⟩:=lD (step:=fun w=>bR l n w) (fun i=>(i:Int)) l.length (fun i=>0 <= el l i ∧ el l i < n) (fun z=>(z = .inl ()->∀ i,i < l.length->0 <= el l i ∧ el l i < n) ∧ ∀ k,z = .inr k->0 <= k ∧ ¬ ∀ i,i < l.length->0 <= el l i ∧ el l i < n) (by
  intro i hi
  simp only [bR,nV,hZ hi,if_true,bQ _ _ hi,Option.bind_some,aS (show i < 9223372036854775807 by omega),decide_eq_true_eq]
  by_cases h1:el l i < 0
  ·exact .inr ⟨.inr (i:Int),by simp [h1],fun _=>⟨(fun h=>nomatch h),fun k e=>by cases e; exact ⟨by omega,fun h=>by have:=h i hi; omega⟩⟩⟩
  by_cases h2:el l i ≥ n
  ·exact .inr ⟨.inr (i:Int),by simp [h1,h2],fun _=>⟨(fun h=>nomatch h),fun k e=>by cases e; exact ⟨by omega,fun h=>by have:=h i hi; omega⟩⟩⟩
  ·exact .inl ⟨by simp [h1,h2],by omega,by omega⟩) (by
  refine ⟨.inl (),?_,fun h=>⟨fun _=>h,fun e h=>nomatch h⟩⟩
  simp only [bR,jG,if_false])
 have hz' : iB l n 0 = some z:=hz
 rw [hz']
 cases z with
 | inl u=>exact ⟨false,by simp,by simpa using q1 rfl⟩
 | inr k =>
  obtain ⟨h1,h2⟩:=q2 k rfl
  exact ⟨true,by simp [h1],by simp only [Bool.true_eq_false,false_iff]; exact h2⟩
def BG (r:aA) (o ask:Int) (pl:List Int):Prop:=0 <= o ∧ o < r.Orders.length ∧ 0 <= ask ∧ ask < 22 ∧ pl.length = 5 ∧ ∀ i,i < 5->0 <= el pl i ∧ el pl i < r.Orders.length
theorem YY (r:aA) (o ask:Int) (pl:List Int) (hp:pl.length < 9223372036854775807):∃ b,oV r o ask pl = some b ∧ (b = true ↔ BG r o ask pl):=by
 unfold oV BG
 simp only [decide_eq_true_eq]
 by_cases h1:o < 0
 ·exact ⟨false,by simp [h1],by simp; intros; omega⟩
 by_cases h2:o ≥ (r.Orders.length:Int)
 ·exact ⟨false,by simp [h1,h2],by simp; intros; omega⟩
 by_cases h3:ask < 0
 ·exact ⟨false,by simp [h1,h2,h3],by simp; intros; omega⟩
 by_cases h4:ask ≥ 22
 ·exact ⟨false,by simp [h1,h2,h3,h4],by simp; intros; omega⟩
 by_cases h5:pl.length = 5
 ·obtain ⟨b,e,q⟩:=aGN pl r.Orders.length hp
  refine ⟨!b,by simp [h1,h2,h3,h4,h5,e],?_⟩
  have hb:((!b) = true) ↔ (b = false):=by cases b <;> simp
  rw [hb,q,h5]
  exact ⟨fun h=>⟨by omega,by omega,by omega,by omega,rfl,h⟩,fun h=>h.2.2.2.2.2⟩
 ·refine ⟨false,?_,by simp; intros; omega⟩
  have:((pl.length:Int) != 5) = true:=by simp; omega
  simp [h1,h2,h3,h4,this]
def K6 (cs:List aM) (ask:Int) (pl:List Int) (o:Int):Int × Bool :=
 eK (fun i=>if (el cs i).Ask = ask ∧ (el cs i).By ≠ 0 then some (el pl (el cs i).By.toNat,(el cs i).Whole) else none) (o,false) 0 cs.length
def bW (r:aA) (ask:Int) (pl:List Int) (o:Int):Int × Bool:=K6 (el r.Orders o.toNat).Choices ask pl o
def QY (r:aA):Prop:=∀ i,i < r.Orders.length->(el r.Orders i).Choices.length <= 40 ∧ ∀ j,j < (el r.Orders i).Choices.length->0 <= (el (el r.Orders i).Choices j).By ∧ (el (el r.Orders i).Choices j).By < 5
theorem aJk (r:aA) (o ask:Int) (pl:List Int) (hb:QY r) (hf:BG r o ask pl):pN r o ask pl = some (bW r ask pl o):=by
 obtain ⟨b,e,q⟩:=YY r o ask pl (by have:=hf.2.2.2.2.1; omega)
 obtain rfl:b = true:=q.2 hf
 obtain ⟨f1,f2,f3,f4,f5,f6⟩:=hf
 unfold pN
 rw [e,tK r.Orders o f1 (by omega)]
 simp only [Option.bind_some,Bool.not_true,Bool.false_eq_true,if_false]
 have ho:o.toNat < r.Orders.length:=by omega
 obtain ⟨hl,hby⟩:=hb o.toNat ho
 have hloop:sU o ask pl (el r.Orders o.toNat) 0 = some (eK (fun i=>if (el (el r.Orders o.toNat).Choices i).Ask = ask ∧ (el (el r.Orders o.toNat).Choices i).By ≠ 0 then some (.inr (el pl (el (el r.Orders o.toNat).Choices i).By.toNat,(el (el r.Orders o.toNat).Choices i).Whole)) else none) (.inl ()) 0 (el r.Orders o.toNat).Choices.length):=by
  refine DU (step:=fun w=>iE o ask pl (el r.Orders o.toNat) w) (fun i=>(i:Int)) _ _ _ ?_ ?_
  ·intro i hi
   obtain ⟨b1,b2⟩:=hby i hi
   simp only [iE,hZ hi,if_true,bQ _ _ hi,Option.bind_some,aS (show i < 9223372036854775807 by omega),beq_iff_eq,bne_iff_ne]
   by_cases h1:(el (el r.Orders o.toNat).Choices i).Ask = ask
   ·by_cases h2:(el (el r.Orders o.toNat).Choices i).By ≠ 0
    ·rw [if_pos h1,if_pos h2,tK pl _ b1 (by omega),if_pos ⟨h1,h2⟩]; rfl
    ·rw [if_pos h1,if_neg h2,if_neg (fun q=>h2 q.2)]
   ·rw [if_neg h1,if_neg (fun q=>h1 q.1)]
  ·simp only [iE,jG,if_false]
 rw [hloop]
 have key:∀ (m k:Nat),Sum.elim (fun _=>some (o,false)) (fun z10=>some (z10.1,z10.2)) (eK (fun i=>if (el (el r.Orders o.toNat).Choices i).Ask = ask ∧ (el (el r.Orders o.toNat).Choices i).By ≠ 0 then some (Sum.inr (el pl (el (el r.Orders o.toNat).Choices i).By.toNat,(el (el r.Orders o.toNat).Choices i).Whole)) else none) (Sum.inl ()) k m) = some (eK (fun i=>if (el (el r.Orders o.toNat).Choices i).Ask = ask ∧ (el (el r.Orders o.toNat).Choices i).By ≠ 0 then some (el pl (el (el r.Orders o.toNat).Choices i).By.toNat,(el (el r.Orders o.toNat).Choices i).Whole) else none) (o,false) k m):=by
  intro m
  induction m with
  | zero=>intro k; rfl
  | succ m ih =>
   intro k
   simp only [eK]
   by_cases h:(el (el r.Orders o.toNat).Choices k).Ask = ask ∧ (el (el r.Orders o.toNat).Choices k).By ≠ 0
   ·rw [if_pos h,if_pos h]; rfl
   ·rw [if_neg h,if_neg h]; exact ih (k + 1)
 exact key _ 0
theorem XK (r:aA) (o ask:Int) (pl:List Int) (hb:QY r) (hf:BG r o ask pl):0 <= (bW r ask pl o).1 ∧ (bW r ask pl o).1 < r.Orders.length:=by
 obtain ⟨f1,f2,f3,f4,f5,f6⟩:=hf
 unfold bW K6
 rcases A5 (fun i=>if (el (el r.Orders o.toNat).Choices i).Ask = ask ∧ (el (el r.Orders o.toNat).Choices i).By ≠ 0 then some (el pl (el (el r.Orders o.toNat).Choices i).By.toNat,(el (el r.Orders o.toNat).Choices i).Whole) else none) (o,false) (el r.Orders o.toNat).Choices.length 0 with ⟨h,_⟩ | ⟨i,x,h1,h2,h3,h4,_⟩
 ·rw [h]; exact ⟨f1,by omega⟩
 ·rw [h4]
  split at h3
  ·cases h3
   have:=(hb o.toNat (by omega)).2 i (by omega)
   exact f6 _ (by omega)
  ·cases h3
def NI (L:Int->Int × Bool) (acc:Int->Bool):Nat->List Int->Int × List Int
 | 0,p=>(99,p)
 | k + 1,p=>let last:=el p (p.length - 1)
  if (L last).1 = last then (0,p)
  else if (L last).2 = false then (0,p ++ [(L last).1])
  else if (L last).1 ∈ p then (if acc (L last).1 = true then (0,p ++ [(L last).1]) else (12,p ++ [(L last).1]))
  else NI L acc k (p ++ [(L last).1])
def qV (r:aA) (o:Int):Bool:=(el r.Orders o.toNat).Accepts
theorem aHG (r:aA) (ask:Int) (pl:List Int) (hb:QY r) (hn:r.Orders.length < 50) (ha:0 <= ask ∧ ask < 22) (hp:pl.length = 5 ∧ ∀ i,i < 5->0 <= el pl i ∧ el pl i < r.Orders.length) :
  ∀ (k:Nat) (p:List Int),p ≠ []->p.Nodup->(∀ x ∈ p,0 <= x ∧ x < (r.Orders.length:Int))->r.Orders.length + 1 = p.length + k->vV r ask pl p = some (NI (bW r ask pl) (qV r) k p):=by
 intro k
 induction k with
 | zero =>
  intro p hp0 hd hin hk
  have:=sE _ p hd hin
  omega
 | succ k ih =>
  intro p hp0 hd hin hk
  have hlen:0 < p.length:=by cases p with
   | nil=>exact absurd rfl hp0
   | cons x l=>simp
  have hle:=sE _ p hd hin
  have e1:IntKind.wrap .i64 ((p.length:Int) - 1) = ((p.length - 1:Nat):Int):=by rw [iA (by omega) (by omega)]; omega
  have hlast:el p (p.length - 1) ∈ p:=JG p _ (by omega)
  have hfq:BG r (el p (p.length - 1)) ask pl:=⟨(hin _ hlast).1,(hin _ hlast).2,ha.1,ha.2,hp.1,hp.2⟩
  have hnx:=XK r _ ask pl hb hfq
  have hstep:mD r ask pl p = some (if (bW r ask pl (el p (p.length - 1))).1 = el p (p.length - 1) then .inr (0,p)
    else if (bW r ask pl (el p (p.length - 1))).2 = false then .inr (0,p ++ [(bW r ask pl (el p (p.length - 1))).1])
    else if (bW r ask pl (el p (p.length - 1))).1 ∈ p then (if qV r (bW r ask pl (el p (p.length - 1))).1 = true then .inr (0,p ++ [(bW r ask pl (el p (p.length - 1))).1]) else .inr (12,p ++ [(bW r ask pl (el p (p.length - 1))).1]))
    else .inl (p ++ [(bW r ask pl (el p (p.length - 1))).1])):=by
   unfold mD
   rw [e1,if_pos ⟨by omega,by omega⟩]
   have e2:p[((p.length - 1:Nat):Int).toNat]? = some (el p (p.length - 1)):=by
    rw [Int.toNat_natCast,List.getElem?_eq_getElem (by omega),oO p _ (by omega)]
   rw [e2]
   simp only [Option.bind_some,aJk r _ ask pl hb hfq,DH p _ (by omega),beq_iff_eq]
   rw [if_pos (show (p.length + 1) * 8 <= 140737488355328 by omega)]
   generalize hL:bW r ask pl (el p (p.length - 1)) = L at hnx
   obtain ⟨nx,wh⟩:=L
   simp only at hnx ⊢
   by_cases h1:nx = el p (p.length - 1)
   ·rw [if_pos h1,if_pos h1]
   ·rw [if_neg h1,if_neg h1]
    cases wh with
    | false=>simp
    | true =>
     by_cases h2:nx ∈ p
     ·rw [tK r.Orders nx hnx.1 (by omega)]
      simp only [Bool.not_true,Bool.false_eq_true,if_false,decide_true,if_true,h2,Option.bind_some,Bool.true_eq_false,qV]
      by_cases h4:(el r.Orders nx.toNat).Accepts = true <;> simp [h4]
     ·simp [h2]
  unfold NI
  simp only
  by_cases h1:(bW r ask pl (el p (p.length - 1))).1 = el p (p.length - 1)
  ·rw [if_pos h1] at hstep ⊢
   exact fG hstep
  ·rw [if_neg h1] at hstep ⊢
   by_cases h2:(bW r ask pl (el p (p.length - 1))).2 = false
   ·rw [if_pos h2] at hstep ⊢
    exact fG hstep
   ·rw [if_neg h2] at hstep ⊢
    by_cases h3:(bW r ask pl (el p (p.length - 1))).1 ∈ p
    ·rw [if_pos h3] at hstep ⊢
     by_cases h4:qV r (bW r ask pl (el p (p.length - 1))).1 = true
     ·rw [if_pos h4] at hstep ⊢; exact fG hstep
     ·rw [if_neg h4] at hstep ⊢; exact fG hstep
    ·rw [if_neg h3] at hstep ⊢
     refine (l9 hstep).trans (ih _ (by simp) ?_ ?_ (by simp; omega))
     ·rw [List.nodup_append]
      exact ⟨hd,by simp,fun x hx y hy=>by simp at hy; subst hy; exact fun e=>h3 (e ▸ hx)⟩
     ·intro x hx
      rcases List.mem_append.1 hx with hx | hx
      ·exact hin x hx
      ·simp at hx; subst hx; exact hnx
def kL (r:aA) (forum ask:Int) (pl:List Int):Int × List Int:=NI (bW r ask pl) (qV r) r.Orders.length [forum]
theorem aN4 (r:aA) (forum ask:Int) (pl:List Int) (hb:QY r) (hn:r.Orders.length < 50) (hf:BG r forum ask pl) (h0:el pl 0 = forum):oL r forum ask pl = some ((kL r forum ask pl).2,(kL r forum ask pl).1):=by
 obtain ⟨b,e,q⟩:=YY r forum ask pl (by have:=hf.2.2.2.2.1; omega)
 obtain rfl:b = true:=q.2 hf
 obtain ⟨f1,f2,f3,f4,f5,f6⟩:=hf
 unfold oL
 have e0:at? pl 0 = some (el pl 0):=bQ pl 0 (by omega)
 rw [e,e0]
 simp only [Option.bind_some,h0,Bool.not_true,Bool.false_eq_true,if_false,bne_self_eq_false]
 rw [aHG r ask pl hb hn ⟨f3,f4⟩ ⟨f5,f6⟩ r.Orders.length [forum] (by simp) (by simp) (fun x hx=>by simp at hx; subst hx; exact ⟨f1,f2⟩) (by simp; omega)]
 rfl
theorem aKU (r:aA) (forum ask:Int) (pl:List Int) (hp:pl.length < 9223372036854775807) (hf:¬ (BG r forum ask pl ∧ el pl 0 = forum)):oL r forum ask pl = some ([],1):=by
 obtain ⟨b,e,q⟩:=YY r forum ask pl hp
 unfold oL
 rw [e]
 cases b with
 | false=>rfl
 | true =>
  have h1:=q.1 rfl
  have e0:at? pl 0 = some (el pl 0):=bQ pl 0 (by have:=h1.2.2.2.2.1; omega)
  have h2:el pl 0 ≠ forum:=fun e=>hf ⟨h1,e⟩
  rw [e0]
  simp [h2]
end Go.Proofs.Ytjjcaapdaldedaa
