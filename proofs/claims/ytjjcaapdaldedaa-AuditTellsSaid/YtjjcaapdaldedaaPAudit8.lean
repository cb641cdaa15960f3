/- The reference of layer 20: what its functions answer. -/
import Derived.Test.YtjjcaapdaldedaaPAudit7
set_option linter.unusedVariables false
set_option linter.unusedSimpArgs false
namespace Go.Proofs.Ytjjcaapdaldedaa
open Go.RowKit Vm
theorem JO (a b:List Int) (hl:a.length < 9223372036854775807):eB a b = some (decide (a = b)):=by
 unfold eB
 by_cases h:a.length = b.length
 ·have:lS a b 0 = some (if j7 (fun i=>decide (el a i = el b i)) a.length = true then .inl () else .inr ()):=by
   refine g8? (step:=fun w=>dA a b w) (fun i=>(i:Int)) _ _ _ ?_ ?_
   ·intro i hi
    simp only [dA,hZ hi,if_true,bQ _ _ hi,bQ b i (by omega),Option.bind_some,aS (show i < 9223372036854775807 by omega),bne_iff_ne,decide_eq_true_eq]
    by_cases e:el a i = el b i <;> simp [e]
   ·simp only [dA,jG,if_false]
  rw [this,XG h]
  cases hd:decide (a = b) <;> simp [h]
 ·have:¬ a = b:=fun e=>h (by rw [e])
  have h' : ((a.length:Int) != (b.length:Int)) = true:=by simp; omega
  rw [if_pos h',decide_eq_false this]
theorem V9 (a b:List Int) (ha:a.length < 9223372036854775807):eO a b = some (decide (jH a b < 0)):=by
 unfold eO o7
 have key:∀ m k,k + m = a.length->k <= b.length->(b8 (fun w=>cH a b w) (k:Int)).bind (fun r=>Sum.elim (fun _=>some (decide ((a.length:Int) < (b.length:Int)))) (fun z=>some z) r) = some (decide (jH (a.drop k) (b.drop k) < 0)):=by
  intro m
  induction m with
  | zero =>
   intro k hk hb
   obtain rfl:k = a.length:=by omega
   rw [fG (x:=.inl ()) (by simp only [cH,jG,if_false])]
   simp only [Option.bind_some,Sum.elim_inl,List.drop_length]
   by_cases h:a.length < b.length
   ·rw [List.drop_eq_getElem_cons h]
    simp [jH,h]
   ·have:b.drop a.length = []:=List.drop_eq_nil_of_le (by omega)
    rw [this]
    simp [jH]; omega
  | succ m ih =>
   intro k hk hb
   have hk' : k < a.length:=by omega
   have hd:a.drop k = el a k :: a.drop (k + 1):=by rw [oO a k hk']; exact List.drop_eq_getElem_cons hk'
   by_cases hkb:k < b.length
   ·have hd2:b.drop k = el b k :: b.drop (k + 1):=by rw [oO b k hkb]; exact List.drop_eq_getElem_cons hkb
    by_cases hc:el a k = el b k
    ·have e1:jH (a.drop k) (b.drop k) = jH (a.drop (k + 1)) (b.drop (k + 1)):=by
      rw [hd,hd2]; simp only [jH]; rw [if_pos (by rw [hc]; exact SL _)]
     rw [e1,l9 (s':=((k + 1:Nat):Int)),ih (k + 1) (by omega) (by omega)]
     simp only [cH,hZ hk',hZ hkb,if_true,bQ _ _ hk',bQ _ _ hkb,Option.bind_some,hc,bne_self_eq_false,Bool.false_eq_true,if_false,aS (show k < 9223372036854775807 by omega)]
    ·have e1:jH (a.drop k) (b.drop k) = BK (el a k) (el b k):=by
      rw [hd,hd2]; simp only [jH]; rw [if_neg (fun e=>hc (DW e))]
     rw [e1,fG (x:=.inr (decide (el a k < el b k)))]
     ·simp only [Option.bind_some,Sum.elim_inr,CF]
     ·simp only [cH,hZ hk',hZ hkb,if_true,bQ _ _ hk',bQ _ _ hkb,Option.bind_some,bne_iff_ne,ne_eq,hc,not_false_eq_true]
   ·obtain rfl:k = b.length:=by omega
    rw [fG (x:=.inl ()) (by simp only [cH,hZ hk',jG,if_true,if_false]),hd]
    simp only [Option.bind_some,Sum.elim_inl,List.drop_length,jH]
    simp; omega
 have:=key a.length 0 (by omega) (by omega)
 simpa using this
theorem WV (a b:aB) (h1:a.Path.length < 1000) (h2:a.Places.length < 1000) (h3:b.Path.length < 1000):fS a b = some (TO a b):=by
 unfold fS TO
 rw [V9 _ _ (by omega),V9 _ _ (by omega),V9 _ _ (by omega)]
 simp only [Option.bind_some,bne_iff_ne,ne_eq,Int.natCast_inj]
 by_cases q:a.Path.length = b.Path.length
 ·simp only [q,not_true_eq_false,if_false]
  have hs:=DV a.Path b.Path
  by_cases q2:jH a.Path b.Path = 0
  ·have q3:jH b.Path a.Path = 0:=by omega
   simp [q2,q3]
  ·by_cases q3:jH a.Path b.Path < 0
   ·simp [q2,q3]
   ·have q4:jH b.Path a.Path < 0:=by omega
    simp [q2,q3,q4]
 ·simp only [q,not_false_eq_true,if_true,Int.ofNat_lt]
theorem aHP (o:aG) (ask:Int) (h:o.Rules.length < 9223372036854775807):∃ v,mA o ask = some v ∧ decide (v < 0) = !iM o ask:=by
 unfold mA iM
 have hl:o8 o ask 0 = some (toS () (lJ (fun i=>if (el o.Rules i).Ask = ask then some (i:Int) else none) 0 o.Rules.length)):=by
  refine B1 (step:=fun w=>fF o ask w) (fun i=>(i:Int)) _ _ _ ?_ ?_
  ·intro i hi
   simp only [fF,hZ hi,if_true,bQ _ _ hi,Option.bind_some,aS (show i < 9223372036854775807 by omega),beq_iff_eq]
   by_cases h1:(el o.Rules i).Ask = ask
   ·rw [if_pos h1,if_pos h1]
   ·rw [if_neg h1,if_neg h1]
  ·simp only [fF,jG,if_false]
 rw [hl]
 simp only [Option.bind_some,VA]
 cases e:lJ (fun i=>if (el o.Rules i).Ask = ask then some (i:Int) else none) 0 o.Rules.length with
 | none=>exact ⟨-1,rfl,rfl⟩
 | some x =>
  obtain ⟨i,_,_,q,_⟩:=zU _ _ e
  split at q
  ·cases q; exact ⟨_,rfl,by simp⟩
  ·cases q
theorem VS (r:aA) (ha:kM r) (q:Int) (P:List Int) (hP:∀ i,i < 5->0 <= el P i ∧ el P i < (r.Orders.length:Int)):∀ (k m:Nat) (path:List Int),zP r path m->k + m = r.Orders.length + 1 ->
  ∀ e p,NI (bW r q P) (qV r) k path = (e,p)->(e = 0 ∨ e = 12) ∧ 0 < p.length ∧ p.length <= r.Orders.length + 1 ∧ 0 <= aV p ∧ aV p < (r.Orders.length:Int)
 | 0,m,path,hp,hk,e,p,h=>by
  have hle:=sE _ _ hp.nd hp.ins
  have:=hp.len
  omega
 | k + 1,m,path,hp,hk,e,p,h=>by
  have hle:=sE _ _ hp.nd hp.ins
  have hlen:=hp.len
  have hpos:=hp.pos
  have hla:=hp.last
  have hby:=ha.by_ (aV path).toNat (by omega) q
  have hwd:OI (el r.Orders (aV path).toNat).Choices q = bL r q (aV path):=rfl
  rw [hwd] at hby
  have hin:0 <= (bW r q P (aV path)).1 ∧ (bW r q P (aV path)).1 < (r.Orders.length:Int):=by
   rw [TZ]
   by_cases h0:(bL r q (aV path)).1 = 0
   ·rw [if_pos h0]; exact ⟨hla.1,hla.2.1⟩
   ·rw [if_neg h0]; exact hP _ (by omega)
  rw [NI] at h
  have hlp:el path (path.length - 1) = aV path:=rfl
  simp only [hlp] at h
  have hout:∀ x,0 <= x ∧ x < (r.Orders.length:Int)->0 < (path ++ [x]).length ∧ (path ++ [x]).length <= r.Orders.length + 1 ∧ 0 <= aV (path ++ [x]) ∧ aV (path ++ [x]) < (r.Orders.length:Int):=by
   intro x hx
   rw [gQ]
   exact ⟨by simp,by simp; omega,hx.1,hx.2⟩
  by_cases h1:(bW r q P (aV path)).1 = aV path
  ·rw [if_pos h1] at h
   obtain ⟨rfl,rfl⟩ : (0:Int) = e ∧ path = p:=⟨congrArg Prod.fst h,congrArg Prod.snd h⟩
   exact ⟨.inl rfl,by omega,by omega,hla.1,hla.2.1⟩
  ·rw [if_neg h1] at h
   by_cases h2:(bW r q P (aV path)).2 = false
   ·rw [if_pos h2] at h
    obtain ⟨rfl,rfl⟩ : (0:Int) = e ∧ path ++ [(bW r q P (aV path)).1] = p:=⟨congrArg Prod.fst h,congrArg Prod.snd h⟩
    exact ⟨.inl rfl,hout _ hin⟩
   ·rw [if_neg h2] at h
    by_cases h3:(bW r q P (aV path)).1 ∈ path
    ·rw [if_pos h3] at h
     by_cases h4:qV r (bW r q P (aV path)).1 = true
     ·rw [if_pos h4] at h
      obtain ⟨rfl,rfl⟩ : (0:Int) = e ∧ path ++ [(bW r q P (aV path)).1] = p:=⟨congrArg Prod.fst h,congrArg Prod.snd h⟩
      exact ⟨.inl rfl,hout _ hin⟩
     ·rw [if_neg h4] at h
      obtain ⟨rfl,rfl⟩ : (12:Int) = e ∧ path ++ [(bW r q P (aV path)).1] = p:=⟨congrArg Prod.fst h,congrArg Prod.snd h⟩
      exact ⟨.inr rfl,hout _ hin⟩
    ·rw [if_neg h3] at h
     exact VS r ha q P hP k (m + 1) _ (hp.push hin.1 hin.2 h3) (by omega) e p h
theorem HB (r:aA) (ha:kM r) (f q:Int) (P:List Int) (hf:BG r f q P):((kL r f q P).1 = 0 ∨ (kL r f q P).1 = 12) ∧ 0 < (kL r f q P).2.length ∧ (kL r f q P).2.length <= r.Orders.length + 1 ∧ 0 <= aV (kL r f q P).2 ∧ aV (kL r f q P).2 < (r.Orders.length:Int):=by
 have hp:zP r [f] 1:=⟨rfl,by omega,by simp,fun x hx=>by rcases List.mem_singleton.1 hx with rfl; exact ⟨hf.1,hf.2.1⟩⟩
 exact VS r ha q P hf.2.2.2.2.2 r.Orders.length 1 [f] hp rfl _ _ rfl
def Q6 (r:aA) (f q:Int) (P:List Int):Int × List Int:=(if (kL r f q P).1 = 12 then 1 else if iM (el r.Orders (aV (kL r f q P).2).toNat) q = true then -1 else 0,(kL r f q P).2)
theorem aBt (r:aA) (hb:QY r) (hA:QQ r) (ha:kM r) (f q:Int) (P:List Int) (hf:BG r f q P) (h0:el P 0 = f):dL r f q P = some (Q6 r f q P):=by
 have hn:=ha.few
 obtain ⟨g1,g2,g3,g4,g5⟩:=HB r ha f q P hf
 unfold dL Q6
 rw [aDl r f q P hb hA (by omega) hf h0]
 simp only [Option.bind_some]
 rcases g1 with g1 | g1
 ·have hlast:at? (kL r f q P).2 (IntKind.wrap .i64 (((kL r f q P).2.length:Int) - 1)) = some (aV (kL r f q P).2):=by
   rw [iA (by omega) (by omega),tK _ _ (by omega) (by omega)]
   have:(((kL r f q P).2.length:Int) - 1).toNat = (kL r f q P).2.length - 1:=by omega
   rw [this]; rfl
  have hz:¬ ((((kL r f q P).2.length:Int) == 0) = true):=by simp; intro e; simp [e] at g2
  obtain ⟨v,v1,v2⟩:=aHP (el r.Orders (aV (kL r f q P).2).toNat) q (by have:=(ha.cs (aV (kL r f q P).2).toNat (by omega)).2; omega)
  simp only [g1,show ¬ (((0:Int) == 12) = true) by decide,show ¬ (((0:Int) != 0) = true) by decide,show ¬ ((0:Int) = 12) by decide,if_false,if_neg hz,hlast,Option.bind_some,tK _ _ g4 g5,v1,v2]
  cases iM (el r.Orders (aV (kL r f q P).2).toNat) q <;> rfl
 ·simp only [g1,beq_self_eq_true,if_true]
theorem aKh (r:aA) (f q:Int) (P:List Int) (hn:r.Orders.length < 50) (hp:P.length < 9223372036854775807) (h:¬ (BG r f q P ∧ el P 0 = f)):dL r f q P = some (-1,[]):=by
 unfold dL
 rw [aA6 r f q P hn hp h]
 rfl
theorem ZG (r:aA) (hb:QY r) (hA:QQ r) (ha:kM r) (hc:iL r = some 0) (hc2:dS r = some 0) (h:aB) (hl:h.Places.length <= 20):∃ b,fX r h = some b ∧ eS r h = some b:=by
 have hn:=ha.few
 by_cases hf:BG r h.Forum h.Ask h.Places ∧ el h.Places 0 = h.Forum
 ·obtain ⟨hf,h0⟩:=hf
  obtain ⟨g1,g2,g3,g4,g5⟩:=HB r ha _ _ _ hf
  refine ⟨_,aGH r hc hb ha h hf h0 (kL r h.Forum h.Ask h.Places).1 (kL r h.Forum h.Ask h.Places).2 rfl g1 ⟨g2,by omega⟩ ⟨g4,g5⟩,?_⟩
  unfold eS
  rw [hc2,aBt r hb hA ha _ _ _ hf h0]
  unfold Q6 aJt
  simp only [Option.bind_some,bne_self_eq_false,Bool.false_eq_true,if_false]
  rw [JO _ _ (by omega)]
  rcases g1 with g1 | g1
  ·simp only [g1,show ¬ ((0:Int) = 12) by decide,if_false]
   cases hr:iM (el r.Orders (aV (kL r h.Forum h.Ask h.Places).2).toNat) h.Ask with
   | true=>simp
   | false =>
    by_cases hk:h.Kind = 0
    ·simp [hk]
    ·have:¬ (0 = h.Kind):=fun e=>hk e.symm
     simp [hk,this]
  ·simp only [g1,if_true]
   by_cases hk:h.Kind = 1
   ·simp [hk]
   ·have:¬ (1 = h.Kind):=fun e=>hk e.symm
    simp [hk,this]
 ·refine ⟨false,?_,?_⟩
  ·unfold fX
   rw [hc,aKU r _ _ _ (by omega) hf]
   rfl
  ·unfold eS
   rw [hc2,aKh r _ _ _ (by omega) (by omega) hf]
   rfl
def TX (f:Int) (n i:Nat):List Int:=[f,((i % n:Nat):Int),((i / n % n:Nat):Int),((i / (n * n) % n:Nat):Int),((i / (n * n * n):Nat):Int)]
theorem YZ {n:Nat} (h:1 <= n) (h3:n <= 3):n = 1 ∨ n = 2 ∨ n = 3:=by omega
theorem aN8 {f:Int} {n i:Nat} (h:1 <= n) (h3:n <= 3) (hi:i < n * n * n * n) (hf:0 <= f ∧ f < (n:Int)):∀ j,j < 5->0 <= el (TX f n i) j ∧ el (TX f n i) j < (n:Int):=by
 intro j hj
 have h1:i % n < n:=Nat.mod_lt _ h
 have h2:i / n % n < n:=Nat.mod_lt _ h
 have h4:i / (n * n) % n < n:=Nat.mod_lt _ h
 have h5:i / (n * n * n) < n:=Nat.div_lt_of_lt_mul hi
 match j,hj with
 | 0,_=>exact hf
 | 1,_=>exact ⟨Int.natCast_nonneg _,by show ((i % n:Nat):Int) < n; omega⟩
 | 2,_=>exact ⟨Int.natCast_nonneg _,by show ((i / n % n:Nat):Int) < n; omega⟩
 | 3,_=>exact ⟨Int.natCast_nonneg _,by show ((i / (n * n) % n:Nat):Int) < n; omega⟩
 | 4,_=>exact ⟨Int.natCast_nonneg _,by show ((i / (n * n * n):Nat):Int) < n; omega⟩
theorem aHj {f:Int} {n:Nat} (h:1 <= n) (h3:n <= 3) {P:List Int} (h5:P.length = 5) (h0:el P 0 = f) (hP:∀ i,i < 5->0 <= el P i ∧ el P i < (n:Int)):∃ i,i < n * n * n * n ∧ TX f n i = P:=by
 match P,h5 with
 | [a,b,c,d,e],_ =>
  have e0:a = f:=h0
  have q1:0 <= b ∧ b < (n:Int):=hP 1 (by omega)
  have q2:0 <= c ∧ c < (n:Int):=hP 2 (by omega)
  have q3:0 <= d ∧ d < (n:Int):=hP 3 (by omega)
  have q4:0 <= e ∧ e < (n:Int):=hP 4 (by omega)
  subst e0
  refine ⟨b.toNat + n * (c.toNat + n * (d.toNat + n * e.toNat)),?_,?_⟩
  ·rcases YZ h h3 with rfl | rfl | rfl <;> omega
  ·unfold TX
   rcases YZ h h3 with rfl | rfl | rfl <;> (simp only [List.cons.injEq,true_and,and_true]; refine ⟨?_,?_,?_,?_⟩ <;> omega)
end Go.Proofs.Ytjjcaapdaldedaa
