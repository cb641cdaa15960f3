/- package audit: the holes are shown by their places, and stand in order: AuditShows. -/
import Derived.Test.YtjjcaapdaldedaaPAudit4
set_option linter.unusedVariables false
set_option linter.unusedSimpArgs false
namespace Go.Proofs.Ytjjcaapdaldedaa
open Go.RowKit Vm
theorem XO {a b:List Int} (hl:a.length = b.length) (h:∀ i,i < a.length->el a i = el b i):a = b:=by
 refine List.ext_getElem hl fun i h1 h2=>?_
 have:=h i h1
 rwa [xC _ _ h1,xC _ _ h2] at this
theorem V5 {a b:List Int} (hl:a.length = b.length):NT (fun i=>decide (el a i = el b i)) a.length = decide (a = b):=by
 rw [Bool.eq_iff_iff,F5,decide_eq_true_eq]
 simp only [decide_eq_true_eq]
 exact ⟨fun h=>XO hl h,fun h i hi=>by rw [h]⟩
theorem X4 (a b:List Int) (hl:a.length < 9223372036854775807):gI a b = some (decide (a = b)):=by
 unfold gI
 by_cases h:a.length = b.length
 ·have:j5 a b 0 = some (if NT (fun i=>decide (el a i = el b i)) a.length = true then .inl () else .inr ()):=by
   refine wT? (step:=fun w=>fH a b w) (fun i=>(i:Int)) _ _ _ ?_ ?_
   ·intro i hi
    simp only [fH,rU hi,if_true,jO _ _ hi,jO b i (by omega),Option.bind_some,eO (show i < 9223372036854775807 by omega),bne_iff_ne,decide_eq_true_eq]
    by_cases e:el a i = el b i <;> simp [e]
   ·simp only [fH,tX,if_false]
  rw [this,V5 h]
  cases hd:decide (a = b) <;> simp [h]
 ·have:¬ a = b:=fun e=>h (by rw [e])
  have h' : ((a.length:Int) != (b.length:Int)) = true:=by simp; omega
  rw [if_pos h',decide_eq_false this]
def J9 (r:aB) (h:aA) (e:Int) (p:List Int):Bool:=decide (p = h.Path) && (if e = 12 then decide (h.Kind = 1) else decide (h.Kind = 0) && !lP (el r.Orders (eI p).toNat) h.Ask)
theorem G1 (r:aB) (hc:lG r = some 0) (hb:WL r) (ha:lY r) (h:aA) (hq:H5 r h.Forum h.Ask h.Places) (h0:el h.Places 0 = h.Forum) (e:Int) (p:List Int)
  (hl:PX r h.Forum h.Ask h.Places = (e,p)) (he:e = 0 ∨ e = 12) (hp:0 < p.length ∧ p.length < 1000) (hi:0 <= eI p ∧ eI p < (r.Orders.length:Int)):fR r h = some (J9 r h e p):=by
 have hL:=aGQ r h.Forum h.Ask h.Places hb (by have:=ha.few; omega) hq h0
 rw [hl] at hL
 have hlast:at? p (IntKind.wrap .i64 ((p.length:Int) - 1)) = some (eI p):=by
  rw [uP (by omega) (by omega),rT p _ (by omega) (by omega)]
  have:((p.length:Int) - 1).toNat = p.length - 1:=by omega
  rw [this]; rfl
 have hord:=ha.cs (eI p).toNat (by omega)
 have hj:mB r h (p,e) = some (if e = 12 then decide (h.Kind = 1) else decide (h.Kind = 0) && !lP (el r.Orders (eI p).toNat) h.Ask):=by
  unfold mB
  rcases he with rfl | rfl
  ·simp only [show ¬ (((0:Int) == 12) = true) by decide,if_false,show ¬ ((0:Int) = 12) by decide,beq_iff_eq]
   by_cases hk:h.Kind = 0
   ·simp only [hk,Bool.false_eq_true,if_false,if_true,hlast,Option.bind_some,rT _ _ hi.1 hi.2,o9 _ _ (show (el r.Orders (eI p).toNat).Rules.length < 9223372036854775807 by omega),decide_true,Bool.true_and]
   ·simp only [hk,Bool.false_eq_true,if_false,decide_false,Bool.false_and]
  ·simp only [beq_self_eq_true,if_true]
   rw [Bool.beq_eq_decide_eq]
 unfold fR
 simp only [hc,hL,Option.bind_some,bne_self_eq_false,Bool.false_eq_true,if_false,X4 p h.Path (by omega),hj]
 unfold J9
 rcases he with rfl | rfl
 ·simp only [bne_self_eq_false,Bool.false_eq_true,if_false]
  by_cases hp2:p = h.Path
  ·simp [hp2]
  ·simp [hp2]
 ·simp only [show ((12:Int) != 0) = true from rfl,if_true,bne_self_eq_false,Bool.false_eq_true,if_false]
  by_cases hp2:p = h.Path
  ·simp [hp2]
  ·simp [hp2]
theorem aAU {r:aB} (f:NR r) (h:NU r):WL r:=fun i hi=>⟨(f.orderL i hi).1,(h.orders.2 i hi).by_⟩
theorem ZC (r:aB) (ha:lY r) (f:Int) (hf:0 <= f ∧ f < (r.Orders.length:Int)) (q:Int) {h:aA} (e:h ∈ NC r f q):∃ pl',OI r f q r.Orders.length [f] [f,-1,-1,-1,-1] h pl':=by
 have hp:wA r [f] 1:=⟨rfl,by omega,by simp,fun x hx=>by rcases List.mem_singleton.1 hx with rfl; exact hf⟩
 refine KZ r ha f q 3 _ _ 1 r.Orders.length hp rfl rfl (fun i hi=>?_) h e
 match i,hi with
 | 0,_=>exact .inr hf
 | 1,_=>exact .inl rfl
 | 2,_=>exact .inl rfl
 | 3,_=>exact .inl rfl
 | 4,_=>exact .inl rfl
theorem aC8 {l:List Int} (i:Nat) (h:i < l.length):el (l.map mG) i = mG (el l i):=by simp [el,h]
theorem UF {r:aB} {f q:Int} (hf:0 <= f ∧ f < (r.Orders.length:Int)) (hq:0 <= q ∧ q < 22) {h:aA} {pl' : List Int} (s:OI r f q r.Orders.length [f] [f,-1,-1,-1,-1] h pl') :
  H5 r h.Forum h.Ask h.Places ∧ el h.Places 0 = h.Forum ∧ PX r h.Forum h.Ask h.Places = (if h.Kind = 1 then 12 else 0,h.Path):=by
 have hlen:=s.len
 have hpos:∀ i,i < 5->el h.Places i = mG (el pl' i):=fun i hi=>by rw [s.places,aC8 i (by omega)]
 have h0:el pl' 0 = f:=by
  have:=s.ext 0 (by omega) (by show f ≠ -1; omega)
  exact this
 have h0' : el h.Places 0 = h.Forum:=by
  rw [hpos 0 (by omega),h0,s.forum]
  unfold mG; split <;> omega
 refine ⟨⟨by rw [s.forum]; exact hf.1,by rw [s.forum]; exact hf.2,by rw [s.ask]; exact hq.1,by rw [s.ask]; exact hq.2,by rw [s.places]; simp [hlen],fun i hi=>?_⟩,h0',?_⟩
 ·rw [hpos i hi]
  have:=s.ins i hi
  unfold mG; split <;> omega
 ·unfold PX
  rw [s.forum,s.ask]
  refine s.law _ fun i hi=>?_
  rw [hpos i hi]
  have:=s.ins i hi
  unfold mG; split <;> omega
theorem YE {r:aB} {h:aA} (e:h ∈ gA r):∃ f q:Nat,f < r.Orders.length ∧ q < 22 ∧ h ∈ tG (uA r f q):=by
 obtain ⟨f,hf,e⟩:=List.mem_flatMap.1 e
 obtain ⟨q,hq,e⟩:=List.mem_flatMap.1 e
 exact ⟨f,q,List.mem_range.1 hf,List.mem_range.1 hq,e⟩
def upH (a b:aA):Prop:=a.Forum < b.Forum ∨ a.Forum = b.Forum ∧ (a.Ask < b.Ask ∨ a.Ask = b.Ask ∧ a.Kind < b.Kind)
theorem aAO (r:aB) (ha:lY r):(gA r).Pairwise upH:=by
 have hfq:∀ (f:Nat),f < r.Orders.length->∀ (q:Nat) (h:aA),h ∈ tG (uA r f q)->h.Forum = (f:Int) ∧ h.Ask = (q:Int) ∧ (h.Kind = 0 ∨ h.Kind = 1):=by
  intro f hf q h e
  obtain ⟨pl',s⟩:=ZC r ha (f:Int) ⟨by omega,by omega⟩ (q:Int) (QC e).1
  exact ⟨s.forum,s.ask,s.kind⟩
 unfold gA
 rw [List.pairwise_flatMap]
 refine ⟨fun f hf=>?_,?_⟩
 ·have hf':=List.mem_range.1 hf
  unfold LC
  rw [List.pairwise_flatMap]
  refine ⟨fun q hq=>?_,?_⟩
  ·unfold tG
   cases e1:(uA r f q).1 with
   | none=>cases e2:(uA r f q).2 <;> simp
   | some a =>
    cases e2:(uA r f q).2 with
    | none=>simp
    | some b =>
     have ma:a ∈ tG (uA r f q):=by simp [tG,e1]
     have mb:b ∈ tG (uA r f q):=by simp [tG,e2]
     have qa:=hfq f hf' q a ma
     have qb:=hfq f hf' q b mb
     have ka:a.Kind = 0:=by
      rcases (F3 (NC r f q) (none,none) a).1 e1 with c | c
      ·cases c
      ·exact c.2
     have kb:b.Kind ≠ 0:=by
      rcases (F3 (NC r f q) (none,none) b).2 e2 with c | c
      ·cases c
      ·exact c.2
     have:upH a b:=.inr ⟨by rw [qa.1,qb.1],.inr ⟨by rw [qa.2.1,qb.2.1],by have:=qb.2.2; omega⟩⟩
     simpa using this
  ·refine List.pairwise_lt_range.imp_of_mem fun {q q'} hq hq' hlt x hx y hy=>?_
   have a:=hfq f hf' q x hx
   have b:=hfq f hf' q' y hy
   exact .inr ⟨by rw [a.1,b.1],.inl (by rw [a.2.1,b.2.1]; omega)⟩
 ·refine List.pairwise_lt_range.imp_of_mem fun {f f'} hf hf' hlt x hx y hy=>?_
  obtain ⟨q,_,hx⟩:=List.mem_flatMap.1 hx
  obtain ⟨q',_,hy⟩:=List.mem_flatMap.1 hy
  have a:=hfq f (List.mem_range.1 hf) q x hx
  have b:=hfq f' (List.mem_range.1 hf') q' y hy
  exact .inl (by rw [a.1,b.1]; omega)
theorem aHE (r:aB) (ha:lY r) (i:Nat) (h0:0 < i) (hi:i < (gA r).length):upH (el (gA r) (i - 1)) (el (gA r) i):=by
 have:=List.pairwise_iff_getElem.1 (aAO r ha) (i - 1) i (by omega) hi (by omega)
 rwa [← xC _ _ (by omega:i - 1 < (gA r).length),← xC _ _ hi] at this
theorem TN (r:aB):∃ b,kM r = some b ∧ (b = true->NR r ∧ r.Orders.length <= 3):=by
 obtain ⟨b,e,h⟩:=aBg r
 unfold kM
 rw [e]
 cases b with
 | false=>exact ⟨false,rfl,fun h=>nomatch h⟩
 | true =>
  refine ⟨decide ((r.Orders.length:Int) <= 3),rfl,fun q=>⟨h rfl,?_⟩⟩
  have:=of_decide_eq_true q
  omega
theorem YG (r:aB) (fw:NR r) (w:aB.wf r) (hn:r.Orders.length <= 3) {e:Int} (h:lF r = some (if e = 0 then gA r else [],e)):lH r = some (decide (e = 0) && decide ((gA r).length = 0)):=by
 unfold lH
 rw [h]
 simp only [Option.bind_some,beq_iff_eq]
 by_cases h0:e = 0
 ·subst h0
  simp only [if_true,decide_true,Bool.true_and]
  rw [Bool.beq_eq_decide_eq]
  congr 1
  simp
 ·simp only [h0,if_false,decide_false,Bool.false_and]
theorem OH (hs:hJ = some true) (r:aB) (which:Int) (w:aB.wf r) (wi:0 <= which ∧ which < 256):iD r which = some true:=by
 unfold iD
 obtain ⟨b,e1,hb⟩:=TN r
 rw [hs,e1]
 simp only [Option.bind_some]
 cases b with
 | false=>rfl
 | true =>
  obtain ⟨fw,hn⟩:=hb rfl
  simp only [Bool.not_true,Bool.false_eq_true,if_false]
  obtain ⟨e,h1,hc,hr⟩:=WY r fw w hn
  rw [h1]
  simp only [Option.bind_some,bne_iff_ne,ne_eq]
  by_cases h0:e = 0
  ·subst h0
   have hr:=hr rfl
   have ha:=MG fw hr hn
   have hbo:=aAU fw hr
   simp only [not_true_eq_false,if_false,if_true]
   by_cases hz:(gA r).length = 0
   ·simp [hz]
   ·have hzi:¬ (((gA r).length:Int) == 0) = true:=by simp; intro q; simp [q] at hz
    rw [if_neg hzi]
    -- what is known of each
    have hsh:∀ h,h ∈ gA r->∃ pl',∃ f q:Int,(0 <= f ∧ f < (r.Orders.length:Int)) ∧ (0 <= q ∧ q < 22) ∧ OI r f q r.Orders.length [f] [f,-1,-1,-1,-1] h pl':=by
     intro h hm
     obtain ⟨f,q,hf,hq,e⟩:=YE hm
     obtain ⟨pl',s⟩:=ZC r ha (f:Int) ⟨by omega,by omega⟩ (q:Int) (QC e).1
     exact ⟨pl',f,q,⟨by omega,by omega⟩,⟨by omega,by omega⟩,s⟩
    have hown:∀ h,h ∈ gA r->fR r h = some true:=by
     intro h hm
     obtain ⟨pl',f,q,hf,hq,s⟩:=hsh h hm
     obtain ⟨a1,a2,a3⟩:=UF hf hq s
     have hsrt:=s.short
     have hli:=s.lastIn
     rw [G1 r hc hbo ha h a1 a2 _ _ a3 (by rcases s.kind with k | k <;> simp [k]) ⟨hli.2.2,by omega⟩ ⟨hli.1,hli.2.1⟩]
     unfold J9
     rcases s.kind with k | k
     ·have:=s.gap k
      rw [s.ask]
      simp [k,this]
     ·simp [k]
    have hloop:gK r which true (gA r,0) 0 = some (.inl ()):=by
     have hlen:(gA r).length < 9223372036854775807:=by
      have h22:∀ f:Nat,(LC r f).length <= 44:=fun f=>AW (fun (q:Nat)=>tG (uA r f q)) 2 (fun q=>JY _) (List.range 22)
      have:=AW (fun (f:Nat)=>LC r f) 44 h22 (List.range r.Orders.length)
      simp only [List.length_range] at this
      unfold gA
      omega
     unfold gK
     refine wT (step:=fun w=>eT r which true (gA r,0) w) (fun i=>(i:Int)) (gA r).length _ ?_ ?_
     ·intro i hi
      simp only [eT,rU hi,if_true,jO _ _ hi,Option.bind_some,hown _ (HJ _ _ hi),Bool.not_true,Bool.false_eq_true,if_false,eO (show i < 9223372036854775807 by omega)]
      by_cases hi0:0 < i
      ·have hd:decide ((i:Int) > 0) = true:=by simp; omega
       have hw1:IntKind.wrap .i64 ((i:Int) - 1) = ((i - 1:Nat):Int):=by rw [uP (by omega) (by omega)]; omega
       rw [if_pos hd,hw1,jO _ _ (by omega)]
       simp only [Option.bind_some,decide_eq_true_eq,beq_iff_eq]
       have hu:=aHE r ha i hi0 hi
       unfold upH at hu
       by_cases c1:(el (gA r) (i - 1)).Forum < (el (gA r) i).Forum
       ·rw [if_pos c1]
       ·rw [if_neg c1]
        have c2:(el (gA r) (i - 1)).Forum = (el (gA r) i).Forum:=by omega
        rw [if_pos c2]
        by_cases c3:(el (gA r) (i - 1)).Ask < (el (gA r) i).Ask
        ·rw [if_pos c3]
        ·rw [if_neg c3,if_pos (by omega)]
         have c4:(el (gA r) (i - 1)).Kind < (el (gA r) i).Kind:=by omega
         simp [c4]
      ·have hd:¬ decide ((i:Int) > 0) = true:=by simp; omega
       rw [if_neg hd]
     ·simp only [eT,tX,if_false]
    rw [hloop]
    simp only [Option.bind_some,Sum.elim_inl]
    have hzz:¬ (((gA r).length:Int) = 0):=by omega
    rw [if_neg hzz,uP (by omega) (by omega)]
    have hm0:0 <= which.tmod ((gA r).length:Int):=Int.tmod_nonneg _ wi.1
    have hm1:which.tmod ((gA r).length:Int) < ((gA r).length:Int):=Int.tmod_lt_of_pos _ (by omega)
    rw [rT _ _ hm0 hm1]
    simp only [Option.bind_some]
    have hmem:el (gA r) (which.tmod ((gA r).length:Int)).toNat ∈ gA r:=HJ _ _ (by omega)
    generalize el (gA r) (which.tmod ((gA r).length:Int)).toNat = x at hmem
    obtain ⟨pl',f,q,hf,hq,s⟩:=hsh x hmem
    obtain ⟨a1,a2,a3⟩:=UF hf hq s
    have hsrt:=s.short
    have hli:=s.lastIn
    rw [if_pos (by omega),if_pos (by simp; omega)]
    have hS1:=G1 r hc hbo ha (aA.mk x.Kind x.Forum x.Ask x.Places ((([]:List Int) ++ x.Path) ++ [0])) a1 a2 _ _ a3 (by rcases s.kind with k | k <;> simp [k]) ⟨hli.2.2,by omega⟩ ⟨hli.1,hli.2.1⟩
    have hf1:J9 r (aA.mk x.Kind x.Forum x.Ask x.Places ((([]:List Int) ++ x.Path) ++ [0])) (if x.Kind = 1 then 12 else 0) x.Path = false:=by
     unfold J9
     have:¬ (x.Path = (([]:List Int) ++ x.Path) ++ [0]):=fun q=>by
      have:=congrArg List.length q
      simp at this
     simp only [decide_eq_false this,Bool.false_and]
    rw [hS1,hf1]
    simp only [Option.bind_some,Bool.not_false,if_true]
    have hS2:=G1 r hc hbo ha (aA.mk (IntKind.wrap .i64 (1 - x.Kind)) x.Forum x.Ask x.Places x.Path) a1 a2 _ _ a3 (by rcases s.kind with k | k <;> simp [k]) ⟨hli.2.2,by omega⟩ ⟨hli.1,hli.2.1⟩
    have hf2:J9 r (aA.mk (IntKind.wrap .i64 (1 - x.Kind)) x.Forum x.Ask x.Places x.Path) (if x.Kind = 1 then 12 else 0) x.Path = false:=by
     unfold J9
     rcases s.kind with k | k
     ·simp only [k]; simp [uP]
     ·simp only [k]; simp [uP]
    rw [hS2,hf2]
    simp only [Option.bind_some,Bool.not_false,if_true]
    rw [YG r fw w hn h1]
    simp [hz]
  ·simp [h0]
end Go.Proofs.Ytjjcaapdaldedaa
