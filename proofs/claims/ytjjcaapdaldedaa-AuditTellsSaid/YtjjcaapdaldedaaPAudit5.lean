/- package audit: the holes are shown by their places, and stand in order: AuditShows. -/
import Derived.Test.YtjjcaapdaldedaaPAudit4
set_option linter.unusedVariables false
set_option linter.unusedSimpArgs false
namespace Go.Proofs.Ytjjcaapdaldedaa
open Go.RowKit Vm
theorem aFi {a b:List Int} (hl:a.length = b.length) (h:∀ i,i < a.length->el a i = el b i):a = b:=by
 refine List.ext_getElem hl fun i h1 h2=>?_
 have:=h i h1
 rwa [oO _ _ h1,oO _ _ h2] at this
theorem XG {a b:List Int} (hl:a.length = b.length):j7 (fun i=>decide (el a i = el b i)) a.length = decide (a = b):=by
 rw [Bool.eq_iff_iff,uZ,decide_eq_true_eq]
 simp only [decide_eq_true_eq]
 exact ⟨fun h=>aFi hl h,fun h i hi=>by rw [h]⟩
theorem aGh (a b:List Int) (hl:a.length < 9223372036854775807):gW a b = some (decide (a = b)):=by
 unfold gW
 by_cases h:a.length = b.length
 ·have:mG a b 0 = some (if j7 (fun i=>decide (el a i = el b i)) a.length = true then .inl () else .inr ()):=by
   refine g8? (step:=fun w=>dM a b w) (fun i=>(i:Int)) _ _ _ ?_ ?_
   ·intro i hi
    simp only [dM,hZ hi,if_true,bQ _ _ hi,bQ b i (by omega),Option.bind_some,aS (show i < 9223372036854775807 by omega),bne_iff_ne,decide_eq_true_eq]
    by_cases e:el a i = el b i <;> simp [e]
   ·simp only [dM,jG,if_false]
  rw [this,XG h]
  cases hd:decide (a = b) <;> simp [h]
 ·have:¬ a = b:=fun e=>h (by rw [e])
  have h' : ((a.length:Int) != (b.length:Int)) = true:=by simp; omega
  rw [if_pos h',decide_eq_false this]
def aJt (r:aA) (h:aB) (e:Int) (p:List Int):Bool:=decide (p = h.Path) && (if e = 12 then decide (h.Kind = 1) else decide (h.Kind = 0) && !iM (el r.Orders (aV p).toNat) h.Ask)
theorem aGH (r:aA) (hc:iL r = some 0) (hb:QY r) (ha:kM r) (h:aB) (hq:BG r h.Forum h.Ask h.Places) (h0:el h.Places 0 = h.Forum) (e:Int) (p:List Int)
  (hl:kL r h.Forum h.Ask h.Places = (e,p)) (he:e = 0 ∨ e = 12) (hp:0 < p.length ∧ p.length < 1000) (hi:0 <= aV p ∧ aV p < (r.Orders.length:Int)):fX r h = some (aJt r h e p):=by
 have hL:=aN4 r h.Forum h.Ask h.Places hb (by have:=ha.few; omega) hq h0
 rw [hl] at hL
 have hlast:at? p (IntKind.wrap .i64 ((p.length:Int) - 1)) = some (aV p):=by
  rw [iA (by omega) (by omega),tK p _ (by omega) (by omega)]
  have:((p.length:Int) - 1).toNat = p.length - 1:=by omega
  rw [this]; rfl
 have hord:=ha.cs (aV p).toNat (by omega)
 have hj:pO r h (p,e) = some (if e = 12 then decide (h.Kind = 1) else decide (h.Kind = 0) && !iM (el r.Orders (aV p).toNat) h.Ask):=by
  unfold pO
  rcases he with rfl | rfl
  ·simp only [show ¬ (((0:Int) == 12) = true) by decide,if_false,show ¬ ((0:Int) = 12) by decide,beq_iff_eq]
   by_cases hk:h.Kind = 0
   ·simp only [hk,Bool.false_eq_true,if_false,if_true,hlast,Option.bind_some,tK _ _ hi.1 hi.2,tW _ _ (show (el r.Orders (aV p).toNat).Rules.length < 9223372036854775807 by omega),decide_true,Bool.true_and]
   ·simp only [hk,Bool.false_eq_true,if_false,decide_false,Bool.false_and]
  ·simp only [beq_self_eq_true,if_true]
   rw [Bool.beq_eq_decide_eq]
 unfold fX
 simp only [hc,hL,Option.bind_some,bne_self_eq_false,Bool.false_eq_true,if_false,aGh p h.Path (by omega),hj]
 unfold aJt
 rcases he with rfl | rfl
 ·simp only [bne_self_eq_false,Bool.false_eq_true,if_false]
  by_cases hp2:p = h.Path
  ·simp [hp2]
  ·simp [hp2]
 ·simp only [show ((12:Int) != 0) = true from rfl,if_true,bne_self_eq_false,Bool.false_eq_true,if_false]
  by_cases hp2:p = h.Path
  ·simp [hp2]
  ·simp [hp2]
theorem aJC {r:aA} (f:UV r) (h:VB r):QY r:=fun i hi=>⟨(f.orderL i hi).1,(h.orders.2 i hi).by_⟩
theorem aDc (r:aA) (ha:kM r) (f:Int) (hf:0 <= f ∧ f < (r.Orders.length:Int)) (q:Int) {h:aB} (e:h ∈ WS r f q):∃ pl',aEu r f q r.Orders.length [f] [f,-1,-1,-1,-1] h pl':=by
 have hp:zP r [f] 1:=⟨rfl,by omega,by simp,fun x hx=>by rcases List.mem_singleton.1 hx with rfl; exact hf⟩
 refine UM r ha f q 3 _ _ 1 r.Orders.length hp rfl rfl (fun i hi=>?_) h e
 match i,hi with
 | 0,_=>exact .inr hf
 | 1,_=>exact .inl rfl
 | 2,_=>exact .inl rfl
 | 3,_=>exact .inl rfl
 | 4,_=>exact .inl rfl
theorem aDU {l:List Int} (i:Nat) (h:i < l.length):el (l.map oJ) i = oJ (el l i):=by simp [el,h]
theorem aNB {r:aA} {f q:Int} (hf:0 <= f ∧ f < (r.Orders.length:Int)) (hq:0 <= q ∧ q < 22) {h:aB} {pl' : List Int} (s:aEu r f q r.Orders.length [f] [f,-1,-1,-1,-1] h pl') :
  BG r h.Forum h.Ask h.Places ∧ el h.Places 0 = h.Forum ∧ kL r h.Forum h.Ask h.Places = (if h.Kind = 1 then 12 else 0,h.Path):=by
 have hlen:=s.len
 have hpos:∀ i,i < 5->el h.Places i = oJ (el pl' i):=fun i hi=>by rw [s.places,aDU i (by omega)]
 have h0:el pl' 0 = f:=by
  have:=s.ext 0 (by omega) (by show f ≠ -1; omega)
  exact this
 have h0' : el h.Places 0 = h.Forum:=by
  rw [hpos 0 (by omega),h0,s.forum]
  unfold oJ; split <;> omega
 refine ⟨⟨by rw [s.forum]; exact hf.1,by rw [s.forum]; exact hf.2,by rw [s.ask]; exact hq.1,by rw [s.ask]; exact hq.2,by rw [s.places]; simp [hlen],fun i hi=>?_⟩,h0',?_⟩
 ·rw [hpos i hi]
  have:=s.ins i hi
  unfold oJ; split <;> omega
 ·unfold kL
  rw [s.forum,s.ask]
  refine s.law _ fun i hi=>?_
  rw [hpos i hi]
  have:=s.ins i hi
  unfold oJ; split <;> omega
theorem aGv {r:aA} {h:aB} (e:h ∈ B0 r):∃ f q:Nat,f < r.Orders.length ∧ q < 22 ∧ h ∈ AY (nY r f q):=by
 obtain ⟨f,hf,e⟩:=List.mem_flatMap.1 e
 obtain ⟨q,hq,e⟩:=List.mem_flatMap.1 e
 exact ⟨f,q,List.mem_range.1 hf,List.mem_range.1 hq,e⟩
theorem aCK (r:aA):∃ b,nE r = some b ∧ (b = true->UV r ∧ r.Orders.length <= 3):=by
 obtain ⟨b,e,h⟩:=aHE r
 unfold nE
 rw [e]
 cases b with
 | false=>exact ⟨false,rfl,fun h=>nomatch h⟩
 | true =>
  refine ⟨decide ((r.Orders.length:Int) <= 3),rfl,fun q=>⟨h rfl,?_⟩⟩
  have:=of_decide_eq_true q
  omega
theorem aGl (r:aA) (fw:UV r) (w:aA.wf r) (hn:r.Orders.length <= 3) {e:Int} (h:n0 r = some (if e = 0 then B0 r else [],e)):oA r = some (decide (e = 0) && decide ((B0 r).length = 0)):=by
 unfold oA
 rw [h]
 simp only [Option.bind_some,beq_iff_eq]
 by_cases h0:e = 0
 ·subst h0
  simp only [if_true,decide_true,Bool.true_and]
  rw [Bool.beq_eq_decide_eq]
  congr 1
  simp
 ·simp only [h0,if_false,decide_false,Bool.false_and]
end Go.Proofs.Ytjjcaapdaldedaa
