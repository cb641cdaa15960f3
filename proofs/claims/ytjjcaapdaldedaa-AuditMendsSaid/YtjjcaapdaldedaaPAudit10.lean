/- package audit: what becomes of the holes where all orders accept, where they have rules for all, and where no choice is whole: AuditMends. -/
import Derived.Test.YtjjcaapdaldedaaPAudit5
import Derived.Test.YtjjcaapdaldedaaTy
set_option linter.unusedVariables false
set_option linter.unusedSimpArgs false
namespace Go.Proofs.Ytjjcaapdaldedaa
open Go.RowKit Vm
def FH (o:aC):aC:=aC.mk o.Name true o.Choices o.Rules
def J5 (R:List aV) (o:aC):aC:=aC.mk o.Name true o.Choices R
def L2 (x:aK):aK:=aK.mk x.Ask x.By false
def FJ (o:aC):aC:=aC.mk o.Name o.Accepts (o.Choices.map L2) o.Rules
def jS (r:aB) (l:List aC):aB:=aB.mk r.Currencies r.Cities r.Groups r.Firms l r.Usances r.Rates r.Halts
def HX {α:Type} (f:α->α) (k:Nat) (l:List α):List α:=l.mapIdx fun i x=>if i < k then f x else x
theorem V3 {α:Type} (f:α->α) (k:Nat) (l:List α):(HX f k l).length = l.length:=by simp [HX]
theorem NL {α:Type} (f:α->α) (l:List α):HX f 0 l = l:=by
 refine List.ext_getElem? fun i=>?_
 simp [HX]
theorem aFJ {α:Type} (f:α->α) (l:List α):HX f l.length l = l.map f:=by
 refine List.ext_getElem? fun i=>?_
 simp only [HX,List.getElem?_mapIdx,List.getElem?_map]
 cases h:l[i]? with
 | none=>rfl
 | some r=>simp [(List.getElem?_eq_some_iff.1 h).1]
theorem aGj {α:Type} [Inhabited α] (f:α->α) {k:Nat} {l:List α} (h:k < l.length):(HX f k l)[k]? = some (el l k):=by
 simp [HX,h,uM l k h]
theorem M4 {α:Type} [Inhabited α] (f:α->α) {k:Nat} {l:List α} (h:k < l.length):(HX f k l).set k (f (el l k)) = HX f (k + 1) l:=by
 refine List.ext_getElem? fun i=>?_
 rw [List.getElem?_set]
 by_cases e:k = i
 ·subst e
  simp [HX,h,uM l k h]
 ·rw [if_neg e]
  simp only [HX,List.getElem?_mapIdx]
  cases l[i]? with
  | none=>rfl
  | some r =>
   simp only [Option.map_some,Option.some.injEq]
   by_cases q:i < k
   ·rw [if_pos q,if_pos (by omega)]
   ·rw [if_neg q,if_neg (by omega)]
def WS (q:Nat):aV:=aV.mk (q:Int) (lB.mk 1 1 [])
def iD:List aV:=(List.range 22).map WS
theorem aCW (s:ByteArray):fP s (-1) = some (aC.mk s false [] iD):=by
 unfold fP
 obtain ⟨x,h1,h2⟩:=F9 (step:=fun (w:Int × List aV)=>dR s (-1) w.1 w.2) (fun k (a:List aV)=>((k:Int),a)) 22 (fun k a=>a = (List.range k).map WS) (fun x=>x = iD) (by
  intro k a hk hI
  refine .inl ⟨a ++ [WS k],?_,?_⟩
  ·have h22:decide ((k:Int) < 22) = true:=by simp <;> omega
   have hne:((k:Int) != -1) = true:=by simp <;> omega
   have hl:(a.length + 1) * 48 <= 140737488355328:=by rw [hI]; simp <;> omega
   simp only [dR,h22,hne,if_true,if_pos hl,bC (show k < 9223372036854775807 by omega)]
   rfl
  ·rw [hI,List.range_succ,List.map_append]; rfl) (by
  intro a hI
  exact ⟨a,by simp [dR],hI⟩) [] (by simp)
 rw [h2] at h1
 have h1' : lV s (-1) 0 [] = some iD:=h1
 rw [h1']
 rfl
theorem ZL (o:aC) (h:o.Rules = iD) (q:Nat) (hq:q < 22):jY o q = true:=by
 unfold jY
 rw [h]
 have hlen:iD.length = 22:=by simp [iD]
 cases e:jX (fun i=>if (el iD i).Ask = (q:Int) then some (i:Int) else none) 0 iD.length with
 | some x=>rfl
 | none =>
  have:=(vU _ _).1 e q (by omega) (by omega)
  rw [uM _ _ (by omega)] at this
  simp [iD,WS] at this
theorem AU {α β:Type} [Inhabited α] [Inhabited β] (f:α->β) {l:List α} {i:Nat} (h:i < l.length):el (l.map f) i = f (el l i):=by
 rw [uM _ _ (by simpa using h),uM _ _ h]; simp
theorem JM (r:aB) (fw:NK r) (w:aB.wf r) (f:aC->aC) (h0:gN r = some 0) (hn:∀ o,(f o).Name = o.Name) (hb:∀ o,wW o = true->wW (f o) = true) (hl:∀ o,(f o).Choices.length = o.Choices.length ∧ ((f o).Rules.length <= 40 ∨ (f o).Rules = o.Rules)) (hw:∀ o,aC.wf o->aC.wf (f o)) :
  NK (jS r (r.Orders.map f)) ∧ aB.wf (jS r (r.Orders.map f)) ∧ gN (jS r (r.Orders.map f)) = some 0:=by
 have hfw:NK (jS r (r.Orders.map f)):={ fw with
  ord:=by simpa [jS] using fw.ord
  orderL:=fun i hi=>by
   have hi' : i < r.Orders.length:=by simpa [jS] using hi
   show (el (r.Orders.map f) i).Choices.length <= 40 ∧ (el (r.Orders.map f) i).Rules.length <= 40
   rw [AU f hi']
   have:=fw.orderL i hi'
   refine ⟨by rw [(hl _).1]; exact this.1,?_⟩
   rcases (hl (el r.Orders i)).2 with q | q
   ·exact q
   ·rw [q]; exact this.2 }
 obtain ⟨w1,w2,w3,w4,w5,w6,w7,w8⟩:=w
 have hwf:aB.wf (jS r (r.Orders.map f)):=⟨w1,w2,w3,w4,⟨by simpa [jS] using w5.1,fun x hx=>by
  obtain ⟨o,ho,rfl⟩:=List.mem_map.1 hx
  exact hw o (w5.2 o ho)⟩,w6,w7,w8⟩
 refine ⟨hfw,hwf,?_⟩
 rw [XN _ fw ⟨w1,w2,w3,w4,w5,w6,w7,w8⟩] at h0
 rw [XN _ hfw hwf]
 have h0':=Option.some.inj h0
 unfold LL at h0'
 obtain ⟨c1,h0'⟩:=qN.1 h0'
 obtain ⟨c2,h0'⟩:=qN.1 h0'
 obtain ⟨c3,h0'⟩:=qN.1 h0'
 obtain ⟨c4,h0'⟩:=qN.1 h0'
 obtain ⟨c5,h0'⟩:=qN.1 h0'
 obtain ⟨c6,c7⟩:=qN.1 h0'
 have hlen:(jS r (r.Orders.map f)).Orders.length = r.Orders.length:=by simp [jS]
 congr 1
 unfold LL
 refine qN.2 ⟨c1,qN.2 ⟨?_,qN.2 ⟨c3,qN.2 ⟨c4,qN.2 ⟨?_,qN.2 ⟨c6,?_⟩⟩⟩⟩⟩⟩
 ·have hc:∀ c,QF (jS r (r.Orders.map f)) c = QF r c:=fun c=>by unfold QF; rw [hlen]; rfl
  show D8 (r.Cities.map (·.Name)) 40 (fun i=>QF (jS r (r.Orders.map f)) (el r.Cities i)) = 0
  simp only [hc]
  exact c2
 ·have hnm:(r.Orders.map f).map (·.Name) = r.Orders.map (·.Name):=by
   rw [List.map_map]; exact List.map_congr_left fun o _=>hn o
  unfold aAZ at c5 ⊢
  show D8 ((r.Orders.map f).map (·.Name)) 20 (fun i=>wW (el (r.Orders.map f) i)) = 0
  rw [hnm]
  unfold D8 at c5 ⊢
  by_cases hle:(r.Orders.map (·.Name)).length <= 20
  ·rw [if_pos hle] at c5 ⊢
   rw [aCa] at c5 ⊢
   intro i hi
   have hi' : i < r.Orders.length:=by simpa using hi
   have:=c5 i hi
   unfold YO at this ⊢
   by_cases hz:GX (r.Orders.map (·.Name)) i = 0
   ·rw [if_pos hz] at this ⊢
    show (if wW (el (r.Orders.map f) i) = true then (0:Int) else 1) = 0
    rw [AU f hi']
    by_cases ho:wW (el r.Orders i) = true
    ·rw [if_pos (hb _ ho)]
    ·have:=this.symm.trans (if_neg ho); cases this
   ·rw [if_neg hz] at this ⊢; exact this
  ·rw [if_neg hle] at c5; cases c5
 ·have hh:∀ x,O9 (jS r (r.Orders.map f)) x = O9 r x:=fun x=>by unfold O9; rw [hlen]
  have hr:∀ x,SM (jS r (r.Orders.map f)) x = SM r x:=fun x=>rfl
  unfold PO
  simp only [hh,hr]
  exact c7
theorem PE (r:aB) (forum ask:Int) (Pk:aA->Prop) (hleaf:∀ c pl path h,h ∈ jC r forum ask c pl path->(c = true->∃ o:Nat,o < r.Orders.length ∧ xL r o = false ∧ ∃ l:Int,(c8 r ask l).2 = true)->Pk h) :
  ∀ (d:Nat) (pl path:List Int),∀ h ∈ gH r forum ask d pl path,Pk h
 | 0,pl,path,h,hm=>by cases hm
 | d + 1,pl,path,h,hm=>by
  rw [gH] at hm
  by_cases h0:(c8 r ask (bT path)).1 = 0
  ·simp only [if_pos h0] at hm
   exact hleaf _ _ _ _ hm (fun e=>nomatch e)
  ·simp only [if_neg h0] at hm
   obtain ⟨j,hj,hm⟩:=List.mem_flatMap.1 hm
   have hj':=List.mem_range.1 hj
   split at hm
   ·cases hm
   ·unfold dU at hm
    simp only at hm
    split at hm
    ·exact hleaf _ _ _ _ hm (fun e=>nomatch e)
    ·split at hm
     ·exact PE r forum ask Pk hleaf d _ _ h hm
     ·refine hleaf _ _ _ _ hm fun e=>⟨j,hj',?_,bT path,?_⟩
      ·have:=(Bool.and_eq_true _ _).mp e
       simpa using this.2
      ·exact ((Bool.and_eq_true _ _).mp e).1
theorem VK (r:aB) (ha:∀ o:Nat,o < r.Orders.length->xL r o = true) (f q:Int):∀ h ∈ FL r f q,h.Kind = 0:=by
 refine PE r f q (fun h=>h.Kind = 0) (fun c pl path h hm hc=>?_) _ _ _
 obtain ⟨rfl,_⟩:=KI hm
 cases c with
 | false=>rfl
 | true =>
  obtain ⟨o,h1,h2,_⟩:=hc rfl
  rw [ha o h1] at h2; cases h2
theorem aC8 (r:aB) (f q:Int) (ha:∀ l:Int,(c8 r q l).2 = false):∀ h ∈ FL r f q,h.Kind = 0:=by
 refine PE r f q (fun h=>h.Kind = 0) (fun c pl path h hm hc=>?_) _ _ _
 obtain ⟨rfl,_⟩:=KI hm
 cases c with
 | false=>rfl
 | true =>
  obtain ⟨o,h1,h2,l,h3⟩:=hc rfl
  rw [ha l] at h3; cases h3
theorem QU {r x:aB} (hr:∀ (l:Nat) q,jY (el x.Orders l) q = jY (el r.Orders l) q) {f q:Int} {c:Bool} {pl path:List Int} {h:aA} (hm:h ∈ jC r f q c pl path) (hk:h.Kind = 0):h ∈ jC x f q false pl path:=by
 obtain ⟨rfl,h2⟩:=KI hm
 cases c with
 | true=>cases hk
 | false =>
  unfold jC
  rw [hr,h2 rfl]
  simp
theorem R6 (r x:aB) (hl:x.Orders.length = r.Orders.length) (hw:∀ q l,c8 x q l = c8 r q l) (hr:∀ (l:Nat) q,jY (el x.Orders l) q = jY (el r.Orders l) q) (ha:∀ o:Nat,o < x.Orders.length->xL x o = true) (f q:Int) :
  ∀ (d:Nat) (pl path:List Int) (h:aA),h ∈ gH r f q d pl path->h.Kind = 0->h ∈ gH x f q d pl path
 | 0,pl,path,h,hm,hk=>by cases hm
 | d + 1,pl,path,h,hm,hk=>by
  rw [gH] at hm ⊢
  rw [hw]
  by_cases h0:(c8 r q (bT path)).1 = 0
  ·simp only [if_pos h0] at hm ⊢
   exact QU hr hm hk
  ·simp only [if_neg h0] at hm ⊢
   obtain ⟨j,hj,hm⟩:=List.mem_flatMap.1 hm
   rw [← hl] at hj
   refine List.mem_flatMap.2 ⟨j,hj,?_⟩
   have hj':=List.mem_range.1 hj
   split at hm
   ·cases hm
   ·rename_i hc
    rw [if_neg hc]
    unfold dU at hm ⊢
    simp only [hw] at hm ⊢
    by_cases c1:(j:Int) = bT path
    ·rw [if_pos c1] at hm ⊢
     exact QU hr hm hk
    ·rw [if_neg c1] at hm ⊢
     by_cases c2:(c8 r q (bT path)).2 = true ∧ (j:Int) ∉ path
     ·rw [if_pos c2] at hm ⊢
      exact R6 r x hl hw hr ha f q d _ _ h hm hk
     ·rw [if_neg c2] at hm ⊢
      rw [ha j hj',Bool.not_true,Bool.and_false]
      exact QU hr hm hk
theorem TE (b:Option aA) (h:aA):(BI b h).isSome = true:=by
 cases b with
 | none=>rfl
 | some y=>simp only [BI]; split <;> rfl
theorem TI:∀ (l:List aA) (bb:Option aA × Option aA),bb.1.isSome = true->(pM bb l).1.isSome = true
 | [],bb,hb=>hb
 | h :: l,bb,hb=>TI l (R0 bb h) (by unfold R0; split <;> first | exact TE _ _ | exact hb)
theorem SV:∀ (l:List aA) (bb:Option aA × Option aA) (h:aA),h ∈ l->h.Kind = 0->(pM bb l).1.isSome = true
 | [],bb,h,hm,hk=>by cases hm
 | y :: l,bb,h,hm,hk=>by
  rcases List.mem_cons.1 hm with rfl | hm
  ·exact TI l (R0 bb h) (by unfold R0; rw [if_pos hk]; exact TE _ _)
  ·exact SV l (R0 bb y) h hm hk
def xO (l:List aA):Nat:=l.countP fun h=>h.Kind == 0
theorem aDF (r x:aB) (f q:Int) (hs:∀ h ∈ FL r f q,h.Kind = 0->h ∈ FL x f q):xO (AL (rJ r f q)) <= (AL (rJ x f q)).length:=by
 have h1:xO ((rJ r f q).1.toList) <= ((rJ x f q).1.toList).length:=by
  cases e:(rJ r f q).1 with
  | none=>simp [xO]
  | some h =>
   have hm:=(KP (FL r f q) (none,none) h).1 e
   rcases hm with c | ⟨c1,c2⟩
   ·cases c
   ·have:=SV (FL x f q) (none,none) h (hs h c1 c2) c2
    obtain ⟨y,hy⟩:=Option.isSome_iff_exists.1 this
    have hy' : (rJ x f q).1 = some y:=hy
    rw [hy']
    exact List.countP_le_length
 have h2:xO ((rJ r f q).2.toList) = 0:=by
  cases e:(rJ r f q).2 with
  | none=>rfl
  | some h =>
   have hm:=(KP (FL r f q) (none,none) h).2 e
   rcases hm with c | ⟨c1,c2⟩
   ·cases c
   ·simp [xO,c2]
 unfold AL
 have e:xO ((rJ r f q).1.toList ++ (rJ r f q).2.toList) = xO ((rJ r f q).1.toList) + xO ((rJ r f q).2.toList):=List.countP_append
 rw [e,List.length_append]
 omega
theorem NA {α:Type} (g g' : α->List aA):∀ l:List α,(∀ a ∈ l,xO (g a) <= (g' a).length)->xO (l.flatMap g) <= (l.flatMap g').length
 | [],_=>by simp [xO]
 | a :: l,h=>by
  have ih:=NA g g' l fun b hb=>h b (List.mem_cons_of_mem _ hb)
  have:=h a (List.mem_cons_self ..)
  rw [List.flatMap_cons,List.flatMap_cons,List.length_append]
  have e:xO (g a ++ l.flatMap g) = xO (g a) + xO (l.flatMap g):=List.countP_append
  omega
theorem Z5 (r x:aB) (hl:x.Orders.length = r.Orders.length) (hs:∀ f q:Int,∀ h ∈ FL r f q,h.Kind = 0->h ∈ FL x f q):xO (vE r) <= (vE x).length:=by
 unfold vE
 rw [hl]
 refine NA _ _ _ fun f _=>?_
 exact NA _ _ _ fun q _=>aDF r x _ _ (hs _ _)
theorem QJ (x:aB) (h:∀ f q:Int,∀ h ∈ FL x f q,h.Kind = 0):∀ h ∈ vE x,h.Kind = 0:=by
 intro y hy
 obtain ⟨f,q,_,_,e⟩:=SX hy
 exact h _ _ y (XT e).1
theorem aAA (r1:Bool) (a b c:List aA × Int) (hlen:c.1.length < 1000):gA r1 a b c 0 0 = some (xO c.1:Int):=by
 unfold gA
 obtain ⟨x,h1,h2⟩:=F9 (step:=fun (w:Int × Int)=>cC r1 a b c w.1 w.2) (fun k (n:Int)=>(n,(k:Int))) c.1.length (fun k n=>n = (xO (c.1.take k):Int)) (fun x=>x = (xO c.1:Int)) (by
  intro k n hk hI
  have hg:xO (c.1.take (k + 1)) = xO (c.1.take k) + (if (el c.1 k).Kind = 0 then 1 else 0):=by
   rw [← EX c.1 k hk]
   have e:xO (c.1.take k ++ [el c.1 k]) = xO (c.1.take k) + xO [el c.1 k]:=List.countP_append
   rw [e]
   congr 1
   by_cases hz:(el c.1 k).Kind = 0 <;> simp [xO,hz]
  have hle:xO (c.1.take k) <= k:=Nat.le_trans List.countP_le_length (by simp; omega)
  refine .inl ⟨(xO (c.1.take (k + 1)):Int),?_,rfl⟩
  simp only [cC,nG hk,if_true,fI _ _ hk,Option.bind_some,bC (show k < 9223372036854775807 by omega),beq_iff_eq]
  subst hI
  rw [hg]
  by_cases hz:(el c.1 k).Kind = 0
  ·rw [if_pos hz,if_pos hz,bC (by omega)]
  ·rw [if_neg hz,if_neg hz]; rfl) (by
  intro n hI
  exact ⟨n,by simp only [cC,pA,if_false],by rw [hI,List.take_length]⟩) 0 (by simp [xO])
 rw [h2] at h1
 exact h1
theorem Y5 (r1:Bool) (a b:List aA × Int) (n:Int) (hlen:a.1.length < 1000) (hk:∀ h ∈ a.1,h.Kind = 0):fT r1 a b n 0 = some (.inl ()):=by
 unfold fT
 refine mJ (step:=fun w=>b9 r1 a b n w) (fun i=>(i:Int)) a.1.length _ ?_ ?_
 ·intro i hi
  have:=hk _ (NE _ _ hi)
  simp only [b9,nG hi,if_true,fI _ _ hi,Option.bind_some,this,bne_self_eq_false,Bool.false_eq_true,if_false,bC (show i < 9223372036854775807 by omega)]
 ·simp only [b9,pA,if_false]
theorem ZW (r1:Bool) (a b:List aA × Int) (n:Int) (hlen:b.1.length < 1000) (hk:∀ h ∈ b.1,h.Kind = 0):fU r1 a b n 0 = some (.inl ()):=by
 unfold fU
 refine mJ (step:=fun w=>cE r1 a b n w) (fun i=>(i:Int)) b.1.length _ ?_ ?_
 ·intro i hi
  have:=hk _ (NE _ _ hi)
  simp only [cE,nG hi,if_true,fI _ _ hi,Option.bind_some,this,bne_self_eq_false,Bool.false_eq_true,if_false,bC (show i < 9223372036854775807 by omega)]
 ·simp only [cE,pA,if_false]
theorem aAQ (r:aB) (r1:Bool) (c:List aA × Int) (fw:NK r):fZ r r1 c 0 r.Orders r.Orders r.Orders = some (r.Orders.map FH,r.Orders.map (J5 iD),r.Orders.map FJ):=by
 unfold fZ
 have hn:=fw.ord
 obtain ⟨x,h1,h2⟩:=F9 (step:=fun (w:Int × List aC × List aC × List aC)=>cA r r1 c w.1 w.2.1 w.2.2.1 w.2.2.2) (fun k (a:List aC × List aC × List aC)=>((k:Int),a)) r.Orders.length (fun k a=>a = (HX FH k r.Orders,HX (J5 iD) k r.Orders,HX FJ k r.Orders)) (fun x=>x = (r.Orders.map FH,r.Orders.map (J5 iD),r.Orders.map FJ)) (by
  intro k a hk hI
  subst hI
  have hch:=(fw.orderL k hk).1
  refine .inl ⟨_,?_,rfl⟩
  have e1:(0:Int) <= (k:Int):=by omega
  simp only [cA,nG hk,if_true,Int.toNat_natCast,V3,List.length_set,e1,hk,true_and,aGj _ hk,Option.bind_some,aCW,fI _ _ hk,List.set_set,bC (show k < 9223372036854775807 by omega)]
  have e2:∀ z:aC,((HX (J5 iD) k r.Orders).set k z)[k]? = some z:=fun z=>by
   rw [List.getElem?_set,if_pos rfl,if_pos (by rw [V3]; exact hk)]
  rw [e2]
  simp only [Option.bind_some]
  rw [if_pos (by omega)]
  rw [← M4 FH hk,← M4 (J5 iD) hk,← M4 FJ hk]
  rfl) (by
  intro a hI
  subst hI
  refine ⟨(r.Orders.map FH,r.Orders.map (J5 iD),r.Orders.map FJ),?_,rfl⟩
  simp only [cA,pA,if_false,aFJ]) (r.Orders,r.Orders,r.Orders) (by rw [NL,NL,NL])
 rw [h2] at h1
 exact h1
theorem M8 (r:aB) (hn:r.Orders.length <= 3):(vE r).length < 1000:=by
 have h22:∀ f:Nat,(UU r f).length <= 44:=fun f=>DZ (fun (q:Nat)=>AL (rJ r f q)) 2 (fun q=>QK _) (List.range 22)
 have:=DZ (fun (f:Nat)=>UU r f) 44 h22 (List.range r.Orders.length)
 simp only [List.length_range] at this
 unfold vE
 omega
theorem YK {α:Type} [Inhabited α] (l:List α) (i:Nat) (h:¬ i < l.length):el l i = default:=by
 unfold el
 rw [List.getD_eq_getElem?_getD,List.getElem?_eq_none (by omega)]
 rfl
theorem aBt (l:List aC) (f:aC->aC) (i:Nat) {β:Type} (g:aC->β) (hg:∀ o,g (f o) = g o):g (el (l.map f) i) = g (el l i):=by
 by_cases h:i < l.length
 ·rw [AU f h,hg]
 ·rw [YK _ _ h,YK _ _ (by simpa using h)]
theorem aE9 (cs:List aK) (q:Int):(GC (cs.map L2) q).2 = false:=by
 unfold GC
 rw [List.length_map]
 cases e:jX (fun i=>if (el (cs.map L2) i).Ask = q ∧ (el (cs.map L2) i).By ≠ 0 then some ((el (cs.map L2) i).By,(el (cs.map L2) i).Whole) else none) 0 cs.length with
 | none=>rfl
 | some x =>
  obtain ⟨i,_,h2,h3,_⟩:=vV _ _ e
  have hi:i < cs.length:=by omega
  split at h3
  ·cases h3
   show (el (cs.map L2) i).Whole = false
   rw [AU L2 hi]
   rfl
  ·cases h3
theorem aAK (o:aC) (h:wW o = true):wW (FJ o) = true:=by
 unfold wW at h ⊢
 have e1:(FJ o).Choices.map (·.Ask) = o.Choices.map (·.Ask):=by
  show (o.Choices.map L2).map (·.Ask) = _
  rw [List.map_map]
  exact List.map_congr_left fun _ _=>rfl
 rw [e1]
 have e2:vC (fun i=>decide (0 <= (el (FJ o).Choices i).By ∧ (el (FJ o).Choices i).By < 5)) (FJ o).Choices.length = vC (fun i=>decide (0 <= (el o.Choices i).By ∧ (el o.Choices i).By < 5)) o.Choices.length:=by
  show vC (fun i=>decide (0 <= (el (o.Choices.map L2) i).By ∧ (el (o.Choices.map L2) i).By < 5)) (o.Choices.map L2).length = _
  rw [List.length_map,Bool.eq_iff_iff,D2,D2]
  refine ⟨fun h i hi=>?_,fun h i hi=>?_⟩
  ·have:=h i hi
   rwa [AU L2 hi] at this
  ·rw [AU L2 hi]; exact h i hi
 rw [e2]
 exact h
theorem aAH (o:aC) (h:wW o = true):wW (J5 iD o) = true:=by
 unfold wW at h ⊢
 rw [Bool.and_eq_true,Bool.and_eq_true] at h ⊢
 exact ⟨h.1,h.2.1,by
  show LI (iD.map (·.Ask)) 0 21 = true
  have hl:(iD.map (·.Ask)).length = 22:=by simp [iD]
  have he:∀ i,i < 22->el (iD.map (·.Ask)) i = (i:Int):=fun i hi=>by
   rw [uM _ _ (by omega)]
   simp [iD,WS]
  unfold LI
  rw [hl,D2]
  intro i hi
  rw [decide_eq_true_eq,he i hi]
  refine ⟨by omega,by omega,fun h0=>?_⟩
  rw [he (i - 1) (by omega)]
  omega⟩
theorem aGE:Wl aV.wf iD:=by
 refine ⟨by simp [iD],fun x hx=>?_⟩
 obtain ⟨q,hq,rfl⟩:=List.mem_map.1 hx
 have:=List.mem_range.1 hq
 exact ⟨⟨by show _ <= (q:Int); omega,by show (q:Int) <= _; omega⟩,⟨by show (-9223372036854775808:Int) <= 1; omega,by show (1:Int) <= 9223372036854775807; omega⟩,⟨by show (-9223372036854775808:Int) <= 1; omega,by show (1:Int) <= 9223372036854775807; omega⟩,⟨by show 0 <= 9223372036854775807; omega,fun x hx=>by cases hx⟩⟩
theorem X9 (r:aB) (f:aC->aC) (hf:∀ o,(f o).Accepts = true) (o:Nat) (ho:o < (jS r (r.Orders.map f)).Orders.length):xL (jS r (r.Orders.map f)) o = true:=by
 have hlen:(jS r (r.Orders.map f)).Orders.length = r.Orders.length:=by simp [jS]
 unfold xL
 show (el (r.Orders.map f) (o:Int).toNat).Accepts = true
 rw [AU _ (by rw [hlen] at ho; simpa using ho)]
 exact hf _
theorem aDj (r:aB) (ha:oV (jS r (r.Orders.map (J5 iD)))):vE (jS r (r.Orders.map (J5 iD))) = []:=by
 have hlen:(jS r (r.Orders.map (J5 iD))).Orders.length = r.Orders.length:=by simp [jS]
 refine List.eq_nil_iff_forall_not_mem.2 fun h hm=>?_
 obtain ⟨f,q,hf,hq,e⟩:=SX hm
 have hin:=(XT e).1
 have hk:=VK _ (X9 r _ fun _=>rfl) _ _ h hin
 obtain ⟨pl',s⟩:=aLb _ ha (f:Int) ⟨by omega,by omega⟩ (q:Int) hin
 have hg:=s.gap hk
 have hl:=s.lastIn
 rw [ZL _ (by
  show (el (r.Orders.map (J5 iD)) (bT h.Path).toNat).Rules = iD
  rw [AU _ (by rw [hlen] at hl; omega)]
  rfl) q hq] at hg
 cases hg
theorem WM (hs:gR = some true) (r:aB) (w:aB.wf r):iF r = some true:=by
 unfold iF
 obtain ⟨b,e1,hb⟩:=aAF r
 rw [hs,e1]
 simp only [Option.bind_some]
 cases b with
 | false=>rfl
 | true =>
  obtain ⟨fw,hn⟩:=hb rfl
  simp only [Bool.not_true,Bool.false_eq_true,if_false]
  obtain ⟨e,h1,hc,hr⟩:=GQ r fw w hn
  rw [h1]
  simp only [Option.bind_some,bne_iff_ne,ne_eq]
  by_cases h0:e = 0
  ·subst h0
   have hr:=hr rfl
   simp only [not_true_eq_false,if_false,if_true]
   have hsz:(0 + r.Orders.length) * 72 <= 140737488355328:=by omega
   simp only [if_pos hsz,List.nil_append,aAQ r true _ fw,Option.bind_some]
   obtain ⟨xf,xw,xc⟩:=JM r fw w FH hc (fun _=>rfl) (fun _ h=>h) (fun _=>⟨rfl,.inr rfl⟩) (fun _ h=>h)
   obtain ⟨yf,yw,yc⟩:=JM r fw w (J5 iD) hc (fun _=>rfl) aAH (fun _=>⟨rfl,.inl (by simp [J5,iD])⟩) (fun _ h=>⟨h.1,h.2.1,aGE⟩)
   obtain ⟨zf,zw,zc⟩:=JM r fw w FJ hc (fun _=>rfl) aAK (fun o=>⟨by simp [FJ],.inr rfl⟩) (fun o h=>⟨h.1,⟨by simpa [FJ] using h.2.1.1,fun x hx=>by
    obtain ⟨y,hy,rfl⟩:=List.mem_map.1 hx
    exact h.2.1.2 y hy⟩,h.2.2⟩)
   have xn:(jS r (r.Orders.map FH)).Orders.length <= 3:=by simpa [jS] using hn
   have yn:(jS r (r.Orders.map (J5 iD))).Orders.length <= 3:=by simpa [jS] using hn
   have zn:(jS r (r.Orders.map FJ)).Orders.length <= 3:=by simpa [jS] using hn
   obtain ⟨ex,hx1,hx2,hx3⟩:=GQ _ xf xw xn
   obtain ⟨ey,hy1,hy2,hy3⟩:=GQ _ yf yw yn
   obtain ⟨ez,hz1,hz2,hz3⟩:=GQ _ zf zw zn
   rw [xc] at hx2
   rw [yc] at hy2
   rw [zc] at hz2
   cases hx2
   cases hy2
   cases hz2
   have ya:=SI yf (hy3 rfl) yn
   have hcl:=aCb _ yf yw yn hy1
   rw [aDj r ya] at hcl
   simp only [if_true] at hx1 hz1
   show ((fB (jS r (r.Orders.map FH))).bind fun r18=>(fB (jS r (r.Orders.map FJ))).bind fun r19=>_) = _
   rw [hx1,hz1]
   simp only [Option.bind_some,not_true_eq_false,if_false]
   show ((iX (jS r (r.Orders.map (J5 iD)))).bind fun r20=>_) = _
   rw [hcl]
   simp only [Option.bind_some,List.length_nil,decide_true,Bool.and_self,Bool.not_true,Bool.false_eq_true,if_false]
   have kx:∀ h ∈ vE (jS r (r.Orders.map FH)),h.Kind = 0:=QJ _ fun f q=>VK _ (X9 r FH fun _=>rfl) f q
   have kz:∀ h ∈ vE (jS r (r.Orders.map FJ)),h.Kind = 0:=QJ _ fun f q=>aC8 _ f q fun l=>by
    unfold c8
    by_cases hl:l.toNat < r.Orders.length
    ·show (GC (el (r.Orders.map FJ) l.toNat).Choices q).2 = false
     rw [AU FJ hl]
     exact aE9 _ _
    ·rw [YK _ _ (by simpa [jS] using hl)]
     rfl
   rw [aAA true _ _ _ (M8 r hn)]
   simp only [Option.bind_some]
   rw [Y5 true _ _ _ (M8 _ xn) kx]
   simp only [Option.bind_some,Sum.elim_inl]
   rw [ZW true _ _ _ (M8 _ zn) kz]
   simp only [Option.bind_some,Sum.elim_inl,if_true]
   have hle:=Z5 r (jS r (r.Orders.map FH)) (by simp [jS]) fun f q h hm hk=>by
    refine R6 r (jS r (r.Orders.map FH)) (by simp [jS]) (fun q l=>?_) (fun l q=>?_) (X9 r FH fun _=>rfl) f q _ _ _ h hm hk
    ·unfold c8
     show GC (el (r.Orders.map FH) l.toNat).Choices q = _
     rw [aBt r.Orders FH l.toNat (fun o=>o.Choices) fun _=>rfl]
    ·unfold jY
     show (jX (fun i=>if (el (el (r.Orders.map FH) l).Rules i).Ask = q then some (i:Int) else none) 0 (el (r.Orders.map FH) l).Rules.length).isSome = _
     rw [aBt r.Orders FH l (fun o=>o.Rules) fun _=>rfl]
   congr 1
   rw [decide_eq_true_eq]
   omega
  ·simp [h0]
end Go.Proofs.Ytjjcaapdaldedaa
