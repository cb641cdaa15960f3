/- Law 43: RightsMore: who is asked more clears no less. -/
import Derived.Test.YtgjcnbgfaimepaaPRight4
import Derived.Test.YtgjcnbgfaimepaaNextS
set_option linter.unusedVariables false
set_option linter.unusedSimpArgs false
namespace Go.Proofs.Ytgjcnbgfaimepaa
open Go.RowKit Vm
section
variable {m:Nat} {l:List aE} {asked:List Int}
theorem VO (g:Nat->Int):∀ k,k <= l.length->(∀ i,i < k->nA asked (el l i) = false->g i = 0)->dO g k = dO (fun j=>g (el (sH asked l l.length) j)) (sH asked l k).length
 | 0,_,_=>rfl
 | k + 1,hk,h=>by
  have ih:=VO g k (by omega) (fun i hi=>h i (by omega))
  show dO g k + g k = _
  rw [ih]
  cases hf:nA asked (el l k) with
  | false =>
   rw [show sH asked l (k + 1) = sH asked l k ++ if nA asked (el l k) = true then [k] else [] from rfl,hf,h k (by omega) hf]
   simp
  | true =>
   obtain ⟨h1,h2⟩:=VN (by omega:k < l.length) hf
   rw [show (sH asked l (k + 1)).length = (sH asked l k).length + 1 by rw [show sH asked l (k + 1) = sH asked l k ++ if nA asked (el l k) = true then [k] else [] from rfl,if_pos hf]; simp]
   show _ = dO _ _ + g (el (sH asked l l.length) (sH asked l k).length)
   rw [h2]
theorem aNc (h:EM m (l.map gD)) {Z:List Int} (h0:∀ i,i < l.length->nA asked (el l i) = false->el Z i = 0) (hr:∀ i,i < l.length->0 <= el Z i ∧ el Z i <= (el l i).Sum) (hn:∀ v,v < m->netF (n9 (l.map gD)) (qQ (l.map gD)) l.length (el Z) v = 0) :
  vW (n9 (rC asked l)) (qQ (rC asked l)) (tZ (rC asked l)) m (rC asked l).length (fun j=>el Z (el (sH asked l l.length) j)) where
 lo:=fun j hj=>by
  rw [mJ] at hj
  exact (hr _ (OD hj).1).1
 hi:=fun j hj=>by
  rw [mJ] at hj
  unfold tZ
  rw [DI hj]
  exact (hr _ (OD hj).1).2
 net:=fun v hv=>by
  have e:=hn v hv
  unfold netF at e ⊢
  rw [VO (asked:=asked) _ l.length (Nat.le_refl _) (fun i hi hf=>by rw [h0 i hi hf]; simp)] at e
  rw [mJ]
  refine Eq.trans (iD fun j hj=>?_) e
  have hl:=(OD hj).1
  unfold n9 qQ
  rw [DI hj,gK gD l _ hl]
theorem sY.sum {X q y:List Int} (b:sY m l asked X q y):dO (el X) l.length = dO (el y) (rC asked l).length:=by
 rw [VO (asked:=asked) (el X) l.length (Nat.le_refl _) b.off,mJ]
 exact iD fun j hj=>b.at' j hj
theorem sY.all {X q y:List Int} (b:sY m l asked X q y) {v:Nat} (hv:v < m):Go.Proofs.Ytgjcnbgfaimepaa.netF (n9 (l.map gD)) (qQ (l.map gD)) l.length (el X) v = 0:=by
 rw [b.netF v _ (Nat.le_refl _)]
 have:=b.best.bald.net v hv
 rwa [mJ] at this
theorem aGJ {asked' X q y X' q' y' : List Int} (h:EM m (l.map gD)) (hsub:∀ i,i < l.length->nA asked (el l i) = true->nA asked' (el l i) = true) (b:sY m l asked X q y) (b' : sY m l asked' X' q' y'):dO (el X) l.length <= dO (el X') l.length:=by
 have h0:∀ i,i < l.length->nA asked' (el l i) = false->el X i = 0:=fun i hi hf=>b.off i hi (by
  cases c:nA asked (el l i) with
  | false=>rfl
  | true=>rw [hsub i hi c] at hf; cases hf)
 have hb:=aNc (asked:=asked') h h0 (fun i hi=>b.rng h hi) (fun v hv=>b.all hv)
 have hk:=aI2 (asked:=asked') h
 rw [b'.sum,VO (asked:=asked') (el X) l.length (Nat.le_refl _) h0,← mJ]
 exact JD hk.fr hk.tt b'.best.bald hb b'.best.cert
theorem sY.total {X q y:List Int} (h:EM m (l.map gD)) (b:sY m l asked X q y):NT X = dO (el X) l.length:=by
 have hl:=h.len
 rw [List.length_map] at hl
 have hok:UK X = true:=by
  unfold UK
  refine i7.2 fun i hi=>?_
  rw [b.len] at hi
  have:=b.rng h hi
  have:=(GX h hi).2.2.2.2
  exact decide_eq_true ⟨by omega,by omega⟩
 unfold NT
 rw [if_pos ⟨by rw [b.len]; exact hl,hok⟩,b.len]
def CU (l:List aE):List Int:=l.flatMap fun d=>d.Rights.map (·.Owner)
theorem NF {k:Nat} (hk:k < l.length):CU (l.take (k + 1)) = CU (l.take k) ++ (el l k).Rights.map (·.Owner):=by
 unfold CU
 rw [List.take_succ_eq_append_getElem hk,List.flatMap_append,kA _ _ hk]
 simp
theorem MC (hr:∀ i,i < l.length->(el l i).Rights.length <= 12):∀ k,k <= l.length->(CU (l.take k)).length <= 12 * k
 | 0,_=>by simp [CU]
 | k + 1,hk=>by
  have:=MC hr k (by omega)
  have h2:=hr k (by omega)
  rw [NF (by omega),List.length_append,List.length_map]
  omega
def uP (l:List aE):List Int:=A5 (zO (CU l))
theorem aAH (h9:l.length <= 9) (hr:∀ i,i < l.length->(el l i).Rights.length <= 12):gZ l = some (uP l):=by
 unfold gZ
 have key:∃ x,nN l 0 [] = some x ∧ x = CU l:=by
  unfold nN
  refine eQ (step:=fun (w:Int × List Int)=>eH l w.1 w.2) (fun k (z:List Int)=>((k:Int),z)) l.length (fun k z=>z = CU (l.take k)) _ ?_ ?_ [] (by simp [CU])
  ·rintro k z hk rfl
   have w3:IntKind.wrap .i64 ((k:Int) + 1) = ((k + 1:Nat):Int):=bC (by omega)
   have hol:=MC hr k (by omega)
   have hrk:=hr k hk
   have hin:∃ x,m9 l k (el l k) 0 (CU (l.take k)) = some x ∧ x = CU (l.take k) ++ (el l k).Rights.map (·.Owner):=by
    unfold m9
    refine eQ (step:=fun (w:Int × List Int)=>eJ l k (el l k) w.1 w.2) (fun i (y:List Int)=>((i:Int),y)) (el l k).Rights.length (fun i y=>y = CU (l.take k) ++ ((el l k).Rights.take i).map (·.Owner)) _ ?_ ?_ _ (by simp)
    ·rintro i y hi rfl
     have w4:IntKind.wrap .i64 ((i:Int) + 1) = ((i + 1:Nat):Int):=bC (by omega)
     refine .inl ⟨_,?_,rfl⟩
     show eJ l k (el l k) i _ = _
     unfold eJ
     rw [if_pos (by simpa using hi),bU _ i hi,Option.bind_some,if_pos (by simp; omega),w4,qW (·.Owner) _ i hi,List.append_assoc]
    ·rintro y rfl
     refine ⟨_,?_,rfl⟩
     show eJ l k (el l k) ((el l k).Rights.length:Nat) _ = _
     unfold eJ
     rw [if_neg (by simp),List.take_length]
   obtain ⟨x,e1,rfl⟩:=hin
   refine .inl ⟨_,?_,rfl⟩
   show eH l k _ = _
   unfold eH
   rw [if_pos (by simpa using hk),bU l k hk,Option.bind_some,e1,Option.bind_some,w3,NF hk]
  ·rintro z rfl
   refine ⟨_,?_,rfl⟩
   show eH l l.length _ = _
   unfold eH
   rw [if_neg (by simp),List.take_length]
 obtain ⟨x,h1,rfl⟩:=key
 have hol:=MC hr l.length (Nat.le_refl _)
 rw [List.take_length] at hol
 rw [h1,Option.bind_some,if_pos (by omega)]
 rfl
theorem aAw:G3 (uP l):=O0 (E6 _)
theorem aIi {x:Int}:x ∈ uP l ↔ ∃ d ∈ l,∃ r ∈ d.Rights,r.Owner = x:=by
 unfold uP A5
 rw [OP,(E5 _).mem_iff]
 unfold CU
 simp
theorem YD {n:Int} (hc:rL n l = true) {x:Int} (hx:x ∈ uP l):0 <= x ∧ x < 200:=by
 obtain ⟨d,hd,r,hr,rfl⟩:=aIi.1 hx
 unfold rL at hc
 rw [Bool.and_eq_true,List.all_eq_true] at hc
 have:=hc.1 d hd
 unfold NB at this
 simp only [Bool.and_eq_true,List.all_eq_true] at this
 have:=this.2 r hr
 unfold rOk at this
 simp at this
 exact this.2
theorem aAY {a:List Int} (h:G3 a) (hr:∀ x ∈ a,0 <= x ∧ x < 200):wM a = true:=by
 unfold wM
 refine i7.2 fun i hi=>decide_eq_true ?_
 have hm:=hr _ (mF a i hi)
 refine ⟨?_,hm.2⟩
 by_cases e:i = 0
 ·rw [if_pos e]; omega
 ·rw [if_neg e,kA _ _ hi,kA _ _ (by omega)]
  exact List.pairwise_iff_getElem.1 h (i - 1) i (by omega) hi (by omega)
theorem aEO {a b:List Int} (h:∀ x ∈ a,x ∈ b) {d:aE} (hf:nA a d = true):nA b d = true:=by
 unfold nA at hf ⊢
 rw [List.all_eq_true] at hf ⊢
 intro r hr
 have:=hf r hr
 simp at this ⊢
 exact h _ this
end
end Go.Proofs.Ytgjcnbgfaimepaa
