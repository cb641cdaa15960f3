/- Law 43: RightsRaise. -/
import Derived.Test.YtgjcnbgfaimepaaPRight11
set_option linter.unusedVariables false
set_option linter.unusedSimpArgs false
namespace Go.Proofs.Ytgjcnbgfaimepaa
open Go.RowKit Vm
section
variable {m:Nat} {l:List aE} {asked:List Int} {base:Int}
structure FI (m:Nat) (l:List aE) (asked:List Int) (base:Int) (Z F:List (List Int)):Prop where
 fine:∀ d ∈ F,∃ P1 P2,Z = P1 ++ d :: P2 ∧ AF m l (asked ++ d) > base ∧ ∀ s ∈ P1,(∀ x ∈ s,x ∈ d)->¬ AF m l (asked ++ s) > base
 all:∀ s ∈ Z,(∃ d ∈ F,∀ x ∈ d,x ∈ s) ∨ ¬ AF m l (asked ++ s) > base
theorem aAu {F:List (List Int)} {s:List Int}:(F.any fun d=>d.all fun x=>s.contains x) = true ↔ ∃ d ∈ F,∀ x ∈ d,x ∈ s:=by
 simp
theorem FI.step {Z F:List (List Int)} (h:FI m l asked base Z F) (s:List Int):FI m l asked base (Z ++ [s]) (K6 m l asked base F s):=by
 have old:∀ d ∈ F,∃ P1 P2,Z ++ [s] = P1 ++ d :: P2 ∧ AF m l (asked ++ d) > base ∧ ∀ s ∈ P1,(∀ x ∈ s,x ∈ d)->¬ AF m l (asked ++ s) > base:=fun d hd=>by
  obtain ⟨P1,P2,e,h1,h2⟩:=h.fine d hd
  exact ⟨P1,P2 ++ [s],by rw [e]; simp,h1,h2⟩
 unfold K6
 by_cases c:(F.any fun d=>d.all fun x=>s.contains x) = true
 ·rw [if_pos c]
  refine ⟨old,fun z hz=>?_⟩
  rcases List.mem_append.1 hz with q | q
  ·exact h.all z q
  ·have:z = s:=by simpa using q
   rw [this]; exact .inl (aAu.1 c)
 ·rw [if_neg c]
  by_cases c2:AF m l (asked ++ s) > base
  ·rw [if_pos c2]
   refine ⟨fun d hd=>?_,fun z hz=>?_⟩
   ·rcases List.mem_append.1 hd with q | q
    ·exact old d q
    ·have:d = s:=by simpa using q
     subst this
     refine ⟨Z,[],rfl,c2,fun z hz hs=>?_⟩
     rcases h.all z hz with ⟨d2,h1,h2⟩ | q
     ·exact absurd (aAu.2 ⟨d2,h1,fun x hx=>hs x (h2 x hx)⟩) c
     ·exact q
   ·rcases List.mem_append.1 hz with q | q
    ·rcases h.all z q with ⟨d,h1,h2⟩ | q
     ·exact .inl ⟨d,by simp [h1],h2⟩
     ·exact .inr q
    ·have:z = s:=by simpa using q
     subst this
     exact .inl ⟨z,by simp,fun x hx=>hx⟩
  ·rw [if_neg c2]
   refine ⟨old,fun z hz=>?_⟩
   rcases List.mem_append.1 hz with q | q
   ·exact h.all z q
   ·have:z = s:=by simpa using q
    rw [this]; exact .inr c2
theorem FI.fold:∀ (Z2 Z F:List (List Int)),FI m l asked base Z F->FI m l asked base (Z ++ Z2) (Z2.foldl (K6 m l asked base) F)
 | [],Z,F,h=>by rw [List.append_nil]; exact h
 | s :: Z2,Z,F,h=>by
  have:=FI.fold Z2 _ _ (h.step s)
  rw [List.append_assoc] at this
  exact this
theorem ZD (O:List Int) (k:Nat):FI m l asked base (ED O k) (zX m l asked O base k):=by
 have:=FI.fold (m:=m) (l:=l) (asked:=asked) (base:=base) (ED O k) [] [] ⟨fun d h=>(by cases h),fun s h=>(by cases h)⟩
 exact this
theorem aDO (O:List Int):∀ k,(ED O k).Pairwise fun a b=>a.length <= b.length
 | 0=>by simp [ED]
 | k + 1=>by
  rw [I1]
  refine List.pairwise_append.2 ⟨aDO O k,?_,fun a ha b hb=>?_⟩
  ·rw [List.pairwise_map]
   refine List.Pairwise.imp_of_mem (R:=fun _ _=>True) (fun {a b} ha hb _=>?_) (List.pairwise_of_forall (fun _ _=>trivial))
   have h1:=((FG _ _).1 ha).1
   have h2:=((FG _ _).1 hb).1
   simp [jC]; omega
  ·obtain ⟨S,_,_,h3,rfl⟩:=H5.1 ha
   obtain ⟨T,hT,rfl⟩:=List.mem_map.1 hb
   have h2:=((FG _ _).1 hT).1
   simp [jC]; omega
theorem aGw {O S:List Int} (h:Ix O.length S):∀ x ∈ jC O S,x ∈ O:=by
 intro x hx
 obtain ⟨e,he,rfl⟩:=List.mem_map.1 hx
 have:=h.rng e he
 exact mF O _ (by omega)
theorem aGf {O S:List Int} (hO:G3 O) (h:Ix O.length S):G3 (jC O S):=by
 unfold jC G3
 rw [List.pairwise_map]
 refine List.Pairwise.imp_of_mem (fun {a b} ha hb q=>?_) h.asc
 have h1:=h.rng a ha
 have h2:=h.rng b hb
 rw [kA _ _ (by omega),kA _ _ (by omega)]
 exact List.pairwise_iff_getElem.1 hO _ _ (by omega) (by omega) (by omega)
theorem aDs {O S:List Int} (i:Nat):(jC O S).take i ++ (jC O S).drop (i + 1) = jC O (S.take i ++ S.drop (i + 1)):=by
 unfold jC
 rw [List.map_append,List.map_take,List.map_drop]
theorem PB {S:List Int} (i:Nat):(S.take i ++ S.drop (i + 1)).Sublist S:=by
 have h:S.take i ++ S.drop i = S:=List.take_append_drop i S
 have h2:(S.drop (i + 1)).Sublist (S.drop i):=by
  rw [show S.drop (i + 1) = (S.drop i).drop 1 by rw [List.drop_drop]]
  exact List.drop_sublist _ _
 have h3:(S.take i ++ S.drop (i + 1)).Sublist (S.take i ++ S.drop i):=(List.Sublist.refl _).append h2
 rwa [h] at h3
structure aTU (m:Nat) (l:List aE) (asked O:List Int) (d:List Int):Prop where
 pos:0 < d.length
 len:d.length <= O.length
 asc:G3 d
 sub:∀ x ∈ d,x ∈ O
 more:AF m l (asked ++ d) > AF m l asked
 less:∀ i,i < d.length->AF m l (asked ++ (d.take i ++ d.drop (i + 1))) = AF m l asked
theorem aCw (hk:EM m (l.map gD)) (hsh:∀ z:List Int,z.length <= 100->xH l (asked ++ z)) {O:List Int} (hO:G3 O) (hOl:O.length <= 50) {d:List Int} (hd:d ∈ zX m l asked O (AF m l asked) O.length):aTU m l asked O d:=by
 obtain ⟨P1,P2,hZ,h1,h2⟩:=(ZD (m:=m) (l:=l) (asked:=asked) (base:=AF m l asked) O O.length).fine d hd
 have hin:d ∈ ED O O.length:=by rw [hZ]; simp
 obtain ⟨S,hI,hp,hle,rfl⟩:=H5.1 hin
 have hsl:(jC O S).length = S.length:=by simp [jC]
 have hempty:xH l asked:=by have:=hsh [] (by simp); rwa [List.append_nil] at this
 refine ⟨by omega,by omega,aGf hO hI,aGw hI,h1,fun i hi=>?_⟩
 rw [aDs]
 have hsub:=PB (S:=S) i
 have hI' : Ix O.length (S.take i ++ S.drop (i + 1)):=⟨hI.asc.sublist hsub,fun e he=>hI.rng e (hsub.subset he)⟩
 have hlen:(S.take i ++ S.drop (i + 1)).length + 1 = S.length:=by
  rw [List.length_append,List.length_take,List.length_drop]
  omega
 have hge:AF m l asked <= AF m l (asked ++ jC O (S.take i ++ S.drop (i + 1))):=MD hempty (hsh _ (by simp [jC] at *; omega)) hk fun x hx=>by simp [hx]
 have hle2:¬ AF m l (asked ++ jC O (S.take i ++ S.drop (i + 1))) > AF m l asked:=by
  by_cases c:(S.take i ++ S.drop (i + 1)).length = 0
  ·have:S.take i ++ S.drop (i + 1) = []:=List.eq_nil_of_length_eq_zero c
   rw [this]
   show ¬ AF m l (asked ++ []) > _
   rw [List.append_nil]; omega
  ·have hin2:jC O (S.take i ++ S.drop (i + 1)) ∈ ED O O.length:=H5.2 ⟨_,hI',by omega,by omega,rfl⟩
   have hl2:(jC O (S.take i ++ S.drop (i + 1))).length + 1 = (jC O S).length:=by
    rw [hsl,← hlen]; simp [jC]
   have hup:=aDO O O.length
   rw [hZ] at hin2 hup
   have hpw:=List.pairwise_append.1 hup
   rcases List.mem_append.1 hin2 with q | q
   ·exact h2 _ q fun x hx=>by
     obtain ⟨e,he,rfl⟩:=List.mem_map.1 hx
     exact List.mem_map.2 ⟨e,hsub.subset he,rfl⟩
   ·rcases List.mem_cons.1 q with q | q
    ·rw [q] at hl2; omega
    ·have:=(List.pairwise_cons.1 hpw.2.1).1 _ q
     omega
 omega
theorem CE {a:List Int} (h:wM a = true):G3 a ∧ ∀ x ∈ a,0 <= x ∧ x < 200:=by
 unfold wM at h
 have h1:∀ i,i < a.length->(if i = 0 then -1 else el a (i - 1)) < el a i ∧ el a i < 200:=fun i hi=>of_decide_eq_true (i7.1 h i hi)
 have h2:∀ j i,i < j->j < a.length->el a i < el a j:=by
  intro j
  induction j with
  | zero=>intro i hi; omega
  | succ j ih =>
   intro i hi hj
   have h3:=(h1 (j + 1) hj).1
   rw [if_neg (by omega),Nat.add_sub_cancel] at h3
   by_cases e:i = j
   ·rw [e]; exact h3
   ·have:=ih i (by omega) (by omega)
    omega
 refine ⟨List.pairwise_iff_getElem.2 fun i j hi hj hij=>?_,fun x hx=>?_⟩
 ·have:=h2 j i hij hj
  rwa [kA _ _ hi,kA _ _ hj] at this
 ·obtain ⟨i,hi,rfl⟩:=IV hx
  have h3:=h1 i hi
  refine ⟨?_,h3.2⟩
  by_cases e:i = 0
  ·rw [if_pos e] at h3; omega
  ·have h4:=h2 i 0 (by omega) hi
   have h5:=(h1 0 (by omega)).1
   rw [if_pos rfl] at h5
   omega
end
end Go.Proofs.Ytgjcnbgfaimepaa
