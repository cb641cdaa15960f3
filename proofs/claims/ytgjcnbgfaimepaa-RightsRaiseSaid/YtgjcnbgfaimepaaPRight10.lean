/- Law 43: all ascending lists of places, by their length. -/
import Derived.Test.YtgjcnbgfaimepaaPRight9
set_option linter.unusedVariables false
set_option linter.unusedSimpArgs false
namespace Go.Proofs.Ytgjcnbgfaimepaa
open Go.RowKit Vm
theorem aLT (p:Nat->Bool) (n:Nat):(!(vY (fun i=>!(p i)) n)) = true ↔ ∃ i,i < n ∧ p i = true:=by
 cases h:vY (fun i=>!(p i)) n with
 | true =>
  have:=i7.1 h
  constructor
  ·intro q; cases q
  ·rintro ⟨i,hi,hp⟩
   have:=this i hi
   rw [hp] at this; cases this
 | false =>
  refine ⟨fun _=>?_,fun _=>rfl⟩
  apply Classical.byContradiction
  intro hn
  have:vY (fun i=>!(p i)) n = true:=i7.2 fun i hi=>by
   cases hp:p i with
   | false=>rfl
   | true=>exact absurd ⟨i,hi,hp⟩ hn
  rw [h] at this; cases this
theorem aSp {α:Type} [Inhabited α] (p:α->Bool) (l:List α):l.any p = !(vY (fun i=>!(p (el l i))) l.length):=by
 rw [Bool.eq_iff_iff,List.any_eq_true,aLT]
 constructor
 ·rintro ⟨x,hx,hp⟩
  obtain ⟨i,hi,rfl⟩:=IV hx
  exact ⟨i,hi,hp⟩
 ·rintro ⟨i,hi,hp⟩
  exact ⟨_,mF l i hi,hp⟩
section
theorem aLx (a b:List Int) (ha:a.length < 4611686018427387904) (hb:b.length < 4611686018427387904):pF a b = some (a.all fun x=>b.contains x):=by
 unfold pF dH d9 fF
 have key:=xO (step:=fun w=>bA a b w) (fun i:Nat=>(i:Int)) a.length (fun i=>if (!(b.contains (el a i))) = true then some (i:Int) else none) () ?_ ?_
 ·refine (congrArg (fun o=>Option.bind (Option.bind (Option.bind o _) _) _) key).trans ?_
  rw [Option.bind_some,II (fun i=>!(b.contains (el a i))),Option.bind_some,Option.bind_some,IZ (fun i=>!(b.contains (el a i))),WN]
  simp
 ·intro i hi
  show bA a b i = _
  unfold bA k9
  have w3:IntKind.wrap .i64 ((i:Int) + 1) = ((i + 1:Nat):Int):=bC (by omega)
  rw [if_pos (by simpa using hi),bU a i hi,Option.bind_some,K2 _ _ hb,Option.bind_some,Option.bind_some,w3]
  cases b.contains (el a i) <;> rfl
 ·show bA a b a.length = _
  unfold bA
  rw [if_neg (by simp)]
theorem aR8 (F:List (List Int)) (s:List Int) (hF:F.length < 4611686018427387904) (hs:s.length < 4611686018427387904) (hd:∀ i,i < F.length->(el F i).length < 4611686018427387904):cG F s = some (F.any fun d=>d.all fun x=>s.contains x):=by
 unfold cG d8 fB
 have key:=xO (step:=fun w=>bB F s w) (fun i:Nat=>(i:Int)) F.length (fun i=>if ((el F i).all fun x=>s.contains x) = true then some (i:Int) else none) () ?_ ?_
 ·refine (congrArg (fun o=>Option.bind (Option.bind o _) _) key).trans ?_
  rw [Option.bind_some,II (fun i=>(el F i).all fun x=>s.contains x),Option.bind_some,IZ (fun i=>(el F i).all fun x=>s.contains x),aSp]
 ·intro i hi
  show bB F s i = _
  unfold bB mA
  have w3:IntKind.wrap .i64 ((i:Int) + 1) = ((i + 1:Nat):Int):=bC (by omega)
  rw [if_pos (by simpa using hi),bU F i hi,Option.bind_some,aLx _ _ (hd i hi) hs,Option.bind_some,Option.bind_some,w3]
  cases ((el F i).all fun x=>s.contains x) <;> rfl
 ·show bB F s F.length = _
  unfold bB
  rw [if_neg (by simp)]
end
def stI (s:List Int):Nat:=if s = [] then 0 else (el s (s.length - 1) + 1).toNat
def BZ (N:Nat) (s:List Int):List (List Int):=(List.range' (stI s) (N - stI s)).map fun (t:Nat)=>s ++ [(t:Int)]
def lv (N:Nat):Nat->List (List Int)
 | 0=>[[]]
 | k + 1=>(lv N k).flatMap (BZ N)
structure Ix (N:Nat) (s:List Int):Prop where
 asc:G3 s
 rng:∀ e ∈ s,0 <= e ∧ e < N
theorem Ix.st {N:Nat} {s:List Int} (h:Ix N s):stI s <= N ∧ ∀ e ∈ s,e < stI s:=by
 unfold stI
 by_cases c:s = []
 ·rw [if_pos c,c]
  exact ⟨Nat.zero_le _,fun e he=>by cases he⟩
 ·rw [if_neg c]
  have hl:0 < s.length:=List.length_pos_iff.2 c
  have hm:=h.rng _ (mF s (s.length - 1) (by omega))
  refine ⟨by omega,fun e he=>?_⟩
  obtain ⟨i,hi,rfl⟩:=IV he
  by_cases q:i = s.length - 1
  ·rw [q]; omega
  ·have:=List.pairwise_iff_getElem.1 h.asc i (s.length - 1) hi (by omega) (by omega)
   rw [← kA _ _ hi,← kA _ _ (by omega)] at this
   omega
theorem FG {N:Nat}:∀ k s,s ∈ lv N k ↔ s.length = k ∧ Ix N s
 | 0,s=>by
  show s ∈ [[]] ↔ _
  constructor
  ·intro h
   have:s = []:=by simpa using h
   subst this
   exact ⟨rfl,List.Pairwise.nil,fun e he=>by cases he⟩
  ·rintro ⟨h,_⟩
   have:s = []:=List.eq_nil_of_length_eq_zero h
   subst this; simp
 | k + 1,s=>by
  show s ∈ (lv N k).flatMap (BZ N) ↔ _
  rw [List.mem_flatMap]
  constructor
  ·rintro ⟨p,hp,hs⟩
   obtain ⟨h1,h2⟩:=(FG k p).1 hp
   unfold BZ at hs
   obtain ⟨t,ht,rfl⟩:=List.mem_map.1 hs
   rw [List.mem_range'_1] at ht
   have hst:=h2.st
   refine ⟨by simp [h1],QO h2.asc fun x hx=>by have:=hst.2 x hx; omega,fun e he=>?_⟩
   rcases List.mem_append.1 he with q | q
   ·exact h2.rng e q
   ·have:e = (t:Int):=by simpa using q
    omega
  ·rintro ⟨h1,h2⟩
   have hk:k < s.length:=by omega
   have hs:s = s.take k ++ [el s k]:=by
    rw [kA _ _ hk,← List.take_succ_eq_append_getElem hk,List.take_of_length_le (by omega)]
   have hix:Ix N (s.take k):=⟨h2.asc.sublist (List.take_sublist _ _),fun e he=>h2.rng e (List.mem_of_mem_take he)⟩
   refine ⟨s.take k,(FG k _).2 ⟨by rw [List.length_take]; omega,hix⟩,?_⟩
   have hr:=h2.rng _ (mF s k hk)
   unfold BZ
   refine List.mem_map.2 ⟨(el s k).toNat,List.mem_range'_1.2 ?_,?_⟩
   ·have hst:stI (s.take k) <= (el s k).toNat:=by
     unfold stI
     by_cases c:s.take k = []
     ·rw [if_pos c]; omega
     ·rw [if_neg c]
      have hl:0 < (s.take k).length:=List.length_pos_iff.2 c
      have hl2:(s.take k).length = k:=by rw [List.length_take]; omega
      have e1:el (s.take k) ((s.take k).length - 1) = el s (k - 1):=by
       rw [hl2,kA _ _ (by omega),kA _ _ (by omega),List.getElem_take]
      have:=List.pairwise_iff_getElem.1 h2.asc (k - 1) k (by omega) hk (by omega)
      rw [← kA _ _ (by omega),← kA _ _ hk] at this
      rw [e1]
      omega
    omega
   ·rw [Int.toNat_of_nonneg hr.1,← hs]
theorem aBX {N:Nat}:∀ k,(lv N k).length <= N ^ k
 | 0=>by simp [lv]
 | k + 1=>by
  have ih:=aBX (N:=N) k
  have:∀ p:List (List Int),(p.flatMap (BZ N)).length <= p.length * N:=by
   intro p
   induction p with
   | nil=>simp
   | cons x p ih =>
    rw [List.flatMap_cons,List.length_append,List.length_cons,Nat.add_mul,Nat.one_mul]
    have:(BZ N x).length <= N:=by simp [BZ]
    omega
  show ((lv N k).flatMap (BZ N)).length <= N ^ k * N
  exact Nat.le_trans (this _) (Nat.mul_le_mul_right _ ih)
end Go.Proofs.Ytgjcnbgfaimepaa
