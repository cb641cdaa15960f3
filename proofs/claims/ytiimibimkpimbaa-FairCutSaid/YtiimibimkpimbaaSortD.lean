/- slices.SortFunc of events by their numbers: what it answers, where all numbers are different. -/
import Derived.Test.YtiimibimkpimbaaVmF
set_option linter.unusedVariables false
set_option linter.unusedSimpArgs false
namespace Go.Proofs.Ytiimibimkpimbaa
namespace Vm
open Go.RowKit
def EJ:List D→Int
 | _ :: _ :: _ :: .int .i64 n :: _=>n
 | _=>0
def aB7:D→Bool
 | .int .i64 _=>true
 | _=>false
def I5 (r:List D):Bool:=decide (r.length = 9) && r.all aB7 && decide (0 ≤ EJ r ∧ EJ r < 1000)
def MY (r:List D):List (List D)→List (List D)
 | []=>[r]
 | y :: l=>if EJ r < EJ y then r :: y :: l else y :: MY r l
def isN (l:List (List D)):List (List D):=l.foldr MY []
def IG:List (List D)→Bool
 | []=>true
 | r :: l=>l.all (fun s=>decide (EJ s ≠ EJ r)) && IG l
def TA (rows:List (List D)):Bool:=rows.all I5 && IG rows && decide (rows.length ≤ 100000)
def RE (f:Nat):List D→Option D
 | [.own (.ref 0) [(e,size)] [rows],.fn g []]=>if (g = f ∧ size = 9) ∧ TA rows = true then some (.own (.tup []) [(e,size)] [isN rows]) else none
 | _=>none
theorem G9 (r:List D):∀ l,(MY r l).Perm (r :: l)
 | []=>.refl _
 | y :: l=>by
  unfold MY
  split
  ·exact .refl _
  ·exact ((G9 r l).cons y).trans (.swap r y l)
theorem GD:∀ l,(isN l).Perm l
 | []=>.refl _
 | r :: l=>(G9 r (isN l)).trans ((GD l).cons r)
theorem IA (r:List D):∀ l:List (List D),l.Pairwise (fun a b=>EJ a ≤ EJ b)→(MY r l).Pairwise (fun a b=>EJ a ≤ EJ b)
 | [],_=>by simp [MY]
 | y :: l,h=>by
  unfold MY
  obtain ⟨h1,h2⟩:=List.pairwise_cons.1 h
  split
  ·rename_i c
   refine List.pairwise_cons.2 ⟨fun z hz=>?_,h⟩
   rcases List.mem_cons.1 hz with rfl | hz
   ·omega
   ·have:=h1 z hz; omega
  ·rename_i c
   refine List.pairwise_cons.2 ⟨fun z hz=>?_,IA r l h2⟩
   rcases List.mem_cons.1 ((G9 r l).mem_iff.1 hz) with rfl | hz
   ·omega
   ·exact h1 z hz
theorem LY:∀ l,(isN l).Pairwise (fun a b=>EJ a ≤ EJ b)
 | []=>.nil
 | r :: l=>IA r _ (LY l)
theorem GI:∀ {l:List (List D)},IG l = true→∀ a ∈ l,∀ b ∈ l,EJ a = EJ b→a = b
 | [],_,a,ha,_,_,_=>by cases ha
 | r :: l,h,a,ha,b,hb,e=>by
  unfold IG at h
  rw [Bool.and_eq_true,List.all_eq_true] at h
  rcases List.mem_cons.1 ha with e1 | h1
  ·rcases List.mem_cons.1 hb with e2 | h2
   ·rw [e1,e2]
   ·exact absurd (by rw [← e1,e]) (of_decide_eq_true (h.1 b h2))
  ·rcases List.mem_cons.1 hb with e2 | h2
   ·exact absurd (by rw [← e2,e]) (of_decide_eq_true (h.1 a h1))
   ·exact GI h.2 a h1 b h2 e
theorem VH {l m:List (List D)} (hd:IG l = true) (hp:m.Perm l) (hs:m.Pairwise (fun a b=>EJ a ≤ EJ b)):m = isN l :=
 List.Perm.eq_of_pairwise (le:=fun a b=>EJ a ≤ EJ b) (fun a b ha hb h1 h2=>GI hd a (hp.mem_iff.1 ha) b ((GD l).mem_iff.1 hb) (by omega)) hs (LY l) (hp.trans (GD l).symm)
theorem yQ {r:List D} (h:I5 r = true):∃ a b c n f t u d s:Int,r = [.int .i64 a,.int .i64 b,.int .i64 c,.int .i64 n,.int .i64 f,.int .i64 t,.int .i64 u,.int .i64 d,.int .i64 s] ∧ 0 ≤ n ∧ n < 1000:=by
 unfold I5 at h
 rw [Bool.and_eq_true,Bool.and_eq_true,decide_eq_true_eq,decide_eq_true_eq,List.all_eq_true] at h
 obtain ⟨⟨h1,h2⟩,h3⟩:=h
 have hI:∀ x:D,aB7 x = true→∃ n,x = .int .i64 n:=fun x hx=>by
  unfold aB7 at hx
  split at hx
  ·exact ⟨_,rfl⟩
  ·cases hx
 match r,h1 with
 | [x0,x1,x2,x3,x4,x5,x6,x7,x8],_ =>
  obtain ⟨a,rfl⟩:=hI x0 (h2 _ (by simp))
  obtain ⟨b,rfl⟩:=hI x1 (h2 _ (by simp))
  obtain ⟨c,rfl⟩:=hI x2 (h2 _ (by simp))
  obtain ⟨n,rfl⟩:=hI x3 (h2 _ (by simp))
  obtain ⟨f,rfl⟩:=hI x4 (h2 _ (by simp))
  obtain ⟨t,rfl⟩:=hI x5 (h2 _ (by simp))
  obtain ⟨u,rfl⟩:=hI x6 (h2 _ (by simp))
  obtain ⟨d,rfl⟩:=hI x7 (h2 _ (by simp))
  obtain ⟨s,rfl⟩:=hI x8 (h2 _ (by simp))
  exact ⟨a,b,c,n,f,t,u,d,s,rfl,h3⟩
section
variable {α:Type} (key:α→Int)
def M7 (r:α):List α→List α
 | []=>[r]
 | y :: l=>if key r < key y then r :: y :: l else y :: M7 r l
def isK (l:List α):List α:=l.foldr (M7 key) []
def OX:List α→Bool
 | []=>true
 | r :: l=>l.all (fun s=>decide (key s ≠ key r)) && OX l
def okK (l:List α):Bool:=l.all (fun x=>decide (0 ≤ key x ∧ key x < 1000)) && OX key l && decide (l.length ≤ 100000)
variable {key} (c:α→List D) (h:∀ x,EJ (c x) = key x)
include h
theorem aCU (r:α):∀ l:List α,MY (c r) (cM c l) = cM c (M7 key r l)
 | []=>rfl
 | y :: l=>by
  show (if EJ (c r) < EJ (c y) then c r :: c y :: cM c l else c y :: MY (c r) (cM c l)) = cM c (if key r < key y then r :: y :: l else y :: M7 key r l)
  rw [h,h,aCU r l]
  split <;> rfl
theorem aId:∀ l:List α,isN (cM c l) = cM c (isK key l)
 | []=>rfl
 | r :: l=>by
  show MY (c r) (isN (cM c l)) = cM c (M7 key r (isK key l))
  rw [aId l,aCU c h]
theorem YN:∀ l:List α,IG (cM c l) = OX key l
 | []=>rfl
 | r :: l=>by
  show ((cM c l).all (fun s=>decide (EJ s ≠ EJ (c r))) && IG (cM c l)) = (l.all (fun s=>decide (key s ≠ key r)) && OX key l)
  rw [YN l,h]
  congr 1
  induction l with
  | nil=>rfl
  | cons y l ih =>
   show (decide (EJ (c y) ≠ key r) && (cM c l).all _) = (decide (key y ≠ key r) && l.all _)
   rw [h,ih]
theorem aDP (f e:Nat) (h2:∀ x,I5 (c x) = decide (0 ≤ key x ∧ key x < 1000)) (l:List α):RE f [.own (.ref 0) [(e,9)] [cM c l],.fn f []] = (if okK key l = true then some (isK key l) else none).map fun r=>.own (.tup []) [(e,9)] [cM c r]:=by
 have h3:TA (cM c l) = okK key l:=by
  unfold TA okK
  rw [YN c h]
  have h4:(cM c l).all I5 = l.all fun x=>decide (0 ≤ key x ∧ key x < 1000):=by
   induction l with
   | nil=>rfl
   | cons y l ih =>
    show (I5 (c y) && (cM c l).all I5) = _
    rw [h2,ih]
    rfl
  rw [h4,aK]
 unfold RE
 simp only [h3,and_self,true_and]
 cases okK key l with
 | true=>rw [if_pos rfl,if_pos rfl,aId c h]; rfl
 | false=>rfl
end
end Vm
end Go.Proofs.Ytiimibimkpimbaa
