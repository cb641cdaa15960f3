/- slices.SortFunc of events by their numbers: what it answers, where all numbers are different. -/
import Derived.Test.YtiimibimkpimbaaVmF
set_option linter.unusedVariables false
set_option linter.unusedSimpArgs false
namespace Go.Proofs.Ytiimibimkpimbaa
namespace Vm
open Go.RowKit
def E4:List D→Int
 | _ :: _ :: _ :: .int .i64 n :: _=>n
 | _=>0
def aDW:D→Bool
 | .int .i64 _=>true
 | _=>false
def JW (r:List D):Bool:=decide (r.length = 9) && r.all aDW && decide (0 ≤ E4 r ∧ E4 r < 1000)
def NU (r:List D):List (List D)→List (List D)
 | []=>[r]
 | y :: l=>if E4 r < E4 y then r :: y :: l else y :: NU r l
def isN (l:List (List D)):List (List D):=l.foldr NU []
def IR:List (List D)→Bool
 | []=>true
 | r :: l=>l.all (fun s=>decide (E4 s ≠ E4 r)) && IR l
def SO (rows:List (List D)):Bool:=rows.all JW && IR rows && decide (rows.length ≤ 100000)
def UZ (f:Nat):List D→Option D
 | [.own (.ref 0) [(e,size)] [rows],.fn g []]=>if (g = f ∧ size = 9) ∧ SO rows = true then some (.own (.tup []) [(e,size)] [isN rows]) else none
 | _=>none
theorem HF (r:List D):∀ l,(NU r l).Perm (r :: l)
 | []=>.refl _
 | y :: l=>by
  unfold NU
  split
  ·exact .refl _
  ·exact ((HF r l).cons y).trans (.swap r y l)
theorem GZ:∀ l,(isN l).Perm l
 | []=>.refl _
 | r :: l=>(HF r (isN l)).trans ((GZ l).cons r)
theorem IZ (r:List D):∀ l:List (List D),l.Pairwise (fun a b=>E4 a ≤ E4 b)→(NU r l).Pairwise (fun a b=>E4 a ≤ E4 b)
 | [],_=>by simp [NU]
 | y :: l,h=>by
  unfold NU
  obtain ⟨h1,h2⟩:=List.pairwise_cons.1 h
  split
  ·rename_i c
   refine List.pairwise_cons.2 ⟨fun z hz=>?_,h⟩
   rcases List.mem_cons.1 hz with rfl | hz
   ·omega
   ·have:=h1 z hz; omega
  ·rename_i c
   refine List.pairwise_cons.2 ⟨fun z hz=>?_,IZ r l h2⟩
   rcases List.mem_cons.1 ((HF r l).mem_iff.1 hz) with rfl | hz
   ·omega
   ·exact h1 z hz
theorem L8:∀ l,(isN l).Pairwise (fun a b=>E4 a ≤ E4 b)
 | []=>.nil
 | r :: l=>IZ r _ (L8 l)
theorem HK:∀ {l:List (List D)},IR l = true→∀ a ∈ l,∀ b ∈ l,E4 a = E4 b→a = b
 | [],_,a,ha,_,_,_=>by cases ha
 | r :: l,h,a,ha,b,hb,e=>by
  unfold IR at h
  rw [Bool.and_eq_true,List.all_eq_true] at h
  rcases List.mem_cons.1 ha with e1 | h1
  ·rcases List.mem_cons.1 hb with e2 | h2
   ·rw [e1,e2]
   ·exact absurd (by rw [← e1,e]) (of_decide_eq_true (h.1 b h2))
  ·rcases List.mem_cons.1 hb with e2 | h2
   ·exact absurd (by rw [← e2,e]) (of_decide_eq_true (h.1 a h1))
   ·exact HK h.2 a h1 b h2 e
theorem WN {l m:List (List D)} (hd:IR l = true) (hp:m.Perm l) (hs:m.Pairwise (fun a b=>E4 a ≤ E4 b)):m = isN l :=
 List.Perm.eq_of_pairwise (le:=fun a b=>E4 a ≤ E4 b) (fun a b ha hb h1 h2=>HK hd a (hp.mem_iff.1 ha) b ((GZ l).mem_iff.1 hb) (by omega)) hs (L8 l) (hp.trans (GZ l).symm)
theorem AP {r:List D} (h:JW r = true):∃ a b c n f t u d s:Int,r = [.int .i64 a,.int .i64 b,.int .i64 c,.int .i64 n,.int .i64 f,.int .i64 t,.int .i64 u,.int .i64 d,.int .i64 s] ∧ 0 ≤ n ∧ n < 1000:=by
 unfold JW at h
 rw [Bool.and_eq_true,Bool.and_eq_true,decide_eq_true_eq,decide_eq_true_eq,List.all_eq_true] at h
 obtain ⟨⟨h1,h2⟩,h3⟩:=h
 have hI:∀ x:D,aDW x = true→∃ n,x = .int .i64 n:=fun x hx=>by
  unfold aDW at hx
  split at hx
  ·exact ⟨_,rfl⟩
  ·cases hx
 match r,h1 with
 | [x0,x1,x2,x3,x4,x5,x6,x7,x8],_ =>
  obtain ⟨a,rfl⟩:=hI x0 (h2 _ (by simp))
  obtain ⟨b,rfl⟩:=hI x1 (h2 _ (by simp))
  obtain ⟨c,rfl⟩:=hI x2 (h2 _ (by simp))
  obtain ⟨n,rfl⟩:=hI x3 (h2 _ (by simp))
  obtain ⟨f,rfl⟩:=hI x4 (h2 _ (by simp))
  obtain ⟨t,rfl⟩:=hI x5 (h2 _ (by simp))
  obtain ⟨u,rfl⟩:=hI x6 (h2 _ (by simp))
  obtain ⟨d,rfl⟩:=hI x7 (h2 _ (by simp))
  obtain ⟨s,rfl⟩:=hI x8 (h2 _ (by simp))
  exact ⟨a,b,c,n,f,t,u,d,s,rfl,h3⟩
section
variable {α:Type} (key:α→Int)
def NH (r:α):List α→List α
 | []=>[r]
 | y :: l=>if key r < key y then r :: y :: l else y :: NH r l
def isK (l:List α):List α:=l.foldr (NH key) []
def PH:List α→Bool
 | []=>true
 | r :: l=>l.all (fun s=>decide (key s ≠ key r)) && PH l
def okK (l:List α):Bool:=l.all (fun x=>decide (0 ≤ key x ∧ key x < 1000)) && PH key l && decide (l.length ≤ 100000)
variable {key} (c:α→List D) (h:∀ x,E4 (c x) = key x)
include h
theorem aEj (r:α):∀ l:List α,NU (c r) (cM c l) = cM c (NH key r l)
 | []=>rfl
 | y :: l=>by
  show (if E4 (c r) < E4 (c y) then c r :: c y :: cM c l else c y :: NU (c r) (cM c l)) = cM c (if key r < key y then r :: y :: l else y :: NH key r l)
  rw [h,h,aEj r l]
  split <;> rfl
theorem aIW:∀ l:List α,isN (cM c l) = cM c (isK key l)
 | []=>rfl
 | r :: l=>by
  show NU (c r) (isN (cM c l)) = cM c (NH key r (isK key l))
  rw [aIW l,aEj c h]
theorem YW:∀ l:List α,IR (cM c l) = PH key l
 | []=>rfl
 | r :: l=>by
  show ((cM c l).all (fun s=>decide (E4 s ≠ E4 (c r))) && IR (cM c l)) = (l.all (fun s=>decide (key s ≠ key r)) && PH key l)
  rw [YW l,h]
  congr 1
  induction l with
  | nil=>rfl
  | cons y l ih =>
   show (decide (E4 (c y) ≠ key r) && (cM c l).all _) = (decide (key y ≠ key r) && l.all _)
   rw [h,ih]
theorem aEl (f e:Nat) (h2:∀ x,JW (c x) = decide (0 ≤ key x ∧ key x < 1000)) (l:List α):UZ f [.own (.ref 0) [(e,9)] [cM c l],.fn f []] = (if okK key l = true then some (isK key l) else none).map fun r=>.own (.tup []) [(e,9)] [cM c r]:=by
 have h3:SO (cM c l) = okK key l:=by
  unfold SO okK
  rw [YW c h]
  have h4:(cM c l).all JW = l.all fun x=>decide (0 ≤ key x ∧ key x < 1000):=by
   induction l with
   | nil=>rfl
   | cons y l ih =>
    show (JW (c y) && (cM c l).all JW) = _
    rw [h2,ih]
    rfl
  rw [h4,aK]
 unfold UZ
 simp only [h3,and_self,true_and]
 cases okK key l with
 | true=>rw [if_pos rfl,if_pos rfl,aIW c h]; rfl
 | false=>rfl
end
end Vm
end Go.Proofs.Ytiimibimkpimbaa
