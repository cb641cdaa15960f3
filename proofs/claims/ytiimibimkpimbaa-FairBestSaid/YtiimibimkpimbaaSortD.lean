/- slices.SortFunc of events by their numbers: what it answers, where all numbers are different. -/
import Derived.Test.YtiimibimkpimbaaVmF
set_option linter.unusedVariables false
set_option linter.unusedSimpArgs false
namespace Go.Proofs.Ytiimibimkpimbaa
namespace Vm
open Go.RowKit
def FB:List D→Int
 | _ :: _ :: _ :: .int .i64 n :: _=>n
 | _=>0
def aDq:D→Bool
 | .int .i64 _=>true
 | _=>false
def J0 (r:List D):Bool:=decide (r.length = 9) && r.all aDq && decide (0 ≤ FB r ∧ FB r < 1000)
def NK (r:List D):List (List D)→List (List D)
 | []=>[r]
 | y :: l=>if FB r < FB y then r :: y :: l else y :: NK r l
def isN (l:List (List D)):List (List D):=l.foldr NK []
def JQ:List (List D)→Bool
 | []=>true
 | r :: l=>l.all (fun s=>decide (FB s ≠ FB r)) && JQ l
def S9 (rows:List (List D)):Bool:=rows.all J0 && JQ rows && decide (rows.length ≤ 100000)
def RL (f:Nat):List D→Option D
 | [.own (.ref 0) [(e,size)] [rows],.fn g []]=>if (g = f ∧ size = 9) ∧ S9 rows = true then some (.own (.tup []) [(e,size)] [isN rows]) else none
 | _=>none
theorem HE (r:List D):∀ l,(NK r l).Perm (r :: l)
 | []=>.refl _
 | y :: l=>by
  unfold NK
  split
  ·exact .refl _
  ·exact ((HE r l).cons y).trans (.swap r y l)
theorem GV:∀ l,(isN l).Perm l
 | []=>.refl _
 | r :: l=>(HE r (isN l)).trans ((GV l).cons r)
theorem JN (r:List D):∀ l:List (List D),l.Pairwise (fun a b=>FB a ≤ FB b)→(NK r l).Pairwise (fun a b=>FB a ≤ FB b)
 | [],_=>by simp [NK]
 | y :: l,h=>by
  unfold NK
  obtain ⟨h1,h2⟩:=List.pairwise_cons.1 h
  split
  ·rename_i c
   refine List.pairwise_cons.2 ⟨fun z hz=>?_,h⟩
   rcases List.mem_cons.1 hz with rfl | hz
   ·omega
   ·have:=h1 z hz; omega
  ·rename_i c
   refine List.pairwise_cons.2 ⟨fun z hz=>?_,JN r l h2⟩
   rcases List.mem_cons.1 ((HE r l).mem_iff.1 hz) with rfl | hz
   ·omega
   ·exact h1 z hz
theorem KS:∀ l,(isN l).Pairwise (fun a b=>FB a ≤ FB b)
 | []=>.nil
 | r :: l=>JN r _ (KS l)
theorem IG:∀ {l:List (List D)},JQ l = true→∀ a ∈ l,∀ b ∈ l,FB a = FB b→a = b
 | [],_,a,ha,_,_,_=>by cases ha
 | r :: l,h,a,ha,b,hb,e=>by
  unfold JQ at h
  rw [Bool.and_eq_true,List.all_eq_true] at h
  rcases List.mem_cons.1 ha with e1 | h1
  ·rcases List.mem_cons.1 hb with e2 | h2
   ·rw [e1,e2]
   ·exact absurd (by rw [← e1,e]) (of_decide_eq_true (h.1 b h2))
  ·rcases List.mem_cons.1 hb with e2 | h2
   ·exact absurd (by rw [← e2,e]) (of_decide_eq_true (h.1 a h1))
   ·exact IG h.2 a h1 b h2 e
theorem V6 {l m:List (List D)} (hd:JQ l = true) (hp:m.Perm l) (hs:m.Pairwise (fun a b=>FB a ≤ FB b)):m = isN l :=
 List.Perm.eq_of_pairwise (le:=fun a b=>FB a ≤ FB b) (fun a b ha hb h1 h2=>IG hd a (hp.mem_iff.1 ha) b ((GV l).mem_iff.1 hb) (by omega)) hs (KS l) (hp.trans (GV l).symm)
theorem AQ {r:List D} (h:J0 r = true):∃ a b c n f t u d s:Int,r = [.int .i64 a,.int .i64 b,.int .i64 c,.int .i64 n,.int .i64 f,.int .i64 t,.int .i64 u,.int .i64 d,.int .i64 s] ∧ 0 ≤ n ∧ n < 1000:=by
 unfold J0 at h
 rw [Bool.and_eq_true,Bool.and_eq_true,decide_eq_true_eq,decide_eq_true_eq,List.all_eq_true] at h
 obtain ⟨⟨h1,h2⟩,h3⟩:=h
 have hI:∀ x:D,aDq x = true→∃ n,x = .int .i64 n:=fun x hx=>by
  unfold aDq at hx
  split at hx
  ·exact ⟨_,rfl⟩
  ·cases hx
 match r,h1 with
 | [x0,x1,x2,x3,x4,x5,x6,x7,x8],_ =>
  obtain ⟨a,rfl⟩:=hI x0 (h2 _ (by simp))
  obtain ⟨b,rfl⟩:=hI x1 (h2 _ (by simp))
  obtain ⟨c,rfl⟩:=hI x2 (h2 _ (by simp))
  obtain ⟨n,rfl⟩:=hI x3 (h2 _ (by simp))
  obtain ⟨f,rfl⟩:=hI x4 (h2 _ (by simp))
  obtain ⟨t,rfl⟩:=hI x5 (h2 _ (by simp))
  obtain ⟨u,rfl⟩:=hI x6 (h2 _ (by simp))
  obtain ⟨d,rfl⟩:=hI x7 (h2 _ (by simp))
  obtain ⟨s,rfl⟩:=hI x8 (h2 _ (by simp))
  exact ⟨a,b,c,n,f,t,u,d,s,rfl,h3⟩
section
variable {α:Type} (key:α→Int)
def NP (r:α):List α→List α
 | []=>[r]
 | y :: l=>if key r < key y then r :: y :: l else y :: NP r l
def isK (l:List α):List α:=l.foldr (NP key) []
def PP:List α→Bool
 | []=>true
 | r :: l=>l.all (fun s=>decide (key s ≠ key r)) && PP l
def okK (l:List α):Bool:=l.all (fun x=>decide (0 ≤ key x ∧ key x < 1000)) && PP key l && decide (l.length ≤ 100000)
variable {key} (c:α→List D) (h:∀ x,FB (c x) = key x)
include h
theorem aCK (r:α):∀ l:List α,NK (c r) (cM c l) = cM c (NP key r l)
 | []=>rfl
 | y :: l=>by
  show (if FB (c r) < FB (c y) then c r :: c y :: cM c l else c y :: NK (c r) (cM c l)) = cM c (if key r < key y then r :: y :: l else y :: NP key r l)
  rw [h,h,aCK r l]
  split <;> rfl
theorem aIy:∀ l:List α,isN (cM c l) = cM c (isK key l)
 | []=>rfl
 | r :: l=>by
  show NK (c r) (isN (cM c l)) = cM c (NP key r (isK key l))
  rw [aIy l,aCK c h]
theorem Y2:∀ l:List α,JQ (cM c l) = PP key l
 | []=>rfl
 | r :: l=>by
  show ((cM c l).all (fun s=>decide (FB s ≠ FB (c r))) && JQ (cM c l)) = (l.all (fun s=>decide (key s ≠ key r)) && PP key l)
  rw [Y2 l,h]
  congr 1
  induction l with
  | nil=>rfl
  | cons y l ih =>
   show (decide (FB (c y) ≠ key r) && (cM c l).all _) = (decide (key y ≠ key r) && l.all _)
   rw [h,ih]
theorem aFv (f e:Nat) (h2:∀ x,J0 (c x) = decide (0 ≤ key x ∧ key x < 1000)) (l:List α):RL f [.own (.ref 0) [(e,9)] [cM c l],.fn f []] = (if okK key l = true then some (isK key l) else none).map fun r=>.own (.tup []) [(e,9)] [cM c r]:=by
 have h3:S9 (cM c l) = okK key l:=by
  unfold S9 okK
  rw [Y2 c h]
  have h4:(cM c l).all J0 = l.all fun x=>decide (0 ≤ key x ∧ key x < 1000):=by
   induction l with
   | nil=>rfl
   | cons y l ih =>
    show (J0 (c y) && (cM c l).all J0) = _
    rw [h2,ih]
    rfl
  rw [h4,aL]
 unfold RL
 simp only [h3,and_self,true_and]
 cases okK key l with
 | true=>rw [if_pos rfl,if_pos rfl,aIy c h]; rfl
 | false=>rfl
end
end Vm
end Go.Proofs.Ytiimibimkpimbaa
