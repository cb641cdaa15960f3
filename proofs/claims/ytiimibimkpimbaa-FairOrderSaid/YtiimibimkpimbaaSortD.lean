/- slices.SortFunc of events by their numbers: what it answers, where all numbers are different. -/
import Derived.Test.YtiimibimkpimbaaVmF
set_option linter.unusedVariables false
set_option linter.unusedSimpArgs false
namespace Go.Proofs.Ytiimibimkpimbaa
namespace Vm
open Go.RowKit
def EI:List D→Int
 | _ :: _ :: _ :: .int .i64 n :: _=>n
 | _=>0
def aEt:D→Bool
 | .int .i64 _=>true
 | _=>false
def I2 (r:List D):Bool:=decide (r.length = 9) && r.all aEt && decide (0 ≤ EI r ∧ EI r < 1000)
def MU (r:List D):List (List D)→List (List D)
 | []=>[r]
 | y :: l=>if EI r < EI y then r :: y :: l else y :: MU r l
def isN (l:List (List D)):List (List D):=l.foldr MU []
def IK:List (List D)→Bool
 | []=>true
 | r :: l=>l.all (fun s=>decide (EI s ≠ EI r)) && IK l
def RE (rows:List (List D)):Bool:=rows.all I2 && IK rows && decide (rows.length ≤ 100000)
def SW (f:Nat):List D→Option D
 | [.own (.ref 0) [(e,size)] [rows],.fn g []]=>if (g = f ∧ size = 9) ∧ RE rows = true then some (.own (.tup []) [(e,size)] [isN rows]) else none
 | _=>none
theorem GL (r:List D):∀ l,(MU r l).Perm (r :: l)
 | []=>.refl _
 | y :: l=>by
  unfold MU
  split
  ·exact .refl _
  ·exact ((GL r l).cons y).trans (.swap r y l)
theorem F7:∀ l,(isN l).Perm l
 | []=>.refl _
 | r :: l=>(GL r (isN l)).trans ((F7 l).cons r)
theorem HR (r:List D):∀ l:List (List D),l.Pairwise (fun a b=>EI a ≤ EI b)→(MU r l).Pairwise (fun a b=>EI a ≤ EI b)
 | [],_=>by simp [MU]
 | y :: l,h=>by
  unfold MU
  obtain ⟨h1,h2⟩:=List.pairwise_cons.1 h
  split
  ·rename_i c
   refine List.pairwise_cons.2 ⟨fun z hz=>?_,h⟩
   rcases List.mem_cons.1 hz with rfl | hz
   ·omega
   ·have:=h1 z hz; omega
  ·rename_i c
   refine List.pairwise_cons.2 ⟨fun z hz=>?_,HR r l h2⟩
   rcases List.mem_cons.1 ((GL r l).mem_iff.1 hz) with rfl | hz
   ·omega
   ·exact h1 z hz
theorem L9:∀ l,(isN l).Pairwise (fun a b=>EI a ≤ EI b)
 | []=>.nil
 | r :: l=>HR r _ (L9 l)
theorem GJ:∀ {l:List (List D)},IK l = true→∀ a ∈ l,∀ b ∈ l,EI a = EI b→a = b
 | [],_,a,ha,_,_,_=>by cases ha
 | r :: l,h,a,ha,b,hb,e=>by
  unfold IK at h
  rw [Bool.and_eq_true,List.all_eq_true] at h
  rcases List.mem_cons.1 ha with e1 | h1
  ·rcases List.mem_cons.1 hb with e2 | h2
   ·rw [e1,e2]
   ·exact absurd (by rw [← e1,e]) (of_decide_eq_true (h.1 b h2))
  ·rcases List.mem_cons.1 hb with e2 | h2
   ·exact absurd (by rw [← e2,e]) (of_decide_eq_true (h.1 a h1))
   ·exact GJ h.2 a h1 b h2 e
theorem WH {l m:List (List D)} (hd:IK l = true) (hp:m.Perm l) (hs:m.Pairwise (fun a b=>EI a ≤ EI b)):m = isN l :=
 List.Perm.eq_of_pairwise (le:=fun a b=>EI a ≤ EI b) (fun a b ha hb h1 h2=>GJ hd a (hp.mem_iff.1 ha) b ((F7 l).mem_iff.1 hb) (by omega)) hs (L9 l) (hp.trans (F7 l).symm)
theorem yR {r:List D} (h:I2 r = true):∃ a b c n f t u d s:Int,r = [.int .i64 a,.int .i64 b,.int .i64 c,.int .i64 n,.int .i64 f,.int .i64 t,.int .i64 u,.int .i64 d,.int .i64 s] ∧ 0 ≤ n ∧ n < 1000:=by
 unfold I2 at h
 rw [Bool.and_eq_true,Bool.and_eq_true,decide_eq_true_eq,decide_eq_true_eq,List.all_eq_true] at h
 obtain ⟨⟨h1,h2⟩,h3⟩:=h
 have hI:∀ x:D,aEt x = true→∃ n,x = .int .i64 n:=fun x hx=>by
  unfold aEt at hx
  split at hx
  ·exact ⟨_,rfl⟩
  ·cases hx
 match r,h1 with
 | [x0,x1,x2,x3,x4,x5,x6,x7,x8],_ =>
  obtain ⟨a,rfl⟩:=hI x0 (h2 _ (by simp))
  obtain ⟨b,rfl⟩:=hI x1 (h2 _ (by simp))
  obtain ⟨c,rfl⟩:=hI x2 (h2 _ (by simp))
  obtain ⟨n,rfl⟩:=hI x3 (h2 _ (by simp))
  obtain ⟨f,rfl⟩:=hI x4 (h2 _ (by simp))
  obtain ⟨t,rfl⟩:=hI x5 (h2 _ (by simp))
  obtain ⟨u,rfl⟩:=hI x6 (h2 _ (by simp))
  obtain ⟨d,rfl⟩:=hI x7 (h2 _ (by simp))
  obtain ⟨s,rfl⟩:=hI x8 (h2 _ (by simp))
  exact ⟨a,b,c,n,f,t,u,d,s,rfl,h3⟩
section
variable {α:Type} (key:α→Int)
def M4 (r:α):List α→List α
 | []=>[r]
 | y :: l=>if key r < key y then r :: y :: l else y :: M4 r l
def isK (l:List α):List α:=l.foldr (M4 key) []
def N5:List α→Bool
 | []=>true
 | r :: l=>l.all (fun s=>decide (key s ≠ key r)) && N5 l
def okK (l:List α):Bool:=l.all (fun x=>decide (0 ≤ key x ∧ key x < 1000)) && N5 key l && decide (l.length ≤ 100000)
variable {key} (c:α→List D) (h:∀ x,EI (c x) = key x)
include h
theorem aCA (r:α):∀ l:List α,MU (c r) (cM c l) = cM c (M4 key r l)
 | []=>rfl
 | y :: l=>by
  show (if EI (c r) < EI (c y) then c r :: c y :: cM c l else c y :: MU (c r) (cM c l)) = cM c (if key r < key y then r :: y :: l else y :: M4 key r l)
  rw [h,h,aCA r l]
  split <;> rfl
theorem aIj:∀ l:List α,isN (cM c l) = cM c (isK key l)
 | []=>rfl
 | r :: l=>by
  show MU (c r) (isN (cM c l)) = cM c (M4 key r (isK key l))
  rw [aIj l,aCA c h]
theorem XS:∀ l:List α,IK (cM c l) = N5 key l
 | []=>rfl
 | r :: l=>by
  show ((cM c l).all (fun s=>decide (EI s ≠ EI (c r))) && IK (cM c l)) = (l.all (fun s=>decide (key s ≠ key r)) && N5 key l)
  rw [XS l,h]
  congr 1
  induction l with
  | nil=>rfl
  | cons y l ih =>
   show (decide (EI (c y) ≠ key r) && (cM c l).all _) = (decide (key y ≠ key r) && l.all _)
   rw [h,ih]
theorem aCK (f e:Nat) (h2:∀ x,I2 (c x) = decide (0 ≤ key x ∧ key x < 1000)) (l:List α):SW f [.own (.ref 0) [(e,9)] [cM c l],.fn f []] = (if okK key l = true then some (isK key l) else none).map fun r=>.own (.tup []) [(e,9)] [cM c r]:=by
 have h3:RE (cM c l) = okK key l:=by
  unfold RE okK
  rw [XS c h]
  have h4:(cM c l).all I2 = l.all fun x=>decide (0 ≤ key x ∧ key x < 1000):=by
   induction l with
   | nil=>rfl
   | cons y l ih =>
    show (I2 (c y) && (cM c l).all I2) = _
    rw [h2,ih]
    rfl
  rw [h4,aL]
 unfold SW
 simp only [h3,and_self,true_and]
 cases okK key l with
 | true=>rw [if_pos rfl,if_pos rfl,aIj c h]; rfl
 | false=>rfl
end
end Vm
end Go.Proofs.Ytiimibimkpimbaa
