/- slices.SortFunc of events by their numbers: what it answers, where all numbers are different. -/
import Derived.Test.YtiimibimkpimbaaVmF
set_option linter.unusedVariables false
set_option linter.unusedSimpArgs false
namespace Go.Proofs.Ytiimibimkpimbaa
namespace Vm
open Go.RowKit
def E5:List D->Int
 | _ :: _ :: _ :: .int .i64 n :: _=>n
 | _=>0
def aCF:D->Bool
 | .int .i64 _=>true
 | _=>false
def J2 (r:List D):Bool:=decide (r.length = 9) && r.all aCF && decide (0 <= E5 r ∧ E5 r < 1000)
def NS (r:List D):List (List D)->List (List D)
 | []=>[r]
 | y :: l=>if E5 r < E5 y then r :: y :: l else y :: NS r l
def isN (l:List (List D)):List (List D):=l.foldr NS []
def IG:List (List D)->Bool
 | []=>true
 | r :: l=>l.all (fun s=>decide (E5 s ≠ E5 r)) && IG l
def T5 (rows:List (List D)):Bool:=rows.all J2 && IG rows && decide (rows.length <= 100000)
def SZ (f:Nat):List D->Option D
 | [.own (.ref 0) [(e,size)] [rows],.fn g []]=>if (g = f ∧ size = 9) ∧ T5 rows = true then some (.own (.tup []) [(e,size)] [isN rows]) else none
 | _=>none
theorem HN (r:List D):∀ l,(NS r l).Perm (r :: l)
 | []=>.refl _
 | y :: l=>by
  unfold NS
  split
  ·exact .refl _
  ·exact ((HN r l).cons y).trans (.swap r y l)
theorem GU:∀ l,(isN l).Perm l
 | []=>.refl _
 | r :: l=>(HN r (isN l)).trans ((GU l).cons r)
theorem I4 (r:List D):∀ l:List (List D),l.Pairwise (fun a b=>E5 a <= E5 b)->(NS r l).Pairwise (fun a b=>E5 a <= E5 b)
 | [],_=>by simp [NS]
 | y :: l,h=>by
  unfold NS
  obtain ⟨h1,h2⟩:=List.pairwise_cons.1 h
  split
  ·rename_i c
   refine List.pairwise_cons.2 ⟨fun z hz=>?_,h⟩
   rcases List.mem_cons.1 hz with rfl | hz
   ·omega
   ·have:=h1 z hz; omega
  ·rename_i c
   refine List.pairwise_cons.2 ⟨fun z hz=>?_,I4 r l h2⟩
   rcases List.mem_cons.1 ((HN r l).mem_iff.1 hz) with rfl | hz
   ·omega
   ·exact h1 z hz
theorem LX:∀ l,(isN l).Pairwise (fun a b=>E5 a <= E5 b)
 | []=>.nil
 | r :: l=>I4 r _ (LX l)
theorem HC:∀ {l:List (List D)},IG l = true->∀ a ∈ l,∀ b ∈ l,E5 a = E5 b->a = b
 | [],_,a,ha,_,_,_=>by cases ha
 | r :: l,h,a,ha,b,hb,e=>by
  unfold IG at h
  rw [Bool.and_eq_true,List.all_eq_true] at h
  rcases List.mem_cons.1 ha with e1 | h1
  ·rcases List.mem_cons.1 hb with e2 | h2
   ·rw [e1,e2]
   ·exact absurd (by rw [← e1,e]) (of_decide_eq_true (h.1 b h2))
  ·rcases List.mem_cons.1 hb with e2 | h2
   ·exact absurd (by rw [← e2,e]) (of_decide_eq_true (h.1 a h1))
   ·exact HC h.2 a h1 b h2 e
theorem X2 {l m:List (List D)} (hd:IG l = true) (hp:m.Perm l) (hs:m.Pairwise (fun a b=>E5 a <= E5 b)):m = isN l :=
 List.Perm.eq_of_pairwise (le:=fun a b=>E5 a <= E5 b) (fun a b ha hb h1 h2=>HC hd a (hp.mem_iff.1 ha) b ((GU l).mem_iff.1 hb) (by omega)) hs (LX l) (hp.trans (GU l).symm)
theorem zW {r:List D} (h:J2 r = true):∃ a b c n f t u d s:Int,r = [.int .i64 a,.int .i64 b,.int .i64 c,.int .i64 n,.int .i64 f,.int .i64 t,.int .i64 u,.int .i64 d,.int .i64 s] ∧ 0 <= n ∧ n < 1000:=by
 unfold J2 at h
 rw [Bool.and_eq_true,Bool.and_eq_true,decide_eq_true_eq,decide_eq_true_eq,List.all_eq_true] at h
 obtain ⟨⟨h1,h2⟩,h3⟩:=h
 have hI:∀ x:D,aCF x = true->∃ n,x = .int .i64 n:=fun x hx=>by
  unfold aCF at hx
  split at hx
  ·exact ⟨_,rfl⟩
  ·cases hx
 match r,h1 with
 | [x0,x1,x2,x3,x4,x5,x6,x7,x8],_ =>
  obtain ⟨a,rfl⟩:=hI x0 (h2 _ (by simp))
  obtain ⟨b,rfl⟩:=hI x1 (h2 _ (by simp))
  obtain ⟨c,rfl⟩:=hI x2 (h2 _ (by simp))
  obtain ⟨n,rfl⟩:=hI x3 (h2 _ (by simp))
  obtain ⟨f,rfl⟩:=hI x4 (h2 _ (by simp))
  obtain ⟨t,rfl⟩:=hI x5 (h2 _ (by simp))
  obtain ⟨u,rfl⟩:=hI x6 (h2 _ (by simp))
  obtain ⟨d,rfl⟩:=hI x7 (h2 _ (by simp))
  obtain ⟨s,rfl⟩:=hI x8 (h2 _ (by simp))
  exact ⟨a,b,c,n,f,t,u,d,s,rfl,h3⟩
section
variable {α:Type} (key:α->Int)
def NA (r:α):List α->List α
 | []=>[r]
 | y :: l=>if key r < key y then r :: y :: l else y :: NA r l
def isK (l:List α):List α:=l.foldr (NA key) []
def N6:List α->Bool
 | []=>true
 | r :: l=>l.all (fun s=>decide (key s ≠ key r)) && N6 l
def okK (l:List α):Bool:=l.all (fun x=>decide (0 <= key x ∧ key x < 1000)) && N6 key l && decide (l.length <= 100000)
variable {key} (c:α->List D) (h:∀ x,E5 (c x) = key x)
include h
theorem aFt (r:α):∀ l:List α,NS (c r) (cM c l) = cM c (NA key r l)
 | []=>rfl
 | y :: l=>by
  show (if E5 (c r) < E5 (c y) then c r :: c y :: cM c l else c y :: NS (c r) (cM c l)) = cM c (if key r < key y then r :: y :: l else y :: NA key r l)
  rw [h,h,aFt r l]
  split <;> rfl
theorem aIK:∀ l:List α,isN (cM c l) = cM c (isK key l)
 | []=>rfl
 | r :: l=>by
  show NS (c r) (isN (cM c l)) = cM c (NA key r (isK key l))
  rw [aIK l,aFt c h]
theorem ZK:∀ l:List α,IG (cM c l) = N6 key l
 | []=>rfl
 | r :: l=>by
  show ((cM c l).all (fun s=>decide (E5 s ≠ E5 (c r))) && IG (cM c l)) = (l.all (fun s=>decide (key s ≠ key r)) && N6 key l)
  rw [ZK l,h]
  congr 1
  induction l with
  | nil=>rfl
  | cons y l ih =>
   show (decide (E5 (c y) ≠ key r) && (cM c l).all _) = (decide (key y ≠ key r) && l.all _)
   rw [h,ih]
theorem aC1 (f e:Nat) (h2:∀ x,J2 (c x) = decide (0 <= key x ∧ key x < 1000)) (l:List α):SZ f [.own (.ref 0) [(e,9)] [cM c l],.fn f []] = (if okK key l = true then some (isK key l) else none).map fun r=>.own (.tup []) [(e,9)] [cM c r]:=by
 have h3:T5 (cM c l) = okK key l:=by
  unfold T5 okK
  rw [ZK c h]
  have h4:(cM c l).all J2 = l.all fun x=>decide (0 <= key x ∧ key x < 1000):=by
   induction l with
   | nil=>rfl
   | cons y l ih =>
    show (J2 (c y) && (cM c l).all J2) = _
    rw [h2,ih]
    rfl
  rw [h4,aL]
 unfold SZ
 simp only [h3,and_self,true_and]
 cases okK key l with
 | true=>rw [if_pos rfl,if_pos rfl,aIK c h]; rfl
 | false=>rfl
end
end Vm
end Go.Proofs.Ytiimibimkpimbaa
