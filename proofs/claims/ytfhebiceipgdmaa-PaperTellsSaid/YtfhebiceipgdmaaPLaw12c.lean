/- The laws of layer 12 (paper): PaperParts. -/
import Derived.Test.YtfhebiceipgdmaaPLaw12b
set_option linter.unusedVariables false
set_option linter.unusedSimpArgs false
namespace Go.Proofs.Ytfhebiceipgdmaa
open Go.RowKit Vm
def ofN (S:List aX) (part:Int) (n:Nat):List Nat:=(List.range n).filter fun i=>SU S (i:Int) part
def ofL (f:aB) (part:Int):List Int:=(ofN f.Signs part f.Signs.length).map fun i:Nat=>(i:Int)
theorem R0 (S:List aX) (part:Int) (n:Nat):(ofN S part n).length ≤ n:=by
 have:=List.length_filter_le (fun i:Nat=>SU S (i:Int) part) (List.range n)
 simpa [ofN] using this
theorem UU (S:List aX) (part:Int) (n:Nat):ofN S part (n + 1) = if SU S (n:Int) part = true then ofN S part n ++ [n] else ofN S part n:=by
 unfold ofN
 rw [List.range_succ,List.filter_append]
 by_cases h:SU S (n:Int) part = true
 ·rw [if_pos h]; simp [h]
 ·rw [if_neg h]; simp [h]
theorem aK1 (f:aB) (part:Int) (hl:f.Signs.length ≤ 50):vE f part = some (ofL f part):=by
 have l1:wG f part 0 [] = some (ofL f part):=by
  unfold wG
  refine dB (step:=fun w=>nE f part w.1 w.2) (fun k:Nat=>((k:Int),(ofN f.Signs part k).map fun i:Nat=>(i:Int))) f.Signs.length (ofL f part) ?_ ?_
  ·intro k hk
   have:=R0 f.Signs part k
   simp only [nE,i8 hk,if_true,LI f _ _ (.inr ⟨show (0:Int) ≤ (k:Int) by omega,show (k:Int) < f.Signs.length by omega⟩),Option.bind_some,b9 (show k < 9223372036854775807 by omega),UU,List.length_map]
   by_cases h:SU f.Signs (k:Int) part = true
   ·rw [if_pos h,if_pos (by omega),if_pos h]; simp
   ·rw [if_neg h,if_neg h]
  ·simp only [nE,kH,if_false]; rfl
 unfold vE
 rw [l1]; rfl
def MK (S:List aX) (n:Nat):List Nat:=(List.range n).filter fun i=>(el S i).Kind == 1
def WZ (f:aB):List Int:=(MK f.Signs f.Signs.length).map fun i:Nat=>(i:Int)
theorem QE (S:List aX) (n:Nat):MK S (n + 1) = if ((el S n).Kind == 1) = true then MK S n ++ [n] else MK S n:=by
 unfold MK
 rw [List.range_succ,List.filter_append]
 by_cases h:((el S n).Kind == 1) = true
 ·rw [if_pos h]; simp [h]
 ·rw [if_neg h]; simp [h]
theorem WI (f:aB) (hl:f.Signs.length ≤ 50):l8 f = some (WZ f):=by
 have l1:nZ f 0 [] = some (WZ f):=by
  unfold nZ
  refine dB (step:=fun w=>gT f w.1 w.2) (fun k:Nat=>((k:Int),(MK f.Signs k).map fun i:Nat=>(i:Int))) f.Signs.length (WZ f) ?_ ?_
  ·intro k hk
   have h1:=List.length_filter_le (fun i:Nat=>(el f.Signs i).Kind == 1) (List.range k)
   have h2:(MK f.Signs k).length ≤ k:=by simpa [MK] using h1
   simp only [gT,i8 hk,if_true,cY _ _ hk,Option.bind_some,b9 (show k < 9223372036854775807 by omega),QE,List.length_map]
   by_cases h:((el f.Signs k).Kind == 1) = true
   ·rw [if_pos h,if_pos (by omega),if_pos h]; simp
   ·rw [if_neg h,if_neg h]
  ·simp only [gT,kH,if_false]; rfl
 unfold l8
 rw [l1]; rfl
theorem aBp {r:aA} {f:aB} {i:Nat} (h:pS r f i = 0):(0 ≤ (el f.Signs i).Part ∧ (el f.Signs i).Part ≤ hiP f.Bill) ∧ (oM f i ≤ (el f.Signs i).Day ∧ (el f.Signs i).Day ≤ 100000) ∧ K5 r f i = true ∧ PL f.Signs (el f.Signs i) i = false:=by
 unfold pS at h
 by_cases c1:0 ≤ (el f.Signs i).Part ∧ (el f.Signs i).Part ≤ hiP f.Bill
 ·rw [if_neg (not_not_intro c1)] at h
  by_cases c2:0 ≤ (el f.Signs i).Who ∧ (el f.Signs i).Who ≤ (r.Firms.length:Int) - 1
  ·rw [if_neg (not_not_intro c2)] at h
   by_cases c3:0 ≤ (el f.Signs i).City ∧ (el f.Signs i).City ≤ (r.Cities.length:Int) - 1
   ·rw [if_neg (not_not_intro c3)] at h
    by_cases c4:oM f i ≤ (el f.Signs i).Day ∧ (el f.Signs i).Day ≤ 100000
    ·rw [if_neg (not_not_intro c4)] at h
     by_cases c5:i = 0 ∧ (el f.Signs i).Day ≠ oM f i
     ·rw [if_pos c5] at h; cases h
     ·rw [if_neg c5] at h
      cases c6:K5 r f i with
      | false=>rw [if_pos c6] at h; cases h
      | true =>
       rw [if_neg (by rw [c6]; decide)] at h
       cases c7:PL f.Signs (el f.Signs i) i with
       | true=>rw [if_pos c7] at h; cases h
       | false=>exact ⟨c1,c4,rfl,rfl⟩
    ·rw [if_pos c4] at h; cases h
   ·rw [if_pos c3] at h; cases h
  ·rw [if_pos c2] at h; cases h
 ·rw [if_pos c1] at h; cases h
section
variable (hs:fN = some true)
include hs
end
end Go.Proofs.Ytfhebiceipgdmaa
