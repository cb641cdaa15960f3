/- What the functions of package conflict answer, as plain functions. -/
import Derived.Test.YtjjcaapdaldedaaPRealm
set_option linter.unusedVariables false
set_option linter.unusedSimpArgs false
namespace Go.Proofs.Ytjjcaapdaldedaa
open Go.RowKit Vm
theorem F7:∀ (n:Nat) (l:List Int),l.Nodup->(∀ x ∈ l,0 <= x ∧ x < (n:Int))->l.length <= n
 | 0,l,_,h=>by
  cases l with
  | nil=>simp
  | cons x l=>have:=h x (by simp); omega
 | n + 1,l,hd,h=>by
  by_cases hm:(n:Int) ∈ l
  ·have h1:=F7 n (l.erase (n:Int)) (hd.erase _) (fun x hx=>by
    have hx':=(hd.mem_erase_iff).1 hx
    have:=h x hx'.2
    have hne:=hx'.1
    omega)
   rw [List.length_erase_of_mem hm] at h1
   omega
  ·have h1:=F7 n l hd (fun x hx=>by
    have:=h x hx
    have hne:x ≠ (n:Int):=fun e=>hm (e ▸ hx)
    omega)
   omega
theorem EH (l:List Int) (x:Int) (hl:l.length < 9223372036854775807):b6 l x = some (decide (x ∈ l)):=by
 unfold b6 j7
 obtain ⟨z,hz,q1,q2⟩:=lD (step:=fun w=>dC l x w) (fun i=>(i:Int)) l.length (fun i=>el l i ≠ x) (fun z=>(z = .inl ()->∀ i,i < l.length->el l i ≠ x) ∧ ∀ k,z = .inr k->0 <= k ∧ x ∈ l) (by
  intro i hi
  simp only [dC,nG hi,if_true,fI _ _ hi,Option.bind_some,bC (show i < 9223372036854775807 by omega),beq_iff_eq]
  by_cases h:x = el l i
  ·exact .inr ⟨.inr (i:Int),by rw [if_pos h],fun _=>⟨(fun h=>nomatch h),fun k e=>by cases e; exact ⟨by omega,h ▸ NE l i hi⟩⟩⟩
  ·exact .inl ⟨by rw [if_neg h],fun e=>h e.symm⟩) (by
  refine ⟨.inl (),?_,fun h=>⟨fun _=>h,fun e h=>nomatch h⟩⟩
  simp only [dC,pA,if_false])
 have hz' : kC l x 0 = some z:=hz
 rw [hz']
 cases z with
 | inl u =>
  have:x ∉ l:=fun hm=>by
   obtain ⟨i,hi,e⟩:=aKx hm
   exact q1 rfl i hi e
  simp [this]
 | inr k =>
  obtain ⟨h1,h2⟩:=q2 k rfl
  simp [h1,h2]
def V9 (cs:List aK) (ask:Int) (pl:List Int) (o:Int):Int × Bool :=
 lU (fun i=>if (el cs i).Ask = ask ∧ (el cs i).By ≠ 0 then some (el pl (el cs i).By.toNat,(el cs i).Whole) else none) (o,false) 0 cs.length
def NB (r:aB) (ask:Int) (pl:List Int) (o:Int):Int × Bool:=V9 (el r.Orders o.toNat).Choices ask pl o
def aAO (L:Int->Int × Bool) (acc:Int->Bool):Nat->List Int->Int × List Int
 | 0,p=>(99,p)
 | k + 1,p=>let last:=el p (p.length - 1)
  if (L last).1 = last then (0,p)
  else if (L last).2 = false then (0,p ++ [(L last).1])
  else if (L last).1 ∈ p then (if acc (L last).1 = true then (0,p ++ [(L last).1]) else (12,p ++ [(L last).1]))
  else aAO L acc k (p ++ [(L last).1])
def xL (r:aB) (o:Int):Bool:=(el r.Orders o.toNat).Accepts
end Go.Proofs.Ytjjcaapdaldedaa
