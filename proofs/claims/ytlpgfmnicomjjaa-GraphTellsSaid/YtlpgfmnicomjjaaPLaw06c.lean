/- The laws of layer 06 (graph): GraphOrders. -/
import Derived.Test.YtlpgfmnicomjjaaPOrder
set_option linter.unusedVariables false
set_option linter.unusedSimpArgs false
namespace Go.Proofs.Ytlpgfmnicomjjaa
open Go.RowKit Vm
theorem nodN_le:∀ (n:Nat) (l:List Nat),l.Nodup→(∀ x ∈ l,x < n)→l.length ≤ n
 | 0,l,_,h=>by
  cases l with
  | nil=>exact Nat.le_refl _
  | cons a l=>exact absurd (h a (List.mem_cons_self ..)) (Nat.not_lt_zero _)
 | n + 1,l,hn,h=>by
  have h1:=nodN_le n (l.erase n) (hn.erase n) (fun x hx=>by
   have q:=(List.Nodup.mem_erase_iff hn).1 hx
   have:=h x q.2
   have:=q.1
   omega)
  by_cases c:n ∈ l
  ·rw [List.length_erase_of_mem c] at h1
   omega
  ·rw [List.erase_of_not_mem c] at h1
   omega
theorem Gord.step {E:Nat→Nat→Prop} {n:Nat} {l:List Nat} (h:Gord E n l) {i j:Nat} (hi:i < l.length) (hj:j < l.length) (e:E (el l i) (el l j)):i < j:=by
 obtain ⟨k,h1,h2,h3⟩:=mem_take_el.1 ((h j hj).1.all _ e)
 rcases Nat.lt_trichotomy i k with q | q | q
 ·omega
 ·omega
 ·exact absurd h3 (h.ne q hi)
theorem CycG.close {E:Nat→Nat→Prop} {c:List Nat} (h:CycG E c) {i:Nat} (hi:i < c.length):E (el c i) (el c ((i + 1) % c.length)):=by
 by_cases e:i + 1 = c.length
 ·rw [e,Nat.mod_self]
  by_cases e0:i = 0
  ·subst e0
   obtain ⟨b,h1,h2⟩:=h.cl
   rw [← e] at h2
   have:=h2.zero_eq
   rwa [this] at h1
  ·have:=h.tos i (by omega) hi
   rw [show c.length - i = 0 + 1 by omega] at this
   obtain ⟨_,b,h1,h2⟩:=this.gt
   have:=h2.zero_eq
   rwa [this] at h1
 ·rw [Nat.mod_eq_of_lt (by omega)]
  exact h.step i (by omega)
theorem CycG.gt {E:Nat→Nat→Prop} {c:List Nat} (h:CycG E c) {i:Nat} (h0:0 < i) (hi:i < c.length):el c 0 < el c i:=by
 have:=h.tos i h0 hi
 rw [show c.length - i = (c.length - i - 1) + 1 by omega] at this
 exact this.gt.1
end Go.Proofs.Ytlpgfmnicomjjaa
