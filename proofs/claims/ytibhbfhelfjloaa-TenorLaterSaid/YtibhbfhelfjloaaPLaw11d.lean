/- The laws of layer 11 (tenor): TenorLater. -/
import Derived.Test.YtibhbfhelfjloaaPTenor2
import Derived.Test.YtibhbfhelfjloaaCalM
set_option linter.unusedVariables false
set_option linter.unusedSimpArgs false
namespace Go.Proofs.Ytibhbfhelfjloaa
open Go.RowKit Vm
theorem due_zero' {r:GRealm} {b:GBill} {seen grace:Int} (h:(dueFull r b seen grace).2 = 0):checkOf r = 0 ∧ inOk r b = true ∧ preOk b seen grace = true ∧ ¬ (sightsB b.Tenor = true ∧ seen = -1) ∧ (baseOf r b seen).2 = 0 ∧ dayB (baseOf r b seen).1 = true ∧ (baseOf r b seen).1 + grace ≤ 100000 ∧ ∃ x,settleOf r b.Pay ((baseOf r b seen).1 + grace) = some x ∧ dueFull r b seen grace = (x,0):=by
 unfold dueFull dueAt at h ⊢
 by_cases c1:checkOf r = 0 ∧ inOk r b = true ∧ preOk b seen grace = true
 ·rw [if_pos c1] at h ⊢
  by_cases c2:sightsB b.Tenor = true ∧ seen = -1
  ·rw [if_pos c2] at h; exact absurd h (by decide)
  ·rw [if_neg c2] at h ⊢
   by_cases c3:(baseOf r b seen).2 = 0
   ·rw [if_pos c3] at h ⊢
    by_cases c4:dayB (baseOf r b seen).1 = true ∧ (baseOf r b seen).1 + grace ≤ 100000
    ·rw [if_pos c4] at h ⊢
     cases e:settleOf r b.Pay ((baseOf r b seen).1 + grace) with
     | none=>rw [e] at h; exact absurd h (by decide)
     | some x=>exact ⟨c1.1,c1.2.1,c1.2.2,c2,c3,c4.1,c4.2,x,rfl,rfl⟩
    ·rw [if_neg c4] at h; exact absurd h (by decide)
   ·rw [if_neg c3] at h; exact absurd h c3
 ·rw [if_neg c1] at h; exact absurd h (by decide)
theorem due_bad' {r:GRealm} {b:GBill} {seen grace:Int} (h:(dueFull r b seen grace).2 ≠ 0):(dueFull r b seen grace).1 = 0:=by
 unfold dueFull dueAt at h ⊢
 by_cases c1:checkOf r = 0 ∧ inOk r b = true ∧ preOk b seen grace = true
 ·rw [if_pos c1] at h ⊢
  by_cases c2:sightsB b.Tenor = true ∧ seen = -1
  ·rw [if_pos c2]
  ·rw [if_neg c2] at h ⊢
   by_cases c3:(baseOf r b seen).2 = 0
   ·rw [if_pos c3] at h ⊢
    by_cases c4:dayB (baseOf r b seen).1 = true ∧ (baseOf r b seen).1 + grace ≤ 100000
    ·rw [if_pos c4] at h ⊢
     cases e:settleOf r b.Pay ((baseOf r b seen).1 + grace) with
     | none=>rfl
     | some x=>rw [e] at h; exact absurd rfl h
    ·rw [if_neg c4]
   ·rw [if_neg c3]
 ·rw [if_neg c1]
theorem base_mono {r:GRealm} {b:GBill} {s t:Int} (hst:s ≤ t) (ht:t ≤ 100000) (h1:(baseOf r b s).2 = 0) (h2:(baseOf r b t).2 = 0):(baseOf r b s).1 ≤ (baseOf r b t).1:=by
 unfold baseOf at *
 by_cases k0:b.Tenor.Kind = 0
 ·rw [if_pos k0,if_pos k0]; exact hst
 rw [if_neg k0] at h1 h2 ⊢
 rw [if_neg k0]
 by_cases k1:b.Tenor.Kind = 1
 ·rw [if_pos k1] at h1 h2 ⊢
  rw [if_pos k1]
  unfold afterOf at *
  by_cases a:0 ≤ b.Tenor.N ∧ b.Tenor.N ≤ 20000
  ·rw [if_pos a] at h1 h2 ⊢
   rw [if_pos a]
   by_cases u:b.Tenor.Unit = 1
   ·rw [if_pos u] at h1 h2 ⊢
    rw [if_pos u]
    have:=(Cal.months_law s b.Tenor.N h1).2.2.2.2.2 (t - s) (by omega) (by omega) (by rw [show s + (t - s) = t by omega]; exact h2)
    rw [show s + (t - s) = t by omega] at this
    exact this
   ·rw [if_neg u] at h1 h2 ⊢
    rw [if_neg u]
    show s + b.Tenor.N ≤ t + b.Tenor.N
    omega
  ·rw [if_neg a,if_neg a]; exact Int.le_refl _
 ·rw [if_neg k1,if_neg k1]; exact Int.le_refl _
section
variable (hs:mallongelaw11_sane = some true)
include hs
theorem law11_later (r:GRealm) (b:GBill) (s g:GArr2I) (w:GRealm.wf r):mallongelaw11_TenorLater r b s g = some true:=by
 unfold mallongelaw11_TenorLater
 obtain ⟨x,e1,hf⟩:=few_spec r
 rw [hs,e1]
 cases x with
 | false=>rfl
 | true =>
  have f:=hf rfl
  simp only [Option.bind_some,Bool.not_true,Bool.false_eq_true,if_false,check_eq r f w,bne_iff_ne]
  by_cases h0:checkOf r = 0
  ·rw [if_neg (not_not_intro h0)]
   obtain ⟨s1,s2,g1,g2,hs1,hs2,hg1,hg2,hss,hgg⟩ : ∃ s1 s2 g1 g2:Int,(if s.e1 < s.e0 then s.e1 else s.e0) = s1 ∧ (if s.e1 > s.e0 then s.e1 else s.e0) = s2 ∧ (if g.e1 < g.e0 then g.e1 else g.e0) = g1 ∧ (if g.e1 > g.e0 then g.e1 else g.e0) = g2 ∧ s1 ≤ s2 ∧ g1 ≤ g2 :=
    ⟨_,_,_,_,rfl,rfl,rfl,rfl,by split <;> split <;> omega,by split <;> split <;> omega⟩
   rw [hs1,hs2,hg1,hg2,due_eq r b s1 g1 f w,due_eq r b s2 g2 f w]
   simp only [Option.bind_some]
   have hj:mallongelaw11_TenorLater_j1 r b true (dueFull r b s1 g1) = some true:=by
    unfold mallongelaw11_TenorLater_j1
    by_cases c:(dueFull r b s1 g1).2 = 0
    ·obtain ⟨q1,q2,q3,q4,q5,q6,q7,x,q8,q9⟩:=due_zero' c
     obtain ⟨i1,i2,i3⟩:=in_parts q2
     obtain ⟨p1,p2,p3,p4⟩:=pre_parts q3
     have hd:0 ≤ (baseOf r b s1).1 ∧ (baseOf r b s1).1 ≤ 100000:=by unfold dayB at q6; rwa [decide_eq_true_eq] at q6
     have hb:=hal_HB (haltsOk_of (check_zero.1 h0)) (orderAtOf r b.Pay)
     have q8' : settleD (halB r (orderAtOf r b.Pay)) (townOf11 (el r.Cities b.Pay.toNat)) ((baseOf r b s1).1 + g1) = some x:=q8
     obtain ⟨z1,z2,z3,z4,z5⟩:=settle_in hb (by omega) q8'
     have hself:=settle_self hb (by omega) z2 z3 z4
     have hx:setlFull r b.Pay x = (x,0):=by
      unfold setlFull
      have c1:townB r b.Pay = true:=by unfold townB; rw [decide_eq_true_eq]; exact i2
      have c2:dayB x = true:=by unfold dayB; rw [decide_eq_true_eq]; omega
      rw [if_pos ⟨h0,c1,c2⟩]
      show endOf (settleD (halB r (orderAtOf r b.Pay)) (townOf11 (el r.Cities b.Pay.toNat)) x) = _
      rw [hself]; rfl
     rw [q9]
     simp only [settleF_eq r b.Pay x f w,hx,Option.bind_some]
     simp
    ·rw [if_pos (by simpa using c),if_pos rfl,due_bad' c]; rfl
   rw [hj]
   by_cases c1:(dueFull r b s1 g1).2 = 0
   ·rw [if_pos (by simpa using c1)]
    by_cases c2:(dueFull r b s2 g2).2 = 0
    ·rw [if_pos (by simpa using c2)]
     obtain ⟨q1,q2,q3,q4,q5,q6,q7,x,q8,q9⟩:=due_zero' c1
     obtain ⟨t1,t2,t3,t4,t5,t6,t7,y,t8,t9⟩:=due_zero' c2
     obtain ⟨p1,p2,p3,p4⟩:=pre_parts t3
     obtain ⟨p1',p2',p3',p4'⟩:=pre_parts q3
     have hbm:=base_mono hss p3.2 q5 t5
     have hb:=hal_HB (haltsOk_of (check_zero.1 h0)) (orderAtOf r b.Pay)
     have q8' : settleD (halB r (orderAtOf r b.Pay)) (townOf11 (el r.Cities b.Pay.toNat)) ((baseOf r b s1).1 + g1) = some x:=q8
     have t8' : settleD (halB r (orderAtOf r b.Pay)) (townOf11 (el r.Cities b.Pay.toNat)) ((baseOf r b s2).1 + g2) = some y:=t8
     obtain ⟨z1,z2,z3,z4,z5⟩:=settle_in hb (by omega) q8'
     obtain ⟨y1,y2,y3,y4,y5⟩:=settle_in hb (by omega) t8'
     have hxy:x ≤ y:=by
      by_cases c:y < x
      ·rcases z5 y (by omega) c with e | e
       ·rw [y3] at e; cases e
       ·rw [y4] at e; cases e
      ·omega
     rw [q9,t9,if_neg (fun q=>absurd (of_decide_eq_true q) (by show ¬ x > y; omega))]
     rfl
    ·rw [if_neg (by simpa using c2)]; rfl
   ·rw [if_neg (by simpa using c1)]; rfl
  ·rw [if_pos h0]
end
end Go.Proofs.Ytibhbfhelfjloaa
