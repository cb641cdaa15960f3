/- The laws of layer 11 (tenor): TenorKinds. -/
import Derived.Test.YtjllkddmkdajcaaPLaw11
set_option linter.unusedVariables false
set_option linter.unusedSimpArgs false
namespace Go.Proofs.Ytjllkddmkdajcaa
open Go.RowKit Vm
theorem due_same {r:GRealm} {b b' : GBill} {seen seen' grace:Int} (hd:b'.Day = b.Day) (hc:b'.City = b.City) (hp:b'.Pay = b.Pay)
  (k:0 ≤ b.Tenor.Kind ∧ b.Tenor.Kind < 5) (k' : 0 ≤ b'.Tenor.Kind ∧ b'.Tenor.Kind < 5) (u:0 ≤ b.Tenor.Unit ∧ b.Tenor.Unit < 2) (u' : 0 ≤ b'.Tenor.Unit ∧ b'.Tenor.Unit < 2)
  (s:seen = -1 ∨ 0 ≤ seen ∧ seen ≤ 100000) (s' : seen' = -1 ∨ 0 ≤ seen' ∧ seen' ≤ 100000) (n:¬ (sightsB b.Tenor = true ∧ seen = -1)) (n' : ¬ (sightsB b'.Tenor = true ∧ seen' = -1))
  (e:baseOf r b' seen' = baseOf r b seen):dueFull r b' seen' grace = dueFull r b seen grace:=by
 have h1:inOk r b' = inOk r b:=by unfold inOk; rw [hd,hc,hp]
 have h2:preOk b' seen' grace = preOk b seen grace:=by
  unfold preOk
  rw [decide_eq_decide]
  exact ⟨fun q=>⟨k,u,s,q.2.2.2⟩,fun q=>⟨k',u',s',q.2.2.2⟩⟩
 unfold dueFull dueAt
 rw [h1,h2,if_neg n,if_neg n',e,hp]
theorem sights_no {t:GTenor} (h:sightsB t = false):t.Kind ≠ 0 ∧ t.Kind ≠ 1:=by
 unfold sightsB at h
 simpa using h
theorem due_unseen {r:GRealm} {b:GBill} {seen grace:Int} (h:sightsB b.Tenor = false) (hs:0 ≤ seen ∧ seen ≤ 100000):dueFull r b seen grace = dueFull r b (-1) grace:=by
 obtain ⟨k0,k1⟩:=sights_no h
 have he:baseOf r b seen = baseOf r b (-1):=by
  unfold baseOf
  rw [if_neg k0,if_neg k0,if_neg k1,if_neg k1]
 have h2:preOk b seen grace = preOk b (-1) grace:=by
  unfold preOk
  rw [decide_eq_decide]
  exact ⟨fun q=>⟨q.1,q.2.1,.inl rfl,q.2.2.2⟩,fun q=>⟨q.1,q.2.1,.inr hs,q.2.2.2⟩⟩
 unfold dueFull dueAt
 rw [h2,he,h,if_neg (show ¬ (false = true ∧ seen = -1) from fun q=>by cases q.1),if_neg (show ¬ (false = true ∧ (-1:Int) = -1) from fun q=>by cases q.1)]
abbrev wT (b:GBill) (t:GTenor):GBill:=GBill.mk b.Drawer b.Drawee b.Payee b.Sum b.Currency t b.Day b.City b.Pay b.Need b.Rate b.Flags b.Parts
section
variable (hs:mallongelaw11_sane = some true)
include hs
theorem law11_kinds (r:GRealm) (b:GBill) (n seen grace:Int) (w:GRealm.wf r):mallongelaw11_TenorKinds r b n seen grace = some true:=by
 unfold mallongelaw11_TenorKinds
 obtain ⟨x,e1,f⟩:=few_spec r
 rw [hs,e1]
 cases x with
 | false=>rfl
 | true =>
  have f:=f rfl
  have hl:=f.usa
  have hdue:=fun (b:GBill) (s g:Int)=>due_eq r b s g f w
  simp only [Option.bind_some,Bool.not_true,Bool.false_eq_true,if_false,check_eq r f w,bne_iff_ne,decide_eq_true_eq,sights_eq,hdue]
  by_cases h0:checkOf r = 0
  ·rw [if_neg (by simpa using h0)]
   by_cases d1:seen < 0
   ·rw [if_pos d1]
   rw [if_neg d1]
   by_cases d2:seen > 100000
   ·rw [if_pos d2]
   rw [if_neg d2]
   by_cases d3:b.Day < 0
   ·rw [if_pos d3]
   rw [if_neg d3]
   by_cases d4:b.Day > 100000
   ·rw [if_pos d4]
   rw [if_neg d4]
   have hj1:0 ≤ n→n ≤ 20000→mallongelaw11_TenorKinds_j1 r b n seen grace true (dueFull r (wT b (GTenor.mk 2 n 0)) (-1) grace) = some true:=by
    intro n0 n1
    unfold mallongelaw11_TenorKinds_j1
    simp only [hdue,Option.bind_some]
    have base2:baseOf r (wT b (GTenor.mk 2 n 0)) (-1) = (b.Day + n,0):=by
     unfold baseOf afterOf
     simp only [wT]
     rw [if_neg (by decide),if_neg (by decide),if_pos (by decide),if_pos ⟨n0,n1⟩,if_neg (by decide)]
    have e10:dueFull r (wT b (GTenor.mk 3 (b.Day + n) 0)) seen grace = dueFull r (wT b (GTenor.mk 2 n 0)) (-1) grace:=by
     refine due_same rfl rfl rfl ⟨of_decide_eq_true rfl,of_decide_eq_true rfl⟩ ⟨of_decide_eq_true rfl,of_decide_eq_true rfl⟩ ⟨of_decide_eq_true rfl,of_decide_eq_true rfl⟩ ⟨of_decide_eq_true rfl,of_decide_eq_true rfl⟩ (.inl rfl) (.inr ⟨by omega,by omega⟩) (fun q=>by cases q.1) (fun q=>by cases q.1) ?_
     rw [base2]
     unfold baseOf
     simp only [wT]
     rw [if_neg (by decide),if_neg (by decide),if_neg (by decide),if_neg (by decide)]
    rw [wrap_id (show -9223372036854775808 ≤ b.Day + n by omega) (by omega),e10]
    simp only [bne_self_eq_false,Bool.false_eq_true,if_false,usance_eq r b.City b.Pay (show r.Usances.length < 1000000 by omega),Option.bind_some]
    by_cases u2:(usanceOf r b.City b.Pay).2 = 0
    ·rw [if_neg (by simpa using u2)]
     by_cases u1:(usanceOf r b.City b.Pay).1 = n
     ·rw [if_neg (by simpa using u1)]
      have e12:dueFull r (wT b (GTenor.mk 4 0 0)) seen grace = dueFull r (wT b (GTenor.mk 2 n 0)) (-1) grace:=by
       refine due_same rfl rfl rfl ⟨of_decide_eq_true rfl,of_decide_eq_true rfl⟩ ⟨of_decide_eq_true rfl,of_decide_eq_true rfl⟩ ⟨of_decide_eq_true rfl,of_decide_eq_true rfl⟩ ⟨of_decide_eq_true rfl,of_decide_eq_true rfl⟩ (.inl rfl) (.inr ⟨by omega,by omega⟩) (fun q=>by cases q.1) (fun q=>by cases q.1) ?_
       rw [base2]
       unfold baseOf
       simp only [wT]
       rw [if_neg (by decide),if_neg (by decide),if_neg (by decide),if_pos (by decide),u1,u2]
      rw [e12]
      simp
     ·rw [if_pos (by simpa using u1)]
    ·rw [if_pos (by simpa using u2)]
   have hj2:mallongelaw11_TenorKinds_j2 r b n seen grace true = some true:=by
    unfold mallongelaw11_TenorKinds_j2
    simp only [hdue,Option.bind_some]
    have e8:dueFull r (wT b (GTenor.mk 1 n 0)) b.Day grace = dueFull r (wT b (GTenor.mk 2 n 0)) (-1) grace:=by
     refine due_same rfl rfl rfl ⟨of_decide_eq_true rfl,of_decide_eq_true rfl⟩ ⟨of_decide_eq_true rfl,of_decide_eq_true rfl⟩ ⟨of_decide_eq_true rfl,of_decide_eq_true rfl⟩ ⟨of_decide_eq_true rfl,of_decide_eq_true rfl⟩ (.inl rfl) (.inr ⟨by omega,by omega⟩) (fun q=>by cases q.1) (fun q=>by omega) ?_
     unfold baseOf afterOf
     simp [wT]
    have e9:(dueFull r (wT b (GTenor.mk 2 n 0)) (-1) grace).2 = 0→dueFull r (wT b (GTenor.mk 1 n 0)) (-1) grace = (0,4):=by
     intro hz
     obtain ⟨_,hi,hp,_⟩:=due_zero hz
     have hp' : preOk (wT b (GTenor.mk 1 n 0)) (-1) grace = true:=by
      unfold preOk at hp ⊢
      rw [decide_eq_true_eq] at hp ⊢
      exact ⟨⟨by show (0:Int) ≤ 1; omega,by show (1:Int) < 5; omega⟩,hp.2⟩
     have hi' : inOk r (wT b (GTenor.mk 1 n 0)) = true:=hi
     unfold dueFull
     rw [if_pos ⟨h0,hi',hp'⟩,if_pos (show sightsB (wT b (GTenor.mk 1 n 0)).Tenor = true ∧ (-1:Int) = -1 from ⟨rfl,rfl⟩)]
    rw [e8]
    generalize dueFull r (wT b (GTenor.mk 1 n 0)) (-1) grace = q9 at e9 ⊢
    generalize hq7:dueFull r (wT b (GTenor.mk 2 n 0)) (-1) grace = q7 at e9 hj1 ⊢
    by_cases z:q7.2 = 0
    ·have q:=e9 z
     subst q
     by_cases a:n < 0
     ·simp [z,a]
     by_cases c:n > 20000
     ·simp [z,a,c]
     ·have:=hj1 (by omega) (by omega)
      simp [z,a,c,this]
    ·by_cases a:n < 0
     ·simp [z,a]
     by_cases c:n > 20000
     ·simp [z,a,c]
     ·have:=hj1 (by omega) (by omega)
      simp [z,a,c,this]
   cases hsi:sightsB b.Tenor with
   | true=>simp [hj2]
   | false =>
    rw [due_unseen hsi ⟨by omega,by omega⟩]
    simp [hj2]
  ·rw [if_pos (by simpa using h0)]
end
end Go.Proofs.Ytjllkddmkdajcaa
