/- What Due and Settle of package tenor answer, and the reference's. -/
import Derived.Test.YtibhbfhelfjloaaPTenor
set_option linter.unusedVariables false
set_option linter.unusedSimpArgs false
namespace Go.Proofs.Ytibhbfhelfjloaa
open Go.RowKit Vm
def dayB (d:Int):Bool:=decide (0 ≤ d ∧ d ≤ 100000)
def townB (r:GRealm) (c:Int):Bool:=decide (0 ≤ c ∧ c < r.Cities.length)
theorem isDay_eq (d:Int):mtenor_isDay d = some (dayB d):=by
 unfold mtenor_isDay dayB
 by_cases h:0 ≤ d <;> simp [h]
theorem isCity_eq (r:GRealm) (c:Int):mtenor_isCity r c = some (townB r c):=by
 unfold mtenor_isCity townB
 by_cases h:0 ≤ c <;> simp [h]
def sightsB (t:GTenor):Bool:=t.Kind == 0 || t.Kind == 1
theorem sights_eq (t:GTenor):mtenor_Sights t = some (sightsB t):=by
 unfold mtenor_Sights sightsB
 by_cases h:t.Kind = 0 <;> simp [h]
def afterOf (d:Int) (t:GTenor):Int × Int:=if 0 ≤ t.N ∧ t.N ≤ 20000 then (if t.Unit = 1 then (Cal.addV d t.N,Cal.addE d t.N) else (d + t.N,0)) else (0,3)
theorem after_eq (d:Int) (t:GTenor) (h1:-1 ≤ d) (h2:d ≤ 100000):mtenor_after d t = some (afterOf d t):=by
 unfold mtenor_after afterOf
 by_cases a:t.N < 0
 ·rw [if_neg (show ¬ (0 ≤ t.N ∧ t.N ≤ 20000) by omega)]; simp [a]
 by_cases b:t.N > 20000
 ·rw [if_neg (show ¬ (0 ≤ t.N ∧ t.N ≤ 20000) by omega)]; simp [a,b]
 rw [if_pos (show 0 ≤ t.N ∧ t.N ≤ 20000 by omega),wrap_id (by omega) (by omega)]
 by_cases c:t.Unit = 1 <;> simp [a,b,c,mcalendar_AddMonths]
def baseOf (r:GRealm) (b:GBill) (seen:Int):Int × Int :=
 if b.Tenor.Kind = 0 then (seen,0) else if b.Tenor.Kind = 1 then afterOf seen b.Tenor else if b.Tenor.Kind = 2 then afterOf b.Day b.Tenor
 else if b.Tenor.Kind = 4 then (b.Day + (usanceOf r b.City b.Pay).1,(usanceOf r b.City b.Pay).2) else (b.Tenor.N,0)
theorem usance_bd {r:GRealm} (h:Right r) (a b:Int):0 ≤ (usanceOf r a b).1 ∧ (usanceOf r a b).1 ≤ 20000:=by
 rcases usance_cases r a b with ⟨x,hx,_,_,e⟩ | ⟨_,e⟩
 ·have:=(usOf_zero.1 h.us).2.1 x hx
  rw [e]
  exact ⟨by show 0 ≤ x.Days; have:=this.2.2.1; omega,this.2.2.2⟩
 ·rw [e]; exact ⟨by show (0:Int) ≤ 0; omega,by show (0:Int) ≤ 20000; omega⟩
theorem base_eq (r:GRealm) (b:GBill) (seen:Int) (f:FewL r) (h:Right r) (hd:0 ≤ b.Day ∧ b.Day ≤ 100000) (hs:-1 ≤ seen ∧ seen ≤ 100000):mtenor_base r b seen = some (baseOf r b seen):=by
 unfold mtenor_base baseOf
 have hu:=usance_bd h b.City b.Pay
 have hl:=f.usa
 simp only [after_eq seen b.Tenor hs.1 hs.2,after_eq b.Day b.Tenor (by omega) hd.2,usance_eq r b.City b.Pay (by omega),Option.bind_some,beq_iff_eq]
 rw [wrap_id (by omega) (by omega)]
 by_cases k0:b.Tenor.Kind = 0
 ·simp only [k0,if_true]
 by_cases k1:b.Tenor.Kind = 1
 ·rw [if_neg k0,if_neg k0,if_pos k1,if_pos k1]
 by_cases k2:b.Tenor.Kind = 2
 ·rw [if_neg k0,if_neg k0,if_neg k1,if_neg k1,if_pos k2,if_pos k2]
 by_cases k4:b.Tenor.Kind = 4
 ·rw [if_neg k0,if_neg k0,if_neg k1,if_neg k1,if_neg k2,if_neg k2,if_pos k4,if_pos k4]
 ·rw [if_neg k0,if_neg k0,if_neg k1,if_neg k1,if_neg k2,if_neg k2,if_neg k4,if_neg k4]
def preOk (b:GBill) (seen grace:Int):Bool:=decide ((0 ≤ b.Tenor.Kind ∧ b.Tenor.Kind < 5) ∧ (0 ≤ b.Tenor.Unit ∧ b.Tenor.Unit < 2) ∧ (seen = -1 ∨ 0 ≤ seen ∧ seen ≤ 100000) ∧ 0 ≤ grace ∧ grace ≤ 20000)
def inOk (r:GRealm) (b:GBill):Bool:=townB r b.City && (townB r b.Pay && dayB b.Day)
def dueAt (r:GRealm) (b:GBill) (seen grace:Int):Int × Int :=
 if (baseOf r b seen).2 = 0 then (if dayB (baseOf r b seen).1 = true ∧ (baseOf r b seen).1 + grace ≤ 100000 then endOf (settleOf r b.Pay ((baseOf r b seen).1 + grace)) else (0,3)) else (0,(baseOf r b seen).2)
def dueFull (r:GRealm) (b:GBill) (seen grace:Int):Int × Int :=
 if checkOf r = 0 ∧ inOk r b = true ∧ preOk b seen grace = true then (if sightsB b.Tenor = true ∧ seen = -1 then (0,4) else dueAt r b seen grace) else (0,1)
theorem haltsOk_of {r:GRealm} (h:Right r):HaltsOk r:=by
 have q:=h.rest
 unfold restOf at q
 by_cases c1:r.Rates.length ≤ 100
 ·rw [if_pos c1] at q
  by_cases c2:allN (fun i=>rateB r (el r.Rates i)) r.Rates.length = true
  ·rw [if_pos c2] at q
   by_cases c3:r.Halts.length ≤ 20
   ·rw [if_pos c3] at q
    by_cases c4:allN (fun i=>haltB r (el r.Halts i)) r.Halts.length = true
    ·refine ⟨by omega,fun x hx=>?_⟩
     obtain ⟨i,hi,rfl⟩:=mem_el hx
     have:=allN_iff.1 c4 i hi
     unfold haltB at this
     rw [decide_eq_true_eq] at this
     exact ⟨this.2.2.1,this.2.2.2⟩
    ·rw [if_neg c4] at q; cases q
   ·rw [if_neg c3] at q; cases q
  ·rw [if_neg c2] at q; cases q
 ·rw [if_neg c1] at q; cases q
theorem in_parts {r:GRealm} {b:GBill} (h:inOk r b = true):(0 ≤ b.City ∧ b.City < r.Cities.length) ∧ (0 ≤ b.Pay ∧ b.Pay < r.Cities.length) ∧ 0 ≤ b.Day ∧ b.Day ≤ 100000:=by
 unfold inOk townB dayB at h
 simp only [Bool.and_eq_true,decide_eq_true_eq] at h
 exact h
theorem pre_parts {b:GBill} {seen grace:Int} (h:preOk b seen grace = true):(0 ≤ b.Tenor.Kind ∧ b.Tenor.Kind < 5) ∧ (0 ≤ b.Tenor.Unit ∧ b.Tenor.Unit < 2) ∧ (-1 ≤ seen ∧ seen ≤ 100000) ∧ 0 ≤ grace ∧ grace ≤ 20000:=by
 unfold preOk at h
 rw [decide_eq_true_eq] at h
 exact ⟨h.1,h.2.1,by omega,h.2.2.2⟩
theorem due_j2_eq (r:GRealm) (b:GBill) (seen grace:Int):mtenor_Due_j2 r b seen grace = some (if preOk b seen grace = true then (if sightsB b.Tenor = true ∧ seen = -1 then .inr 4 else .inl ()) else .inr 1):=by
 have hj1:mtenor_Due_j1 r b seen grace = some (if (seen = -1 ∨ 0 ≤ seen ∧ seen ≤ 100000) ∧ 0 ≤ grace ∧ grace ≤ 20000 then (if sightsB b.Tenor = true ∧ seen = -1 then .inr 4 else .inl ()) else .inr 1):=by
  unfold mtenor_Due_j1
  simp only [isDay_eq,sights_eq,Option.bind_some]
  by_cases s1:seen = -1
  ·subst s1
   by_cases g1:grace < 0
   ·rw [if_neg (show ¬ (((-1:Int) = -1 ∨ 0 ≤ (-1:Int) ∧ (-1:Int) ≤ 100000) ∧ 0 ≤ grace ∧ grace ≤ 20000) by omega)]; simp [g1]
   by_cases g2:grace > 20000
   ·rw [if_neg (show ¬ (((-1:Int) = -1 ∨ 0 ≤ (-1:Int) ∧ (-1:Int) ≤ 100000) ∧ 0 ≤ grace ∧ grace ≤ 20000) by omega)]; simp [g1,g2]
   rw [if_pos (show (((-1:Int) = -1 ∨ 0 ≤ (-1:Int) ∧ (-1:Int) ≤ 100000) ∧ 0 ≤ grace ∧ grace ≤ 20000) by omega)]
   cases sightsB b.Tenor <;> simp [g1,g2]
  ·by_cases hd:0 ≤ seen ∧ seen ≤ 100000
   ·have hdb:dayB seen = true:=by unfold dayB; rw [decide_eq_true_eq]; exact hd
    by_cases g1:grace < 0
    ·rw [if_neg (show ¬ ((seen = -1 ∨ 0 ≤ seen ∧ seen ≤ 100000) ∧ 0 ≤ grace ∧ grace ≤ 20000) by omega)]; simp [g1,s1,hdb]
    by_cases g2:grace > 20000
    ·rw [if_neg (show ¬ ((seen = -1 ∨ 0 ≤ seen ∧ seen ≤ 100000) ∧ 0 ≤ grace ∧ grace ≤ 20000) by omega)]; simp [g1,g2,s1,hdb]
    rw [if_pos (show ((seen = -1 ∨ 0 ≤ seen ∧ seen ≤ 100000) ∧ 0 ≤ grace ∧ grace ≤ 20000) by omega)]
    cases sightsB b.Tenor <;> simp [g1,g2,s1,hdb]
   ·have hdb:dayB seen = false:=by unfold dayB; rw [decide_eq_false_iff_not]; exact hd
    rw [if_neg (show ¬ ((seen = -1 ∨ 0 ≤ seen ∧ seen ≤ 100000) ∧ 0 ≤ grace ∧ grace ≤ 20000) by omega)]; simp [s1,hdb]
 unfold mtenor_Due_j2 preOk
 rw [hj1]
 simp only [Option.bind_some,decide_eq_true_eq]
 by_cases a1:b.Tenor.Kind < 0
 ·rw [if_pos a1,if_neg (by omega)]
 rw [if_neg a1]
 by_cases a2:b.Tenor.Kind ≥ 5
 ·rw [if_pos a2,if_neg (by omega)]
 rw [if_neg a2]
 by_cases a3:b.Tenor.Unit < 0
 ·rw [if_pos a3,if_neg (by omega)]
 rw [if_neg a3]
 by_cases a4:b.Tenor.Unit ≥ 2
 ·rw [if_pos a4,if_neg (by omega)]
 rw [if_neg a4]
 by_cases a5:(seen = -1 ∨ 0 ≤ seen ∧ seen ≤ 100000) ∧ 0 ≤ grace ∧ grace ≤ 20000
 ·rw [if_pos a5,if_pos (show (0 ≤ b.Tenor.Kind ∧ b.Tenor.Kind < 5) ∧ (0 ≤ b.Tenor.Unit ∧ b.Tenor.Unit < 2) ∧ (seen = -1 ∨ 0 ≤ seen ∧ seen ≤ 100000) ∧ 0 ≤ grace ∧ grace ≤ 20000 by omega)]
  by_cases a6:sightsB b.Tenor = true ∧ seen = -1
  ·rw [if_pos a6]; rfl
  ·rw [if_neg a6]; rfl
 ·rw [if_neg a5,if_neg (show ¬ ((0 ≤ b.Tenor.Kind ∧ b.Tenor.Kind < 5) ∧ (0 ≤ b.Tenor.Unit ∧ b.Tenor.Unit < 2) ∧ (seen = -1 ∨ 0 ≤ seen ∧ seen ≤ 100000) ∧ 0 ≤ grace ∧ grace ≤ 20000) by omega)]; rfl
theorem due_eq (r:GRealm) (b:GBill) (seen grace:Int) (f:FewL r) (w:GRealm.wf r):mtenor_Due r b seen grace = some (dueFull r b seen grace):=by
 unfold mtenor_Due dueFull
 simp only [check_eq r f w,isCity_eq,isDay_eq,due_j2_eq,Option.bind_some,bne_iff_ne]
 by_cases h0:checkOf r = 0
 ·rw [if_neg (by simpa using h0)]
  have hR:=check_zero.1 h0
  by_cases hi:inOk r b = true
  ·obtain ⟨i1,i2,i3⟩:=in_parts hi
   have t1:townB r b.City = true:=by unfold townB; rw [decide_eq_true_eq]; exact i1
   have t2:townB r b.Pay = true:=by unfold townB; rw [decide_eq_true_eq]; exact i2
   have t3:dayB b.Day = true:=by unfold dayB; rw [decide_eq_true_eq]; exact i3
   rw [t1,t2,t3]
   simp only [Bool.not_true,Bool.false_eq_true,if_false]
   by_cases hp:preOk b seen grace = true
   ·obtain ⟨p1,p2,p3,p4⟩:=pre_parts hp
    rw [if_pos hp,if_pos (show checkOf r = 0 ∧ inOk r b = true ∧ preOk b seen grace = true from ⟨h0,hi,hp⟩)]
    by_cases hsi:sightsB b.Tenor = true ∧ seen = -1
    ·rw [if_pos hsi,if_pos hsi]; rfl
    ·rw [if_neg hsi,if_neg hsi]
     unfold dueAt
     simp only [Sum.elim_inl,base_eq r b seen f hR i3 p3,Option.bind_some]
     by_cases e0:(baseOf r b seen).2 = 0
     ·rw [if_neg (by simpa using e0),if_pos e0]
      by_cases hd:dayB (baseOf r b seen).1 = true
      ·have hd' : 0 ≤ (baseOf r b seen).1 ∧ (baseOf r b seen).1 ≤ 100000:=by unfold dayB at hd; rwa [decide_eq_true_eq] at hd
       rw [hd,wrap_id (by omega) (by omega)]
       simp only [Bool.not_true,Bool.false_eq_true,if_false,decide_eq_true_eq,true_and]
       by_cases hg:(baseOf r b seen).1 + grace > 100000
       ·rw [if_pos hg,if_neg (show ¬ (baseOf r b seen).1 + grace ≤ 100000 by omega)]
       ·rw [if_neg hg,if_pos (show (baseOf r b seen).1 + grace ≤ 100000 by omega),settle_eq r b.Pay _ f (haltsOk_of hR) i2.1 i2.2 (by omega) (by omega)]; rfl
      ·have hd' : dayB (baseOf r b seen).1 = false:=by simpa using hd
       rw [hd',if_neg (show ¬ (false = true ∧ _) from fun q=>by cases q.1)]; rfl
     ·rw [if_pos (by simpa using e0),if_neg e0]
   ·rw [if_neg hp,if_neg (show ¬ (checkOf r = 0 ∧ inOk r b = true ∧ preOk b seen grace = true) from fun q=>hp q.2.2)]; rfl
  ·rw [if_neg (show ¬ (checkOf r = 0 ∧ inOk r b = true ∧ preOk b seen grace = true) from fun q=>hi q.2.1)]
   unfold inOk at hi
   cases e1:townB r b.City with
   | false=>simp
   | true =>
    cases e2:townB r b.Pay with
    | false=>simp
    | true =>
     cases e3:dayB b.Day with
     | false=>simp
     | true=>rw [e1,e2,e3] at hi; exact absurd rfl hi
 ·rw [if_pos (by simpa using h0),if_neg (show ¬ (checkOf r = 0 ∧ inOk r b = true ∧ preOk b seen grace = true) from fun q=>h0 q.1)]
def setlFull (r:GRealm) (c d:Int):Int × Int:=if checkOf r = 0 ∧ townB r c = true ∧ dayB d = true then endOf (settleOf r c d) else (0,1)
theorem settleF_eq (r:GRealm) (c d:Int) (f:FewL r) (w:GRealm.wf r):mtenor_Settle r c d = some (setlFull r c d):=by
 unfold mtenor_Settle setlFull
 simp only [check_eq r f w,isCity_eq,isDay_eq,Option.bind_some,bne_iff_ne]
 by_cases h0:checkOf r = 0
 ·rw [if_neg (by simpa using h0)]
  have hR:=check_zero.1 h0
  cases e1:townB r c with
  | false=>simp
  | true =>
   cases e2:dayB d with
   | false=>simp
   | true =>
    have i1:0 ≤ c ∧ c < r.Cities.length:=by unfold townB at e1; rwa [decide_eq_true_eq] at e1
    have i2:0 ≤ d ∧ d ≤ 100000:=by unfold dayB at e2; rwa [decide_eq_true_eq] at e2
    rw [settle_eq r c d f (haltsOk_of hR) i1.1 i1.2 i2.1 (by omega)]
    simp [h0]
 ·rw [if_pos (by simpa using h0),if_neg (fun q=>h0 q.1)]
end Go.Proofs.Ytibhbfhelfjloaa
