/- The laws of layer 11 (tenor): TenorTells, TenorFirst. -/
import Derived.Test.YtjllkddmkdajcaaPTenor2
set_option linter.unusedVariables false
set_option linter.unusedSimpArgs false
namespace Go.Proofs.Ytjllkddmkdajcaa
open Go.RowKit Vm
theorem halted_eq (r:GRealm) (o d:Int) (hl:r.Halts.length < 1000000):mallongeref11_Halted r o d = some (halB r o d):=by
 unfold mallongeref11_Halted
 have key:mallongeref11_Halted_l1 r o d 0 = some (if allN (fun i=>!haltIn o d (el r.Halts i)) r.Halts.length = true then .inl () else .inr ()):=by
  unfold mallongeref11_Halted_l1
  refine iter_all? (fun i:Nat=>(i:Int)) r.Halts.length (fun i=>!haltIn o d (el r.Halts i)) () ?_ ?_
  ·intro i hi
   unfold mallongeref11_Halted_l1_s
   simp only [lt_t hi,if_true,at_el _ _ hi,Option.bind_some,wrap_succ (show i < 9223372036854775807 by omega),beq_iff_eq,decide_eq_true_eq]
   unfold haltIn
   by_cases c1:(el r.Halts i).Order = o
   ·by_cases c2:(el r.Halts i).From ≤ d
    ·by_cases c3:d ≤ (el r.Halts i).To
     ·simp [c1,c2,c3]
     ·simp [c1,c2,c3]
    ·simp [c1,c2]
   ·simp [c1]
  ·unfold mallongeref11_Halted_l1_s
   simp only [lt_f,if_false]
 rw [key]
 have hb:halB r o d = !allN (fun i=>!haltIn o d (el r.Halts i)) r.Halts.length:=by
  rw [Bool.eq_iff_iff]
  unfold halB
  rw [List.any_eq_true,Bool.not_eq_true',← Bool.not_eq_true,allN_iff]
  constructor
  ·rintro ⟨x,hx,h⟩ hall
   obtain ⟨i,hi,rfl⟩:=mem_el hx
   have:=hall i hi
   rw [h] at this; cases this
  ·intro hn
   apply Classical.byContradiction
   intro hne
   apply hn
   intro i hi
   cases e:haltIn o d (el r.Halts i) with
   | false=>rfl
   | true=>exact absurd ⟨_,el_mem _ i hi,e⟩ hne
 rw [hb]
 cases allN (fun i=>!haltIn o d (el r.Halts i)) r.Halts.length <;> rfl
theorem due_zero {r:GRealm} {b:GBill} {seen grace:Int} (h:(dueFull r b seen grace).2 = 0):checkOf r = 0 ∧ inOk r b = true ∧ preOk b seen grace = true ∧ ¬ (sightsB b.Tenor = true ∧ seen = -1) ∧ (baseOf r b seen).2 = 0 ∧ dayB (baseOf r b seen).1 = true ∧ (baseOf r b seen).1 + grace ≤ 100000 ∧ ∃ x,settleOf r b.Pay ((baseOf r b seen).1 + grace) = some x ∧ dueFull r b seen grace = (x,0):=by
 unfold dueFull dueAt at h ⊢
 by_cases c1:checkOf r = 0 ∧ inOk r b = true ∧ preOk b seen grace = true
 ·rw [if_pos c1] at h ⊢
  by_cases c2:sightsB b.Tenor = true ∧ seen = -1
  ·rw [if_pos c2] at h; exact absurd h (by decide)
  ·rw [if_neg c2] at h ⊢
   by_cases c3:(baseOf r b seen).2 = 0
   ·rw [if_pos c3] at h ⊢
    by_cases c4:dayB (baseOf r b seen).1 = true ∧ (baseOf r b seen).1 + grace ≤ 100000
    ·rw [if_pos c4] at h ⊢
     cases e:settleOf r b.Pay ((baseOf r b seen).1 + grace) with
     | none=>rw [e] at h; exact absurd h (by decide)
     | some x=>exact ⟨c1.1,c1.2.1,c1.2.2,c2,c3,c4.1,c4.2,x,rfl,rfl⟩
    ·rw [if_neg c4] at h; exact absurd h (by decide)
   ·rw [if_neg c3] at h; exact absurd h c3
 ·rw [if_neg c1] at h; exact absurd h (by decide)
theorem due_bad {r:GRealm} {b:GBill} {seen grace:Int} (h:(dueFull r b seen grace).2 ≠ 0):(dueFull r b seen grace).1 = 0:=by
 unfold dueFull dueAt at h ⊢
 by_cases c1:checkOf r = 0 ∧ inOk r b = true ∧ preOk b seen grace = true
 ·rw [if_pos c1] at h ⊢
  by_cases c2:sightsB b.Tenor = true ∧ seen = -1
  ·rw [if_pos c2]
  ·rw [if_neg c2] at h ⊢
   by_cases c3:(baseOf r b seen).2 = 0
   ·rw [if_pos c3] at h ⊢
    by_cases c4:dayB (baseOf r b seen).1 = true ∧ (baseOf r b seen).1 + grace ≤ 100000
    ·rw [if_pos c4] at h ⊢
     cases e:settleOf r b.Pay ((baseOf r b seen).1 + grace) with
     | none=>rfl
     | some x=>rw [e] at h; exact absurd rfl h
    ·rw [if_neg c4]
   ·rw [if_neg c3]
 ·rw [if_neg c1]
theorem opB_day {t:Town} {d:Int} (h0:0 ≤ d) (h1:d ≤ 100000):Cal.opB t d = Cal.openD t d ∧ Cal.dE d = 0:=by
 unfold Cal.opB Cal.dE
 rw [if_pos (show Cal.okDay d from ⟨h0,h1⟩),if_pos (show Cal.okDay d from ⟨h0,h1⟩)]
 exact ⟨rfl,rfl⟩
section
variable (hs:mallongelaw11_sane = some true)
include hs
theorem law11_tells (r:GRealm) (b:GBill) (seen grace city day:Int) (w:GRealm.wf r):mallongelaw11_TenorTells r b seen grace city day = some true:=by
 unfold mallongelaw11_TenorTells
 obtain ⟨x,e1,f⟩:=few_spec r
 rw [hs,e1]
 cases x with
 | false=>rfl
 | true =>
  have f:=f rfl
  simp only [Option.bind_some,Bool.not_true,Bool.false_eq_true,if_false,due_eq r b seen grace f w,ref_due_eq r b seen grace f w,settleF_eq r city day f w,ref_settleF_eq r city day f w,sights_eq,ref_sights_eq,beq_self_eq_true,if_true]
theorem law11_first (r:GRealm) (b:GBill) (seen grace:Int) (w:GRealm.wf r):mallongelaw11_TenorFirst r b seen grace = some true:=by
 unfold mallongelaw11_TenorFirst
 obtain ⟨x,e1,f⟩:=few_spec r
 rw [hs,e1]
 cases x with
 | false=>rfl
 | true =>
  have f:=f rfl
  simp only [Option.bind_some,Bool.not_true,Bool.false_eq_true,if_false,check_eq r f w,due_eq r b seen grace f w,bne_iff_ne,if_true]
  by_cases h0:checkOf r = 0
  ·rw [if_neg (by simpa using h0)]
   have hR:=check_zero.1 h0
   by_cases hd:(dueFull r b seen grace).2 = 0
   ·rw [if_neg (by simpa using hd)]
    obtain ⟨_,hi,hp,hns,hb0,hbd,hbg,y,hy,hyd⟩:=due_zero hd
    obtain ⟨i1,i2,i3⟩:=in_parts hi
    obtain ⟨p1,p2,p3,p4⟩:=pre_parts hp
    have hbd' : 0 ≤ (baseOf r b seen).1 ∧ (baseOf r b seen).1 ≤ 100000:=by unfold dayB at hbd; rwa [decide_eq_true_eq] at hbd
    have hrb:refBase r b seen = (baseOf r b seen).1:=by unfold refBase; rw [if_pos ⟨hb0,hbd⟩]
    have hH:=haltsOk_of hR
    have hb:=hal_HB hH (orderAtOf r b.Pay)
    unfold settleOf at hy
    obtain ⟨s1,s2,s3,s4,s5⟩:=settle_in hb (by omega) hy
    obtain ⟨q1,q2,q3⟩:=f.cityL b.Pay.toNat (by omega)
    have hop:∀ d,0 ≤ d→d ≤ 100000→mcalendar_Open (el r.Cities b.Pay.toNat) d = some (Cal.openD (townOf11 (el r.Cities b.Pay.toNat)) d,0):=by
     intro d d0 d1
     unfold mcalendar_Open
     rw [gTown_eq11 _ (by omega) (by omega) (by omega),Option.map_some,(opB_day d0 d1).1,(opB_day (t:=townOf11 (el r.Cities b.Pay.toNat)) d0 d1).2]
    have hat:at? r.Cities b.Pay = some (el r.Cities b.Pay.toNat):=at_eq _ _ i2.1 i2.2
    rw [hyd]
    generalize hB:(baseOf r b seen).1 = B at *
    simp only [ref_base_eq r b seen f hR i3 p3 p1,hrb,orderAt_eq,Option.bind_some,decide_eq_true_eq,hat,hop y (by omega) s2,s4]
    rw [wrap_id (show -9223372036854775808 ≤ B + grace by omega) (by omega),if_neg (show ¬ b.Pay < 0 by omega),if_neg (show ¬ b.Pay ≥ (r.Cities.length:Int) by omega),if_neg (show ¬ y < B + grace by omega),if_neg (show ¬ y > 100000 by omega)]
    simp only [ne_eq,not_true_eq_false,if_false,Bool.not_true,Bool.false_eq_true,halted_eq r _ _ hH.1,Option.bind_some,s3]
    have key:mallongelaw11_TenorFirst_l1 r b grace true (y,0) B (orderAtOf r b.Pay) (B + grace) = some (.inl ()):=by
     unfold mallongelaw11_TenorFirst_l1
     have hst:=iter_all (step:=fun w=>mallongelaw11_TenorFirst_l1_s r b grace true (y,0) B (orderAtOf r b.Pay) w) (fun i:Nat=>B + grace + (i:Int)) (min (y - (B + grace)) 500).toNat (Sum.inl ()) ?_ ?_
     ·simpa using hst
     ·intro i hi
      have c1:B + grace + (i:Int) < y:=by omega
      have c2:B + grace + (i:Int) < B + grace + 500:=by omega
      show mallongelaw11_TenorFirst_l1_s r b grace true (y,0) B (orderAtOf r b.Pay) (B + grace + (i:Int)) = _
      unfold mallongelaw11_TenorFirst_l1_s
      rw [wrap_id (show -9223372036854775808 ≤ B + grace by omega) (by omega),wrap_id (show -9223372036854775808 ≤ B + grace + 500 by omega) (by omega),wrap_id (show -9223372036854775808 ≤ B + grace + (i:Int) + 1 by omega) (by omega),if_pos (decide_eq_true c1),if_pos (decide_eq_true c2),hat,Option.bind_some,hop _ (by omega) (by omega),Option.bind_some]
      simp only [bne_self_eq_false,Bool.false_eq_true,if_false,halted_eq r _ _ hH.1,Option.bind_some]
      have hnx:B + grace + (i:Int) + 1 = B + grace + ((i + 1:Nat):Int):=by omega
      rw [hnx]
      rcases s5 (B + grace + (i:Int)) (by omega) c1 with hh | hh
      ·rw [hh]
       cases Cal.openD (townOf11 (el r.Cities b.Pay.toNat)) (B + grace + (i:Int)) <;> rfl
      ·rw [hh]; rfl
     ·show mallongelaw11_TenorFirst_l1_s r b grace true (y,0) B (orderAtOf r b.Pay) (B + grace + (((min (y - (B + grace)) 500).toNat:Nat):Int)) = _
      unfold mallongelaw11_TenorFirst_l1_s
      rw [wrap_id (show -9223372036854775808 ≤ B + grace by omega) (by omega),wrap_id (show -9223372036854775808 ≤ B + grace + 500 by omega) (by omega)]
      by_cases c1:B + grace + (((min (y - (B + grace)) 500).toNat:Nat):Int) < y
      ·rw [if_pos (decide_eq_true c1),if_neg (fun z=>absurd (of_decide_eq_true z) (by omega))]
      ·rw [if_neg (fun z=>absurd (of_decide_eq_true z) c1)]
    rw [key]
    rfl
   ·rw [if_pos (by simpa using hd),due_bad hd]; rfl
  ·rw [if_pos (by simpa using h0)]
end
end Go.Proofs.Ytjllkddmkdajcaa
