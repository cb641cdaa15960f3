/- What the functions of package tenor answer, and that the reference of layer 11 answers the same. -/
import Derived.Test.YtibhbfhelfjloaaPReal9b
import Derived.Test.YtibhbfhelfjloaaCalS
set_option linter.unusedVariables false
set_option linter.unusedSimpArgs false
namespace Go.Proofs.Ytibhbfhelfjloaa
open Go.RowKit Vm
def HB (H:Int→Bool):Prop:=∀ y,100000 < y→H y = false
def freeOf (H:Int→Bool) (d:Int):Int:=d + (((firstO (fun k=>if H (d + (k:Int)) = true then none else some k) 0 (100002 - d).toNat).getD 0:Nat):Int)
theorem free_spec {H:Int→Bool} (hb:HB H) {d:Int} (hd:d ≤ 100001):d ≤ freeOf H d ∧ freeOf H d ≤ 100001 ∧ H (freeOf H d) = false ∧ ∀ y,d ≤ y→y < freeOf H d→H y = true:=by
 unfold freeOf
 cases h:firstO (fun k=>if H (d + (k:Int)) = true then none else some k) 0 (100002 - d).toNat with
 | none =>
  have:=(firstO_none _ 0).1 h (100001 - d).toNat (Nat.zero_le _) (by omega)
  split at this
  ·rename_i q
   rw [show d + ((100001 - d).toNat:Int) = 100001 by omega,hb 100001 (by omega)] at q
   cases q
  ·cases this
 | some k =>
  obtain ⟨i,_,h2,h3,h4⟩:=firstO_some _ 0 h
  split at h3
  ·cases h3
  ·rename_i q
   cases h3
   simp only [Option.getD_some]
   refine ⟨by omega,by omega,by simpa using q,fun y h1 h2'=>?_⟩
   have:=h4 (y - d).toNat (Nat.zero_le _) (by omega)
   rw [show d + ((y - d).toNat:Int) = y by omega] at this
   split at this
   ·assumption
   ·cases this
theorem free_unique {H:Int→Bool} (hb:HB H) {d s:Int} (hd:d ≤ 100001) (h1:d ≤ s) (h2:H s = false) (h3:∀ y,d ≤ y→y < s→H y = true):freeOf H d = s:=by
 obtain ⟨f1,f2,f3,f4⟩:=free_spec hb hd
 rcases Int.lt_trichotomy (freeOf H d) s with q | q | q
 ·rw [h3 _ f1 q] at f3; cases f3
 ·exact q
 ·rw [f4 _ h1 q] at h2; cases h2
theorem free_step {H:Int→Bool} (hb:HB H) {d e:Int} (hd:d ≤ e) (he:e ≤ 100001) (h:∀ y,d ≤ y→y < e→H y = true):freeOf H d = freeOf H e:=by
 obtain ⟨f1,f2,f3,f4⟩:=free_spec hb he
 exact free_unique hb (by omega) (by omega) f3 fun y h1 h2=>by
  by_cases q:y < e
  ·exact h y h1 q
  ·exact f4 y (by omega) h2
def settleD (H:Int→Bool) (t:Town) (d:Int):Option Int:=match Cal.nx1 t (freeOf H d) with
 | none=>none
 | some n=>if n = freeOf H d then some n else if h:d < n ∧ d ≤ 100001 then settleD H t n else none
termination_by (100002 - d).toNat
decreasing_by omega
theorem settle_none {H:Int→Bool} {t:Town} {d:Int} (h:Cal.nx1 t (freeOf H d) = none):settleD H t d = none:=by
 rw [settleD,h]
theorem settle_here {H:Int→Bool} {t:Town} {d:Int} (h:Cal.nx1 t (freeOf H d) = some (freeOf H d)):settleD H t d = some (freeOf H d):=by
 rw [settleD,h]; simp
theorem settle_go {H:Int→Bool} (hb:HB H) {t:Town} {d n:Int} (hd:d ≤ 100001) (h:Cal.nx1 t (freeOf H d) = some n) (hn:n ≠ freeOf H d):settleD H t d = settleD H t n ∧ d < n ∧ n ≤ 100000:=by
 obtain ⟨f1,f2,f3,f4⟩:=free_spec hb hd
 obtain ⟨g1,g2,g3,g4⟩:=Cal.nx1_some h
 refine ⟨?_,by omega,g3⟩
 rw [settleD,h]
 simp only [hn,if_false]
 rw [dif_pos ⟨by omega,hd⟩]
theorem settle_some {H:Int→Bool} (hb:HB H) {t:Town}:∀ (m:Nat) (d x:Int),(100002 - d).toNat ≤ m→d ≤ 100001→settleD H t d = some x →
  d ≤ x ∧ x ≤ 100000 ∧ H x = false ∧ Cal.openD t x = true ∧ ∀ y,d ≤ y→y < x→H y = true ∨ Cal.openD t y = false:=by
 intro m
 induction m with
 | zero=>intro d x hm hd; omega
 | succ m ih =>
  intro d x hm hd h
  obtain ⟨f1,f2,f3,f4⟩:=free_spec hb hd
  cases hn:Cal.nx1 t (freeOf H d) with
  | none=>rw [settle_none hn] at h; cases h
  | some n =>
   obtain ⟨g1,g2,g3,g4,g5,g6⟩:=Cal.nx1_spec hn
   by_cases e:n = freeOf H d
   ·rw [e] at hn
    rw [settle_here hn] at h
    cases h
    exact ⟨f1,by omega,f3,by rw [← e]; exact g5,fun y h1 h2=>.inl (f4 y h1 h2)⟩
   ·obtain ⟨q1,q2,q3⟩:=settle_go hb hd hn e
    rw [q1] at h
    obtain ⟨p1,p2,p3,p4,p5⟩:=ih n x (by omega) (by omega) h
    refine ⟨by omega,p2,p3,p4,fun y h1 h2=>?_⟩
    by_cases c1:y < freeOf H d
    ·exact .inl (f4 y h1 c1)
    ·by_cases c2:y < n
     ·exact .inr (g6 y (by omega) c2)
     ·exact p5 y (by omega) h2
theorem settle_in {H:Int→Bool} (hb:HB H) {t:Town} {d x:Int} (hd:d ≤ 100001) (h:settleD H t d = some x):d ≤ x ∧ x ≤ 100000 ∧ H x = false ∧ Cal.openD t x = true ∧ ∀ y,d ≤ y→y < x→H y = true ∨ Cal.openD t y = false:=settle_some hb _ d x (Nat.le_refl _) hd h
theorem settle_self {H:Int→Bool} (hb:HB H) {t:Town} {x:Int} (h0:0 ≤ x) (h9:x ≤ 100000) (hx:H x = false) (ho:Cal.openD t x = true):settleD H t x = some x:=by
 have hf:freeOf H x = x:=free_unique hb (by omega) (Int.le_refl _) hx fun y h1 h2=>by omega
 have hn:Cal.nx1 t (freeOf H x) = some (freeOf H x):=by rw [hf]; exact Cal.nx1_self ⟨h0,h9⟩ ho
 rw [settle_here hn,hf]
def haltIn (o d:Int) (h:GHalt):Bool:=decide (h.Order = o ∧ h.From ≤ d ∧ d ≤ h.To)
def halB (r:GRealm) (o d:Int):Bool:=r.Halts.any (haltIn o d)
def HaltsOk (r:GRealm):Prop:=r.Halts.length < 1000000 ∧ ∀ h ∈ r.Halts,h.From ≤ h.To ∧ h.To ≤ 100000
theorem hal_HB {r:GRealm} (h:HaltsOk r) (o:Int):HB (halB r o):=by
 intro y hy
 unfold halB
 rw [List.any_eq_false]
 intro x hx
 have:=h.2 x hx
 unfold haltIn
 rw [decide_eq_true_eq]
 omega
def skipF (o:Int) (p:Int × Bool) (h:GHalt):Int × Bool:=if haltIn o p.1 h = true then (h.To + 1,true) else p
theorem skip_fold {r:GRealm} (o:Int):∀ (l:List GHalt),(∀ h ∈ l,h ∈ r.Halts)→HaltsOk r→∀ p:Int × Bool,p.1 ≤ 100001 →
  p.1 ≤ (l.foldl (skipF o) p).1 ∧ (l.foldl (skipF o) p).1 ≤ 100001 ∧ (∀ y,p.1 ≤ y→y < (l.foldl (skipF o) p).1→halB r o y = true) ∧
  ((l.foldl (skipF o) p).2 = true→p.2 = true ∨ p.1 < (l.foldl (skipF o) p).1) ∧ ((l.foldl (skipF o) p).2 = false→(l.foldl (skipF o) p).1 = p.1 ∧ ∀ h ∈ l,haltIn o p.1 h = false)
 | [],_,_,p,hp=>⟨Int.le_refl _,hp,fun y h1 h2=>by simp at h2; omega,fun h=>.inl h,fun h=>⟨rfl,fun h hh=>by cases hh⟩⟩
 | h :: l,hl,hr,p,hp=>by
  rw [List.foldl_cons]
  have hm:=hl h (List.mem_cons_self ..)
  have hto:=hr.2 h hm
  cases hh:haltIn o p.1 h with
  | true =>
   have hs:skipF o p h = (h.To + 1,true):=by unfold skipF; rw [if_pos hh]
   rw [hs]
   have hc:h.Order = o ∧ h.From ≤ p.1 ∧ p.1 ≤ h.To:=by unfold haltIn at hh; rwa [decide_eq_true_eq] at hh
   obtain ⟨q1,q2,q3,q4,q5⟩:=skip_fold o l (fun x hx=>hl x (List.mem_cons_of_mem _ hx)) hr (h.To + 1,true) (show h.To + 1 ≤ 100001 by omega)
   simp only at q1 q2 q3 q4 q5
   refine ⟨by omega,q2,fun y h1 h2=>?_,fun _=>.inr (by omega),fun e=>?_⟩
   ·by_cases c:y < h.To + 1
    ·unfold halB
     rw [List.any_eq_true]
     exact ⟨h,hm,by unfold haltIn; rw [decide_eq_true_eq]; omega⟩
    ·exact q3 y (by omega) h2
   ·-- once true,always true
    exfalso
    have key:∀ (l:List GHalt) (a:Int),(l.foldl (skipF o) (a,true)).2 = true:=by
     intro l
     induction l with
     | nil=>intro a; rfl
     | cons h l ih =>
      intro a
      rw [List.foldl_cons]
      have:∃ b,skipF o (a,true) h = (b,true):=by
       unfold skipF
       by_cases c:haltIn o (a,true).1 h = true
       ·exact ⟨_,by rw [if_pos c]⟩
       ·exact ⟨a,by rw [if_neg c]⟩
      obtain ⟨b,hb⟩:=this
      rw [hb]; exact ih b
    rw [key] at e; cases e
  | false =>
   have hs:skipF o p h = p:=by unfold skipF; rw [if_neg (by rw [hh]; decide)]
   rw [hs]
   obtain ⟨q1,q2,q3,q4,q5⟩:=skip_fold o l (fun x hx=>hl x (List.mem_cons_of_mem _ hx)) hr p hp
   refine ⟨q1,q2,q3,q4,fun e=>⟨(q5 e).1,fun x hx=>?_⟩⟩
   rcases List.mem_cons.1 hx with rfl | hx
   ·exact hh
   ·exact (q5 e).2 x hx
theorem skip_l1_eq (r:GRealm) (o p:Int) (c:Bool) (h:HaltsOk r) (hp0:0 ≤ p) (hp:p ≤ 100001):mtenor_skip_l1 r o p c 0 = some (r.Halts.foldl (skipF o) (p,c)):=by
 have:=iter_all (step:=fun w=>mtenor_skip_l1_s r o w.1 w.2.1 w.2.2) (fun i=>(((r.Halts.take i).foldl (skipF o) (p,c)).1,((r.Halts.take i).foldl (skipF o) (p,c)).2,(i:Int))) r.Halts.length (r.Halts.foldl (skipF o) (p,c)) ?_ ?_
 ·exact this
 ·intro i hi
  have hx:=h.2 _ (el_mem r.Halts i hi)
  have hl:=h.1
  rw [← take_succ_el r.Halts i hi,List.foldl_append]
  simp only [List.foldl_cons,List.foldl_nil]
  obtain ⟨q1,q2,_⟩:=skip_fold (r:=r) o (r.Halts.take i) (fun x hx=>List.mem_of_mem_take hx) h (p,c) hp
  generalize (r.Halts.take i).foldl (skipF o) (p,c) = st at q1 q2
  obtain ⟨d,b⟩:=st
  simp only at q1 q2
  simp only [mtenor_skip_l1_s,lt_t hi,if_true,at_el _ _ hi,Option.bind_some,wrap_succ (show i < 9223372036854775807 by omega),beq_iff_eq,decide_eq_true_eq,skipF,haltIn]
  by_cases c1:(el r.Halts i).Order = o
  ·by_cases c2:(el r.Halts i).From ≤ d
   ·by_cases c3:d ≤ (el r.Halts i).To
    ·rw [if_pos c1,if_pos c2,if_pos c3,if_pos ⟨c1,c2,c3⟩,wrap_id (by omega) (by omega)]
    ·rw [if_pos c1,if_pos c2,if_neg c3,if_neg (fun q=>c3 q.2.2)]
   ·rw [if_pos c1,if_neg c2,if_neg (fun q=>c2 q.2.1)]
  ·rw [if_neg c1,if_neg (fun q=>c1 q.1)]
 ·simp only [mtenor_skip_l1_s,lt_f,if_false,List.take_length]
theorem skip_eq (r:GRealm) (o d:Int) (h:HaltsOk r) (hd0:0 ≤ d) (hd:d ≤ 100001):mtenor_skip r o d = some (freeOf (halB r o) d):=by
 have hb:=hal_HB h o
 have key:∀ (m:Nat) (d:Int),(100002 - d).toNat ≤ m→0 ≤ d→d ≤ 100001→mtenor_skip_l2 r o d true = some (freeOf (halB r o) d):=by
  intro m
  induction m with
  | zero=>intro d hm hd0 hd; omega
  | succ m ih =>
   intro d hm hd0 hd
   obtain ⟨q1,q2,q3,q4,q5⟩:=skip_fold (r:=r) o r.Halts (fun x hx=>hx) h (d,false) hd
   have hstep:mtenor_skip_l2_s r o d true = some (.inl ((r.Halts.foldl (skipF o) (d,false)).1,(r.Halts.foldl (skipF o) (d,false)).2)):=by
    simp only [mtenor_skip_l2_s,if_true,skip_l1_eq r o d false h hd0 hd,Option.bind_some]
   refine (iter_some (step:=fun w=>mtenor_skip_l2_s r o w.1 w.2) (s:=(d,true)) hstep).trans ?_
   generalize r.Halts.foldl (skipF o) (d,false) = st at q1 q2 q3 q4 q5
   obtain ⟨e,b⟩:=st
   simp only at q1 q2 q3 q4 q5
   cases b with
   | true =>
    have hlt:d < e:=by
     rcases q4 rfl with q | q
     ·cases q
     ·exact q
    rw [free_step hb q1 q2 q3]
    exact ih e (by omega) (by omega) q2
   | false =>
    obtain ⟨rfl,p2⟩:=q5 rfl
    have hf:halB r o e = false:=by unfold halB; rw [List.any_eq_false]; exact fun x hx=>by rw [p2 x hx]; decide
    rw [free_unique hb hd (Int.le_refl _) hf fun y h1 h2=>by omega]
    exact iter_end (step:=fun w=>mtenor_skip_l2_s r o w.1 w.2) (s:=(e,false)) rfl
 unfold mtenor_skip
 rw [key _ d (Nat.le_refl _) hd0 hd]
 rfl
def townOf11 (c:GCity):Town:=⟨c.Rest,c.Feasts,c.Shut⟩
theorem gTown_eq11 (c:GCity) (h1:c.Rest.length ≤ 1000000) (h2:c.Feasts.length ≤ 1000000) (h3:c.Shut.length ≤ 1000000):gTown c = some (townOf11 c):=by
 unfold gTown
 rw [if_pos ⟨by omega,by omega,by omega⟩]; rfl
def endOf (o:Option Int):Int × Int:=(Cal.got o,Cal.gotE o)
def settleOf (r:GRealm) (c d:Int):Option Int:=settleD (halB r (orderAtOf r c)) (townOf11 (el r.Cities c.toNat)) d
theorem settle_eq (r:GRealm) (c d:Int) (f:FewL r) (h:HaltsOk r) (h0:0 ≤ c) (h1:c < r.Cities.length) (hd0:0 ≤ d) (hd:d ≤ 100001):mtenor_settle r c d = some (endOf (settleOf r c d)):=by
 unfold mtenor_settle settleOf
 have hb:=hal_HB h (orderAtOf r c)
 obtain ⟨q1,q2,q3⟩:=f.cityL c.toNat (by omega)
 have key:∀ (m:Nat) (d:Int),(100002 - d).toNat ≤ m→0 ≤ d→d ≤ 100001→mtenor_settle_l1 r c (orderAtOf r c) d = some (endOf (settleD (halB r (orderAtOf r c)) (townOf11 (el r.Cities c.toNat)) d)):=by
  intro m
  induction m with
  | zero=>intro d hm h0 hd; omega
  | succ m ih =>
   intro d hm hd0 hd
   have hstep:mtenor_settle_l1_s r c (orderAtOf r c) d = (match Cal.nx1 (townOf11 (el r.Cities c.toNat)) (freeOf (halB r (orderAtOf r c)) d) with
     | none=>some (.inr (0,3))
     | some n=>if n = freeOf (halB r (orderAtOf r c)) d then some (.inr (n,0)) else some (.inl n)):=by
    simp only [mtenor_settle_l1_s,skip_eq r _ d h hd0 hd,Option.bind_some,at_eq _ _ h0 h1,mcalendar_Next,gTown_eq11 (el r.Cities c.toNat) (by omega) (by omega) (by omega),Option.map_some]
    cases hn:Cal.nx1 (townOf11 (el r.Cities c.toNat)) (freeOf (halB r (orderAtOf r c)) d) with
    | none=>rfl
    | some n =>
     simp only [Cal.got_some,Cal.gotE_some]
     by_cases e:n = freeOf (halB r (orderAtOf r c)) d
     ·simp [e]
     ·simp [e]
   cases hn:Cal.nx1 (townOf11 (el r.Cities c.toNat)) (freeOf (halB r (orderAtOf r c)) d) with
   | none =>
    rw [hn] at hstep
    rw [settle_none hn]
    exact iter_end (step:=fun w=>mtenor_settle_l1_s r c (orderAtOf r c) w) hstep
   | some n =>
    rw [hn] at hstep
    by_cases e:n = freeOf (halB r (orderAtOf r c)) d
    ·simp only [e,if_true] at hstep
     rw [e] at hn
     rw [settle_here hn]
     exact iter_end (step:=fun w=>mtenor_settle_l1_s r c (orderAtOf r c) w) hstep
    ·simp only [e,if_false] at hstep
     obtain ⟨p1,p2,p3⟩:=settle_go hb hd hn e
     rw [p1]
     refine (iter_some (step:=fun w=>mtenor_settle_l1_s r c (orderAtOf r c) w) hstep).trans ?_
     exact ih n (by omega) (by omega) (by omega)
 simp only [orderAt_eq,Option.bind_some,key _ d (Nat.le_refl _) hd0 hd]
end Go.Proofs.Ytibhbfhelfjloaa
