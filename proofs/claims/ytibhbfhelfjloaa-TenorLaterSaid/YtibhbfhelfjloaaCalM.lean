/- Plain arithmetic of the calendar: no program in sight. Plain laws of the calendar: days and dates lead to each other; months. No program in sight. Plain laws of the calendar: months that are added. No program in sight. -/
set_option linter.unusedVariables false
namespace Go.Proofs.Ytibhbfhelfjloaa.Cal
def yoe (r:Int):Int:=(r - r / 1460 + r / 36524 - r / 146096) / 365
def yb (y:Int):Int:=365 * y + y / 4 - y / 100
theorem yoe_of (c k j D:Int) (hc0:0 ≤ c) (hc:c ≤ 3) (hk0:0 ≤ k) (hk:k ≤ 24) (hj0:0 ≤ j) (hj:j ≤ 3) (hD0:0 ≤ D)
  (hD:D ≤ 364 ∨ (D = 365 ∧ j = 3 ∧ (k ≤ 23 ∨ c = 3))) :
  yoe (36524 * c + 1461 * k + 365 * j + D) = 100 * c + 4 * k + j:=by
 have hq:∃ t:Int,0 ≤ t ∧ t ≤ 1 ∧ 1 ≤ D - t + 1 ∧ D - t ≤ 364 ∧ (36524 * c + 1461 * k + 365 * j + D) / 1460 = 25 * c + k + t:=by
  by_cases ht:1460 ≤ 24 * c + k + 365 * j + D
  ·exact ⟨1,by omega,by omega,by omega,by omega,by omega⟩
  ·exact ⟨0,by omega,by omega,by omega,by omega,by omega⟩
 obtain ⟨t,ht0,ht1,hd0,hd1,hq⟩:=hq
 have hf:(36524 * c + 1461 * k + 365 * j + D) / 36524 - (36524 * c + 1461 * k + 365 * j + D) / 146096 = c:=by
  rcases (by omega:1461 * k + 365 * j + D ≤ 36523 ∨ (c = 3 ∧ k = 24 ∧ j = 3 ∧ D = 365)) with hb | ⟨rfl,rfl,rfl,rfl⟩
  ·have h1:(36524 * c + 1461 * k + 365 * j + D) / 36524 = c:=by omega
   have h2:(36524 * c + 1461 * k + 365 * j + D) / 146096 = 0:=by omega
   omega
  ·decide
 unfold yoe
 rw [show 36524 * c + 1461 * k + 365 * j + D - (36524 * c + 1461 * k + 365 * j + D) / 1460 + (36524 * c + 1461 * k + 365 * j + D) / 36524 - (36524 * c + 1461 * k + 365 * j + D) / 146096 =
  365 * (100 * c + 4 * k + j) + (D - t) from by omega]
 omega
theorem era_parts (r:Int) (h0:0 ≤ r) (h:r < 146097):∃ c k j D:Int,0 ≤ c ∧ c ≤ 3 ∧ 0 ≤ k ∧ k ≤ 24 ∧ 0 ≤ j ∧ j ≤ 3 ∧ 0 ≤ D ∧
  (D ≤ 364 ∨ (D = 365 ∧ j = 3 ∧ (k ≤ 23 ∨ c = 3))) ∧ r = 36524 * c + 1461 * k + 365 * j + D:=by
 by_cases hl:r = 146096
 ·exact ⟨3,24,3,365,by omega,by omega,by omega,by omega,by omega,by omega,by omega,by omega,by omega⟩
 ·-- the century
  have hc:0 ≤ r / 36524 ∧ r / 36524 ≤ 3:=by omega
  have hk:0 ≤ (r % 36524) / 1461 ∧ (r % 36524) / 1461 ≤ 24:=by omega
  by_cases h4:(r % 36524) % 1461 = 1460
  ·refine ⟨r / 36524,(r % 36524) / 1461,3,365,?_⟩; omega
  ·refine ⟨r / 36524,(r % 36524) / 1461,((r % 36524) % 1461) / 365,((r % 36524) % 1461) % 365,?_⟩; omega
theorem yb_of (c k j:Int) (_hc0:0 ≤ c) (_hc:c ≤ 3) (hk0:0 ≤ k) (hk:k ≤ 24) (hj0:0 ≤ j) (hj:j ≤ 3) :
  yb (100 * c + 4 * k + j) = 36524 * c + 1461 * k + 365 * j:=by
 unfold yb; omega
theorem yoe_spec (r:Int) (h0:0 ≤ r) (h:r < 146097) :
  0 ≤ yoe r ∧ yoe r ≤ 399 ∧ 0 ≤ r - yb (yoe r) ∧ r - yb (yoe r) ≤ 365 ∧ (r - yb (yoe r) = 365→(yoe r % 4 = 3 ∧ (yoe r % 100 = 99→yoe r = 399))):=by
 obtain ⟨c,k,j,D,a1,a2,a3,a4,a5,a6,a7,a8,rfl⟩:=era_parts r h0 h
 rw [yoe_of c k j D a1 a2 a3 a4 a5 a6 a7 a8,yb_of c k j a1 a2 a3 a4 a5 a6]
 omega
def er (d:Int):Int:=(d + 730425) / 146097
def re (d:Int):Int:=(d + 730425) % 146097
def ye (d:Int):Int:=yoe (re d)
def dy (d:Int):Int:=re d - yb (ye d)
def mp (d:Int):Int:=(5 * dy d + 2) / 153
def cvD (d:Int):Int:=dy d - (153 * mp d + 2) / 5 + 1
def cvM (d:Int):Int:=if mp d + 3 > 12 then mp d - 9 else mp d + 3
def cvY (d:Int):Int:=if mp d + 3 > 12 then ye d + 400 * er d + 1 else ye d + 400 * er d
def num (y m k:Int):Int :=
 if m < 3 then 365 * (y - 1) + (y - 1) / 4 - (y - 1) / 100 + (y - 1) / 400 + (153 * (m + 9) + 2) / 5 + k - 1 - 730425
 else 365 * y + y / 4 - y / 100 + y / 400 + (153 * (m - 3) + 2) / 5 + k - 1 - 730425
def len (y m:Int):Int:=if m = 12 then 31 else num y (m + 1) 1 - num y m 1
def leap (y:Int):Prop:=y % 4 = 0 ∧ (y % 100 ≠ 0 ∨ y % 400 = 0)
instance (y:Int):Decidable (leap y):=by unfold leap; infer_instance
def ln (y m:Int):Int:=if m = 2 then (if leap y then 29 else 28) else if m = 4 ∨ m = 6 ∨ m = 9 ∨ m = 11 then 30 else 31
theorem len_eq (y m:Int) (h1:1 ≤ m) (h2:m ≤ 12):len y m = ln y m:=by
 rcases (by omega:m = 1 ∨ m = 2 ∨ m = 3 ∨ m = 4 ∨ m = 5 ∨ m = 6 ∨ m = 7 ∨ m = 8 ∨ m = 9 ∨ m = 10 ∨ m = 11 ∨ m = 12) with rfl | rfl | rfl | rfl | rfl | rfl | rfl | rfl | rfl | rfl | rfl | rfl
 all_goals simp [len,ln,num,leap]
 all_goals omega
theorem parts (d:Int) (h0:0 ≤ d) (h:d ≤ 1000000) :
  0 ≤ re d ∧ re d < 146097 ∧ d + 730425 = 146097 * er d + re d ∧ 4 ≤ er d ∧ er d ≤ 11 ∧ 0 ≤ ye d ∧ ye d ≤ 399 ∧ 0 ≤ dy d ∧ dy d ≤ 365 ∧
  (dy d = 365→(ye d % 4 = 3 ∧ (ye d % 100 = 99→ye d = 399))) ∧ 0 ≤ mp d ∧ mp d ≤ 11 ∧ re d = 365 * ye d + ye d / 4 - ye d / 100 + dy d:=by
 have h1:0 ≤ re d ∧ re d < 146097 ∧ d + 730425 = 146097 * er d + re d:=by unfold re er; omega
 have h2:4 ≤ er d ∧ er d ≤ 11:=by unfold er; omega
 obtain ⟨a1,a2,a3⟩:=h1
 have hy:=yoe_spec (re d) a1 a2
 have hd:dy d = re d - yb (yoe (re d)):=rfl
 have hye:ye d = yoe (re d):=rfl
 rw [← hd,← hye] at hy
 have hb:yb (ye d) = 365 * ye d + ye d / 4 - ye d / 100:=rfl
 have hm:mp d = (5 * dy d + 2) / 153:=rfl
 rw [← hye] at hd
 generalize yb (ye d) = Z at *
 generalize re d = R at *
 generalize er d = E at *
 generalize ye d = Y at *
 generalize dy d = K at *
 omega
theorem cvY_eq (d:Int):(12 < mp d + 3→cvY d = ye d + 400 * er d + 1) ∧ (¬ 12 < mp d + 3→cvY d = ye d + 400 * er d) :=
 ⟨fun h=>if_pos h,fun h=>if_neg h⟩
theorem cvM_eq (d:Int):(12 < mp d + 3→cvM d = mp d + 3 - 12) ∧ (¬ 12 < mp d + 3→cvM d = mp d + 3) :=
 ⟨fun h=>by unfold cvM; rw [if_pos h]; omega,fun h=>if_neg h⟩
theorem num_cv (d:Int) (h0:0 ≤ d) (h:d ≤ 1000000):num (cvY d) (cvM d) (cvD d) = d:=by
 obtain ⟨a1,a2,a3,a4,a5,a6,a7,a8,a9,a10,a11,a12,a13⟩:=parts d h0 h
 unfold num cvY cvM cvD
 generalize er d = E at *
 generalize re d = R at *
 generalize ye d = Y at *
 generalize dy d = K at *
 generalize mp d = M at *
 have e1:(Y + 400 * E) / 4 = Y / 4 + 100 * E:=by omega
 have e2:(Y + 400 * E) / 100 = Y / 100 + 4 * E:=by omega
 have e3:(Y + 400 * E) / 400 = E:=by omega
 split
 ·rw [if_pos (by omega),show Y + 400 * E + 1 - 1 = Y + 400 * E from by omega,e1,e2,e3,show M - 9 + 9 = M from by omega]; omega
 ·rw [if_neg (by omega),e1,e2,e3,show M + 3 - 3 = M from by omega]; omega
theorem cv_bd (d:Int) (h0:0 ≤ d) (h:d ≤ 100000):1 ≤ cvM d ∧ cvM d ≤ 12 ∧ 1 ≤ cvD d ∧ cvD d ≤ len (cvY d) (cvM d) ∧ 2000 ≤ cvY d ∧ cvY d ≤ 2273:=by
 obtain ⟨a1,a2,a3,a4,a5,a6,a7,a8,a9,a10,a11,a12,a13⟩:=parts d h0 (by omega)
 have hm:mp d = (5 * dy d + 2) / 153:=rfl
 have hk:0 ≤ dy d - (153 * mp d + 2) / 5:=by omega
 have hM:1 ≤ cvM d ∧ cvM d ≤ 12:=by unfold cvM; split <;> omega
 refine ⟨hM.1,hM.2,by unfold cvD; omega,?_,?_,?_⟩
 ·rw [len_eq _ _ hM.1 hM.2]
  unfold cvY cvM cvD ln leap
  generalize er d = E at *
  generalize re d = R at *
  generalize ye d = Y at *
  generalize dy d = K at *
  generalize mp d = M at *
  rcases (by omega:M = 0 ∨ M = 1 ∨ M = 2 ∨ M = 3 ∨ M = 4 ∨ M = 5 ∨ M = 6 ∨ M = 7 ∨ M = 8 ∨ M = 9 ∨ M = 10 ∨ M = 11) with rfl | rfl | rfl | rfl | rfl | rfl | rfl | rfl | rfl | rfl | rfl | rfl
  all_goals simp
  all_goals try omega
 ·unfold cvY
  rcases (by omega:er d = 4 ∨ 5 ≤ er d) with h4 | h5
  ·have hY:ye d = 399:=by omega
   rw [hY] at a13
   split <;> omega
  ·split <;> omega
 ·unfold cvY; split <;> omega
def okDate (y m k:Int):Prop:=2000 ≤ y ∧ y ≤ 2300 ∧ 1 ≤ m ∧ m ≤ 12 ∧ 1 ≤ k ∧ k ≤ len y m
instance (y m k:Int):Decidable (okDate y m k):=by unfold okDate; infer_instance
def okDay (d:Int):Prop:=0 ≤ d ∧ d ≤ 100000
instance (d:Int):Decidable (okDay d):=by unfold okDay; infer_instance
def dayV (y m k:Int):Int:=if okDate y m k ∧ okDay (num y m k) then num y m k else 0
def dayE (y m k:Int):Int:=if okDate y m k ∧ okDay (num y m k) then 0 else 3
theorem len_bd (y m:Int) (h1:1 ≤ m) (h2:m ≤ 12):28 ≤ len y m ∧ len y m ≤ 31:=by
 rw [len_eq y m h1 h2]; unfold ln; split
 ·split <;> omega
 ·split <;> omega
theorem num_bd (y m k:Int) (h0:1 ≤ y) (h:y ≤ 9999) (h1:1 ≤ m) (h2:m ≤ 13) (h3:1 ≤ k) (h4:k ≤ 31):-730425 ≤ num y m k ∧ num y m k ≤ 4000000:=by
 unfold num; split <;> omega
theorem num_lo (y m k:Int) (h:okDate y m k):0 ≤ num y m k ∧ num y m k ≤ 200000:=by
 obtain ⟨a1,a2,a3,a4,a5,a6⟩:=h
 have:=len_bd y m a3 a4
 unfold num; split <;> omega
def addAt (d n:Int) (f:Int→Int→Int→Int):Int :=
 f ((12 * cvY d + cvM d - 1 + n) / 12) ((12 * cvY d + cvM d - 1 + n) % 12 + 1) (min (cvD d) (len ((12 * cvY d + cvM d - 1 + n) / 12) ((12 * cvY d + cvM d - 1 + n) % 12 + 1)))
def addV (d n:Int):Int:=if okDay d ∧ -5000 ≤ n ∧ n ≤ 5000 then addAt d n dayV else 0
def addE (d n:Int):Int:=if okDay d ∧ -5000 ≤ n ∧ n ≤ 5000 then addAt d n dayE else 3
end Go.Proofs.Ytibhbfhelfjloaa.Cal
set_option linter.unusedVariables false
namespace Go.Proofs.Ytibhbfhelfjloaa.Cal
def ms (t:Int):Int:=num (t / 12) (t % 12 + 1) 1
def ml (t:Int):Int:=len (t / 12) (t % 12 + 1)
theorem ml_bd (t:Int):28 ≤ ml t ∧ ml t ≤ 31:=len_bd _ _ (by omega) (by omega)
theorem ms_succ (t:Int):ms (t + 1) = ms t + ml t:=by
 unfold ms ml
 by_cases h:t % 12 = 11
 ·have e1:(t + 1) / 12 = t / 12 + 1:=by omega
  have e2:(t + 1) % 12 = 0:=by omega
  rw [e1,e2,h]
  generalize t / 12 = y
  simp [num,len]; omega
 ·have e1:(t + 1) / 12 = t / 12:=by omega
  have e2:(t + 1) % 12 = t % 12 + 1:=by omega
  rw [e1,e2]
  unfold len
  rw [if_neg (by omega)]; omega
theorem ms_add (t:Int):∀ n:Nat,ms t + 28 * n ≤ ms (t + n)
 | 0=>by simp
 | n + 1=>by
  have h:=ms_add t n
  have h1:=ms_succ (t + n)
  have h2:=ml_bd (t + n)
  rw [show t + ((n + 1:Nat):Int) = t + n + 1 from by omega,h1]; omega
theorem ms_le {t u:Int} (h:t ≤ u):ms t ≤ ms u:=by
 obtain ⟨n,hn⟩:=Int.eq_ofNat_of_zero_le (show 0 ≤ u - t by omega)
 have:=ms_add t n
 rw [show t + (n:Int) = u from by omega] at this; omega
theorem ms_lt {t u:Int} (h:t < u):ms t + ml t ≤ ms u:=by
 have:=ms_le (show t + 1 ≤ u by omega)
 rw [ms_succ] at this; exact this
theorem num_ms (y m k:Int) (h1:1 ≤ m) (h2:m ≤ 12):num y m k = ms (12 * y + m - 1) + k - 1:=by
 unfold ms
 rw [show (12 * y + m - 1) / 12 = y from by omega,show (12 * y + m - 1) % 12 + 1 = m from by omega]
 unfold num; split <;> omega
theorem ml_ms (y m:Int) (h1:1 ≤ m) (h2:m ≤ 12):ml (12 * y + m - 1) = len y m:=by
 unfold ml; rw [show (12 * y + m - 1) / 12 = y from by omega,show (12 * y + m - 1) % 12 + 1 = m from by omega]
theorem ms_inj {t u a b:Int} (ha:1 ≤ a ∧ a ≤ ml t) (hb:1 ≤ b ∧ b ≤ ml u) (h:ms t + a = ms u + b):t = u ∧ a = b:=by
 have:t = u:=by
  apply Classical.byContradiction; intro hne
  rcases (by omega:t < u ∨ u < t) with h1 | h1
  ·have:=ms_lt h1; omega
  ·have:=ms_lt h1; omega
 subst this; exact ⟨rfl,by omega⟩
def mt (d:Int):Int:=12 * cvY d + cvM d - 1
theorem cv_ms (d:Int) (h:okDay d):d = ms (mt d) + cvD d - 1 ∧ 1 ≤ cvD d ∧ cvD d ≤ ml (mt d) ∧ cvY d = mt d / 12 ∧ cvM d = mt d % 12 + 1 ∧ 24000 ≤ mt d ∧ mt d ≤ 27300:=by
 obtain ⟨b1,b2,b3,b4,b5,b6⟩:=cv_bd d h.1 h.2
 have hn:=num_cv d h.1 (by have:=h.2; omega)
 rw [num_ms _ _ _ b1 b2] at hn
 have hl:=ml_ms (cvY d) (cvM d) b1 b2
 unfold mt
 exact ⟨by omega,b3,by omega,by omega,by omega,by omega,by omega⟩
theorem cv_of (t k d:Int) (hk:1 ≤ k ∧ k ≤ ml t) (h:okDay d) (hd:d = ms t + k - 1):mt d = t ∧ cvD d = k ∧ cvY d = t / 12 ∧ cvM d = t % 12 + 1:=by
 obtain ⟨c1,c2,c3,c4,c5,_,_⟩:=cv_ms d h
 obtain ⟨e1,e2⟩:=ms_inj (t:=mt d) (u:=t) ⟨c2,c3⟩ hk (by omega)
 rw [e1] at c4 c5
 exact ⟨e1,e2,c4,c5⟩
end Go.Proofs.Ytibhbfhelfjloaa.Cal
set_option linter.unusedVariables false
namespace Go.Proofs.Ytibhbfhelfjloaa.Cal
def shift (d n:Int):Int:=ms (mt d + n) + min (cvD d) (ml (mt d + n)) - 1
theorem ms_0:ms 24000 = 0:=by decide
theorem ms_9:100000 < ms 27612:=by decide
theorem ok_range (t k:Int) (h1:1 ≤ k) (h2:k ≤ ml t) (h:okDay (ms t + k - 1)):24000 ≤ t ∧ t ≤ 27611:=by
 obtain ⟨a,b⟩:=h
 constructor
 ·apply Classical.byContradiction; intro hn
  have:=ms_lt (show t < 24000 by omega)
  rw [ms_0] at this; omega
 ·apply Classical.byContradiction; intro hn
  have:=ms_le (show 27612 ≤ t by omega)
  have:=ms_9; omega
theorem add_iff (d n:Int) (hd:okDay d) (h1:-5000 ≤ n) (h2:n ≤ 5000) :
  (okDay (shift d n)→addV d n = shift d n ∧ addE d n = 0 ∧ mt (shift d n) = mt d + n ∧ cvD (shift d n) = min (cvD d) (ml (mt d + n))) ∧ (¬ okDay (shift d n)→addV d n = 0 ∧ addE d n = 3):=by
 obtain ⟨c1,c2,c3,c4,c5,c6,c7⟩:=cv_ms d hd
 have hl:=ml_bd (mt d + n)
 have hk1:1 ≤ min (cvD d) (ml (mt d + n)):=by omega
 have hk2:min (cvD d) (ml (mt d + n)) ≤ ml (mt d + n):=by omega
 have hA:∀ f,addAt d n f = f ((mt d + n) / 12) ((mt d + n) % 12 + 1) (min (cvD d) (ml (mt d + n))):=fun f=>by
  unfold addAt ml mt
  rw [show 12 * cvY d + cvM d - 1 + n = 12 * cvY d + cvM d - 1 + n from rfl]
 have hnum:num ((mt d + n) / 12) ((mt d + n) % 12 + 1) (min (cvD d) (ml (mt d + n))) = shift d n:=by
  rw [num_ms _ _ _ (by omega) (by omega),show 12 * ((mt d + n) / 12) + ((mt d + n) % 12 + 1) - 1 = mt d + n from by omega]; rfl
 have hc:okDay d ∧ -5000 ≤ n ∧ n ≤ 5000:=⟨hd,h1,h2⟩
 unfold addV addE
 rw [if_pos hc,if_pos hc,hA,hA]
 unfold dayV dayE
 rw [hnum]
 constructor
 ·intro hs
  obtain ⟨r1,r2⟩:=ok_range _ _ hk1 hk2 hs
  have hcc:okDate ((mt d + n) / 12) ((mt d + n) % 12 + 1) (min (cvD d) (ml (mt d + n))) ∧ okDay (shift d n) :=
   ⟨⟨by omega,by omega,by omega,by omega,hk1,hk2⟩,hs⟩
  rw [if_pos hcc,if_pos hcc]
  obtain ⟨e1,e2,_,_⟩:=cv_of (mt d + n) _ (shift d n) ⟨hk1,hk2⟩ hs rfl
  exact ⟨rfl,rfl,e1,e2⟩
 ·intro hs
  have hcc:¬ (okDate ((mt d + n) / 12) ((mt d + n) % 12 + 1) (min (cvD d) (ml (mt d + n))) ∧ okDay (shift d n)):=fun h=>hs h.2
  rw [if_neg hcc,if_neg hcc]; exact ⟨rfl,rfl⟩
theorem add_out (d n:Int) (h:¬ (okDay d ∧ -5000 ≤ n ∧ n ≤ 5000)):addV d n = 0 ∧ addE d n = 3:=by
 unfold addV addE; rw [if_neg h,if_neg h]; exact ⟨rfl,rfl⟩
theorem add_cases (d n:Int):(addE d n = 0 ∧ okDay d ∧ -5000 ≤ n ∧ n ≤ 5000 ∧ okDay (shift d n) ∧ addV d n = shift d n ∧ mt (shift d n) = mt d + n ∧ cvD (shift d n) = min (cvD d) (ml (mt d + n))) ∨ (addE d n = 3 ∧ addV d n = 0):=by
 by_cases h:okDay d ∧ -5000 ≤ n ∧ n ≤ 5000
 ·obtain ⟨h0,h1,h2⟩:=h
  have hi:=add_iff d n h0 h1 h2
  by_cases hs:okDay (shift d n)
  ·obtain ⟨e1,e2,e3,e4⟩:=hi.1 hs
   exact .inl ⟨e2,h0,h1,h2,hs,e1,e3,e4⟩
  ·exact .inr ⟨(hi.2 hs).2,(hi.2 hs).1⟩
 ·exact .inr ⟨(add_out d n h).2,(add_out d n h).1⟩
theorem shift_mono (d d' a:Int) (h:okDay d) (h' : okDay d') (hle:d ≤ d'):shift d a ≤ shift d' a:=by
 obtain ⟨c1,c2,c3,c4,c5,c6,c7⟩:=cv_ms d h
 obtain ⟨g1,g2,g3,g4,g5,g6,g7⟩:=cv_ms d' h'
 unfold shift
 rcases (by omega:mt d < mt d' ∨ mt d = mt d' ∨ mt d' < mt d) with hm | hm | hm
 ·have:=ms_lt (show mt d + a < mt d' + a by omega)
  have:=ml_bd (mt d' + a); omega
 ·rw [hm]
  rw [hm] at c1
  omega
 ·have:=ms_lt hm; omega
theorem months_law (d a:Int) (h:addE d a = 0) :
  okDay d ∧ okDay (addV d a) ∧ 12 * cvY (addV d a) + cvM (addV d a) = 12 * cvY d + cvM d + a ∧ cvD (addV d a) ≤ cvD d ∧ (cvD d ≤ 28→cvD (addV d a) = cvD d) ∧
  ∀ m,0 ≤ m→m ≤ 100000 - d→addE (d + m) a = 0→addV d a ≤ addV (d + m) a:=by
 rcases add_cases d a with ⟨_,h0,h1,h2,hs,e1,e3,e4⟩ | ⟨h,_⟩
 ·have hl:=ml_bd (mt d + a)
  rw [e1]
  refine ⟨h0,hs,?_,by omega,fun _=>by omega,fun m m0 m1 hm=>?_⟩
  ·unfold mt at e3; omega
  ·rcases add_cases (d + m) a with ⟨_,g0,g1,g2,gs,f1,f3,f4⟩ | ⟨h,_⟩
   ·rw [f1]; exact shift_mono _ _ _ h0 g0 (by omega)
   ·omega
 ·omega
end Go.Proofs.Ytibhbfhelfjloaa.Cal
