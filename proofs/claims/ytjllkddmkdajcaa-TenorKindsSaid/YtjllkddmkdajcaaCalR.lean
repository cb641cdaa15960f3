/- The walk of the reference's Valid. The walks of the reference's plain functions of layer 4: leap, Length, days, Date, Day, Weekday, AddMonths. The walks of the reference's Day, Weekday, AddMonths. -/
import Derived.Test.YtjllkddmkdajcaaCalP
import Derived.Test.YtjllkddmkdajcaaCalM
set_option linter.unusedVariables false
namespace Go.Proofs.Ytjllkddmkdajcaa
open Go.RowKit
theorem validR_yes (d:Int) (w:World) (h:Cal.okDay d) :
  Calls Try.prog 52 #[.int .i64 d] w fun e w'=>e = .returned (.bool true) ∧ w = w':=by
 obtain ⟨h1,h2⟩:=h
 go_enter Try.func52,Try.ntmps52
 go_wp2
 go_ret
 exact ⟨rfl,rfl⟩
theorem validR_no (d:Int) (w:World) (h:¬ Cal.okDay d) :
  Calls Try.prog 52 #[.int .i64 d] w fun e w'=>e = .returned (.bool false) ∧ w = w':=by
 by_cases h1:0 ≤ d
 ·have h2:100000 < d:=by unfold Cal.okDay at h; omega
  have hd:decide (d ≤ 100000) = false:=by simpa using h2
  clear h
  go_enter Try.func52,Try.ntmps52
  go_wp2
  go_ret
  exact ⟨rfl,rfl⟩
 ·have h1:d < 0:=by omega
  clear h
  go_enter Try.func52,Try.ntmps52
  go_wp2
  go_ret
  exact ⟨rfl,rfl⟩
end Go.Proofs.Ytjllkddmkdajcaa
set_option linter.unusedVariables false
namespace Go.Proofs.Ytjllkddmkdajcaa
open Go.RowKit
namespace Cal
def ylen (y:Int):Int:=if leap y then 366 else 365
theorem ylen_bd (y:Int):365 ≤ ylen y ∧ ylen y ≤ 366:=by unfold ylen; split <;> omega
theorem ms_year (y:Int):ms (12 * y + 12) = ms (12 * y) + ylen y:=by
 have e:∀ k:Int,0 ≤ k→k ≤ 11→ms (12 * y + k) = num y (k + 1) 1:=fun k h0 h1=>by
  rw [num_ms y (k + 1) 1 (by omega) (by omega),show 12 * y + (k + 1) - 1 = 12 * y + k from by omega]; omega
 have h1:=ms_succ (12 * y + 11)
 rw [show 12 * y + 11 + 1 = 12 * y + 12 from by omega] at h1
 have h2:=e 11 (by omega) (by omega)
 have h3:=e 0 (by omega) (by omega)
 rw [show 12 * y + 0 = 12 * y from by omega] at h3
 have h4:ml (12 * y + 11) = 31:=by
  rw [show (12:Int) * y + 11 = 12 * y + 12 - 1 from by omega,ml_ms y 12 (by omega) (by omega)]; rfl
 rw [h1,h2,h3,h4]
 by_cases hl:leap y
 ·rw [show ylen y = 366 from if_pos hl]
  unfold leap at hl
  unfold num
  simp
  omega
 ·rw [show ylen y = 365 from if_neg hl]
  unfold leap at hl
  unfold num
  simp
  omega
theorem ms_2000:ms (12 * 2000) = 0:=ms_0
theorem ml_ln (y m:Int) (h1:1 ≤ m) (h2:m ≤ 12):ml (12 * y + m - 1) = ln y m:=by rw [ml_ms y m h1 h2,len_eq y m h1 h2]
end Cal
theorem leap_is (y:Int) (p:Bool) (w:World) (h0:0 ≤ y) (hp:decide (Cal.leap y) = p) :
  Calls Try.prog 108 #[.int .i64 y] w fun e w'=>e = .returned (.bool p) ∧ w = w':=by
 subst hp
 by_cases h4:y % 4 = 0
 ·have b4:(y % 4 == 0) = true:=by simp [h4]
  by_cases h100:y % 100 = 0
  ·have b100:(y % 100 != 0) = false:=by simp [h100]
   have b101:(y % 100 == 0) = true:=by simp [h100]
   by_cases h400:y % 400 = 0
   ·have b400:(y % 400 == 0) = true:=by simp [h400]
    have hl:Hid (decide (Cal.leap y) = true):=by show _ = _; simp [Cal.leap,h4,h100,h400]
    clear h4 h100 h400
    go_enter Try.func108,Try.ntmps108
    go_wp2
    go_ret
    exact ⟨ret1b hl.out.symm,rfl⟩
   ·have b400:(y % 400 == 0) = false:=by simpa using h400
    have hl:Hid (decide (Cal.leap y) = false):=by show _ = _; simp [Cal.leap,h4,h100,h400]
    clear h4 h100 h400
    go_enter Try.func108,Try.ntmps108
    go_wp2
    go_ret
    exact ⟨ret1b hl.out.symm,rfl⟩
  ·have b100:(y % 100 != 0) = true:=by simpa using h100
   have b101:(y % 100 == 0) = false:=by simpa using h100
   have hl:Hid (decide (Cal.leap y) = true):=by show _ = _; simp [Cal.leap,h4,h100]
   clear h4 h100
   go_enter Try.func108,Try.ntmps108
   go_wp2
   go_ret
   exact ⟨ret1b hl.out.symm,rfl⟩
 ·have b4:(y % 4 == 0) = false:=by simpa using h4
  have hl:Hid (decide (Cal.leap y) = false):=by show _ = _; simp [Cal.leap,h4]
  clear h4
  go_enter Try.func108,Try.ntmps108
  go_wp2
  go_ret
  exact ⟨ret1b hl.out.symm,rfl⟩
theorem lengthR_calls (y m:Int) (w:World) (h0:0 ≤ y) (h1:1 ≤ m) (h2:m ≤ 12) :
  Calls Try.prog 92 #[.int .i64 y,.int .i64 m] w fun e w'=>e = .returned (.int .i64 (Cal.ln y m)) ∧ w = w':=by
 rcases (by omega:m = 1 ∨ m = 2 ∨ m = 3 ∨ m = 4 ∨ m = 5 ∨ m = 6 ∨ m = 7 ∨ m = 8 ∨ m = 9 ∨ m = 10 ∨ m = 11 ∨ m = 12) with rfl | rfl | rfl | rfl | rfl | rfl | rfl | rfl | rfl | rfl | rfl | rfl
 case inr.inl =>
  by_cases hl:Cal.leap y
  ·have hv:Hid (Cal.ln y 2 = 29):=by show _ = _; unfold Cal.ln; rw [if_pos rfl,if_pos hl]
   have hl:=Lib.hid (decide_eq_true hl)
   go_enter Try.func92,Try.ntmps92
   go_wp2_with (go_at_call 108; refine (leap_is _ _ _ h0 hl.out).mono ?_; rintro e w' ⟨rfl,rfl⟩)
   go_ret
   exact ⟨ret1i hv.out.symm,rfl⟩
  ·have hv:Hid (Cal.ln y 2 = 28):=by show _ = _; unfold Cal.ln; rw [if_pos rfl,if_neg hl]
   have hl:=Lib.hid (decide_eq_false hl)
   go_enter Try.func92,Try.ntmps92
   go_wp2_with (go_at_call 108; refine (leap_is _ _ _ h0 hl.out).mono ?_; rintro e w' ⟨rfl,rfl⟩)
   go_ret
   exact ⟨ret1i hv.out.symm,rfl⟩
 all_goals
  go_enter Try.func92,Try.ntmps92
  go_wp2_with fail
  go_ret
  exact ⟨ret1i rfl,rfl⟩
theorem daysR_calls (y:Int) (w:World) (h0:0 ≤ y) :
  Calls Try.prog 107 #[.int .i64 y] w fun e w'=>e = .returned (.int .i64 (Cal.ylen y)) ∧ w = w':=by
 by_cases hl:Cal.leap y
 ·have hv:Hid (Cal.ylen y = 366):=if_pos hl
  have hl:=Lib.hid (decide_eq_true hl)
  go_enter Try.func107,Try.ntmps107
  go_wp2_with (go_at_call 108; refine (leap_is _ _ _ h0 hl.out).mono ?_; rintro e w' ⟨rfl,rfl⟩)
  go_ret
  exact ⟨ret1i hv.out.symm,rfl⟩
 ·have hv:Hid (Cal.ylen y = 365):=if_neg hl
  have hl:=Lib.hid (decide_eq_false hl)
  go_enter Try.func107,Try.ntmps107
  go_wp2_with (go_at_call 108; refine (leap_is _ _ _ h0 hl.out).mono ?_; rintro e w' ⟨rfl,rfl⟩)
  go_ret
  exact ⟨ret1i hv.out.symm,rfl⟩
set_option maxRecDepth 100000 in
set_option maxHeartbeats 2000000 in
theorem dateR_ok (d:Int) (w:World) (h:Cal.okDay d) :
  Calls Try.prog 90 #[.int .i64 d] w fun e w'=>e = .returned (.tuple #[.int .i64 (Cal.cvY d),.int .i64 (Cal.cvM d),.int .i64 (Cal.cvD d),.int .i64 0]) ∧ w = w':=by
 have hH:=Lib.hid h
 obtain ⟨h0,h9⟩:=h
 go_enter Try.func90,Try.ntmps90
 go_wp2_with (go_at_call 52; refine (validR_yes _ _ hH.out).mono ?_; rintro e w' ⟨rfl,rfl⟩)
 go_loop [6,7] (fun yv rv=>∃ y:Int,2000 ≤ y ∧ y ≤ 2300 ∧ yv = .int .i64 y ∧ 0 ≤ d - Cal.ms (12 * y) ∧ rv = .int .i64 (d - Cal.ms (12 * y))) (fun _ r=>(intOf r).toNat)
 case atStart=>exact ⟨2000,by omega,by omega,rfl,by rw [Cal.ms_2000]; omega,by rw [Cal.ms_2000]; simp⟩
 case round =>
  obtain ⟨y,y0,y1,rfl,hr,rfl⟩:=hrel
  have hy:=Cal.ms_year y
  have hyl:=Cal.ylen_bd y
  have hlast:y = 2300→100000 < Cal.ms (12 * y):=fun e=>by subst e; decide
  have hy1:y < 2300 ∨ d - Cal.ms (12 * y) < 0:=by
   rcases (by omega:y < 2300 ∨ y = 2300) with h | h
   ·exact .inl h
   ·have:=hlast h; right; omega
  have hy2:y < 2300:=by omega
  have hlo:0 ≤ Cal.ms (12 * y):=by have:=Cal.ms_le (show 24000 ≤ 12 * y by omega); rw [Cal.ms_0] at this; exact this
  clear hlast hy1
  have hyH:=Lib.hid hy
  clear hy
  by_cases hc:Cal.ylen y ≤ d - Cal.ms (12 * y)
  ·go_wp2_with (go_at_call 107; refine (daysR_calls _ _ (by omega)).mono ?_; rintro e w' ⟨rfl,rfl⟩)
   go_round
   case rel=>exact ⟨y + 1,by omega,by omega,rfl,by rw [show 12 * (y + 1) = 12 * y + 12 from by omega,hyH.out]; omega,by rw [show 12 * (y + 1) = 12 * y + 12 from by omega,hyH.out]; congr 1; omega⟩
   case measure=>simp [intOf]; omega
  ·go_wp2_with (go_at_call 107; refine (daysR_calls _ _ (by omega)).mono ?_; rintro e w' ⟨rfl,rfl⟩)
   go_loop [7,8] (fun rv mv=>∃ m:Int,1 ≤ m ∧ m ≤ 12 ∧ mv = .int .i64 m ∧ 0 ≤ d - Cal.ms (12 * y + m - 1) ∧ rv = .int .i64 (d - Cal.ms (12 * y + m - 1))) (fun r _=>(intOf r).toNat)
   case atStart=>exact ⟨1,by omega,by omega,rfl,by rw [show 12 * y + 1 - 1 = 12 * y from by omega]; exact hr,by rw [show 12 * y + 1 - 1 = 12 * y from by omega]⟩
   case round =>
    obtain ⟨m,m0,m1,rfl,hm,rfl⟩:=hrel
    have hs:=Cal.ms_succ (12 * y + m - 1)
    rw [show 12 * y + m - 1 + 1 = 12 * y + (m + 1) - 1 from by omega,Cal.ml_ln y m m0 m1] at hs
    have hln:=Cal.ml_bd (12 * y + m - 1)
    rw [Cal.ml_ln y m m0 m1] at hln
    have hlo2:0 ≤ Cal.ms (12 * y + m - 1):=by have:=Cal.ms_le (show 12 * y ≤ 12 * y + m - 1 by omega); omega
    have hm12:m = 12→Cal.ms (12 * y + (m + 1) - 1) = Cal.ms (12 * y + 12):=fun e=>by subst e; rw [show 12 * y + (12 + 1) - 1 = 12 * y + 12 from by omega]
    by_cases hc2:Cal.ln y m ≤ d - Cal.ms (12 * y + m - 1)
    ·have hm2:m < 12:=by
      rcases (by omega:m < 12 ∨ m = 12) with h | h
      ·exact h
      ·have:=hm12 h; have:=hyH.out; omega
     have hsH:=Lib.hid hs
     clear hs hm12
     go_wp2_with (go_at_call 92; refine (lengthR_calls _ _ _ (by omega) (by omega) (by omega)).mono ?_; rintro e w' ⟨rfl,rfl⟩)
     go_round
     case rel=>exact ⟨m + 1,by omega,by omega,rfl,by rw [hsH.out]; omega,by rw [hsH.out]; congr 1; omega⟩
     case measure=>simp [intOf]; omega
    ·have hcv:=Cal.cv_of (12 * y + m - 1) (d - Cal.ms (12 * y + m - 1) + 1) d ⟨by omega,by rw [Cal.ml_ln y m m0 m1]; omega⟩ hH.out (by omega)
     have hcv:=Lib.hid hcv
     clear hs hm12
     go_wp2_with (go_at_call 92; refine (lengthR_calls _ _ _ (by omega) (by omega) (by omega)).mono ?_; rintro e w' ⟨rfl,rfl⟩)
     refine bodyPost_ret (results_tmp4 rfl _ _ _) rfl ?_
     exact ⟨ret4i (by have:=hcv.out.2.2.1; omega) (by have:=hcv.out.2.2.2; omega) hcv.out.2.1.symm rfl,rfl⟩
theorem dateR_no (d:Int) (w:World) (h:¬ Cal.okDay d) :
  Calls Try.prog 90 #[.int .i64 d] w fun e w'=>e = .returned (.tuple #[.int .i64 0,.int .i64 0,.int .i64 0,.int .i64 3]) ∧ w = w':=by
 have h:=Lib.hid h
 go_enter Try.func90,Try.ntmps90
 go_wp2_with (go_at_call 52; refine (validR_no _ _ h.out).mono ?_; rintro e w' ⟨rfl,rfl⟩)
 refine bodyPost_ret (results_tmp4 rfl _ _ _) rfl ?_
 exact ⟨rfl,rfl⟩
end Go.Proofs.Ytjllkddmkdajcaa
set_option linter.unusedVariables false
namespace Go.Proofs.Ytjllkddmkdajcaa
open Go.RowKit
set_option maxRecDepth 100000 in
set_option maxHeartbeats 2000000 in
theorem dayR_in (y m k:Int) (w:World) (h:Cal.okDate y m k) (x e:Int) (hx:Cal.dayV y m k = x) (he:Cal.dayE y m k = e) :
  Calls Try.prog 91 #[.int .i64 y,.int .i64 m,.int .i64 k] w fun en w'=>en = .returned (.tuple #[.int .i64 x,.int .i64 e]) ∧ w = w':=by
 have hnum:=Cal.num_lo y m k h
 have hH:=Lib.hid h
 obtain ⟨a1,a2,a3,a4,a5,a6⟩:=h
 rw [Cal.len_eq y m a3 a4] at a6
 have hb:Cal.ln y m ≤ 31:=by have:=Cal.len_bd y m a3 a4; rw [Cal.len_eq y m a3 a4] at this; omega
 have hxH:=Lib.hid hx
 have heH:=Lib.hid he
 clear hx he
 go_enter Try.func91,Try.ntmps91
 go_wp2_with (go_at_call 92; refine (lengthR_calls _ _ _ (by omega) (by omega) (by omega)).mono ?_; rintro e w' ⟨rfl,rfl⟩)
 go_loop [8,9] (fun ov yv=>∃ z:Int,2000 ≤ z ∧ z ≤ y ∧ yv = .int .i64 z ∧ ov = .int .i64 (k - 1 + Cal.ms (12 * z))) (fun _ z=>(y - intOf z).toNat)
 case atStart=>exact ⟨2000,by omega,by omega,rfl,by rw [Cal.ms_2000]; simp⟩
 case round =>
  obtain ⟨z,z0,z1,rfl,rfl⟩:=hrel
  have hz:=Cal.ms_year z
  have hzl:=Cal.ylen_bd z
  have hlo:0 ≤ Cal.ms (12 * z):=by have:=Cal.ms_le (show 24000 ≤ 12 * z by omega); rw [Cal.ms_0] at this; exact this
  have hhi:Cal.ms (12 * z) ≤ 120000:=by
   have:=Cal.ms_le (show 12 * z ≤ 27600 by omega)
   have h9:Cal.ms 27600 ≤ 120000:=by decide
   omega
  by_cases hlt:z < y
  ·have hzH:=Lib.hid hz
   clear hz
   go_wp2_with (go_at_call 107; refine (daysR_calls _ _ (by omega)).mono ?_; rintro e w' ⟨rfl,rfl⟩)
   go_round
   case rel=>exact ⟨z + 1,by omega,by omega,rfl,by rw [show 12 * (z + 1) = 12 * z + 12 from by omega,hzH.out]; congr 1; omega⟩
   case measure=>simp [intOf]; omega
  ·obtain rfl:z = y:=by omega
   clear hz
   go_wp2_with fail
   go_loop [8,10] (fun ov mv=>∃ u:Int,1 ≤ u ∧ u ≤ m ∧ mv = .int .i64 u ∧ ov = .int .i64 (k - 1 + Cal.ms (12 * z + u - 1))) (fun _ u=>(m - intOf u).toNat)
   case atStart=>exact ⟨1,by omega,by omega,rfl,by rw [show 12 * z + 1 - 1 = 12 * z from by omega]⟩
   case round =>
    obtain ⟨u,u0,u1,rfl,rfl⟩:=hrel
    have hs:=Cal.ms_succ (12 * z + u - 1)
    rw [show 12 * z + u - 1 + 1 = 12 * z + (u + 1) - 1 from by omega,Cal.ml_ln z u u0 (by omega)] at hs
    have hln:=Cal.ml_bd (12 * z + u - 1)
    rw [Cal.ml_ln z u u0 (by omega)] at hln
    have hlo2:0 ≤ Cal.ms (12 * z + u - 1):=by have:=Cal.ms_le (show 12 * z ≤ 12 * z + u - 1 by omega); omega
    have hhi2:Cal.ms (12 * z + u - 1) ≤ 130000:=by
     have:=Cal.ms_le (show 12 * z + u - 1 ≤ 27612 by omega)
     have h9:Cal.ms 27612 ≤ 130000:=by decide
     omega
    by_cases hlu:u < m
    ·have hsH:=Lib.hid hs
     clear hs
     go_wp2_with (go_at_call 92; refine (lengthR_calls _ _ _ (by omega) (by omega) (by omega)).mono ?_; rintro e w' ⟨rfl,rfl⟩)
     go_round
     case rel=>exact ⟨u + 1,by omega,by omega,rfl,by rw [hsH.out]; congr 1; omega⟩
     case measure=>simp [intOf]; omega
    ·obtain rfl:u = m:=by omega
     clear hs
     have hn:Cal.num z u k = Cal.ms (12 * z + u - 1) + k - 1:=Cal.num_ms z u k a3 a4
     by_cases hok:Cal.num z u k ≤ 100000
     ·have hd:Cal.okDay (k - 1 + Cal.ms (12 * z + u - 1)):=⟨by omega,by omega⟩
      have hv:Hid (k - 1 + Cal.ms (12 * z + u - 1) = x):=by
       have h1:=hxH.out
       unfold Cal.dayV at h1
       rw [if_pos ⟨hH.out,hnum.1,hok⟩] at h1
       show _ = _; omega
      have hv2:Hid (0 = e):=by
       have h1:=heH.out
       unfold Cal.dayE at h1
       rw [if_pos ⟨hH.out,hnum.1,hok⟩] at h1
       exact h1
      have hdH:=Lib.hid hd
      clear hd hn
      go_wp2_with (go_at_call 52; refine (validR_yes _ _ hdH.out).mono ?_; rintro e w' ⟨rfl,rfl⟩)
      go_ret2
      exact ⟨ret2i hv.out hv2.out,rfl⟩
     ·have hd:¬ Cal.okDay (k - 1 + Cal.ms (12 * z + u - 1)):=fun hh=>by have:=hh.2; omega
      have hv:Hid (0 = x):=by
       have h1:=hxH.out
       unfold Cal.dayV at h1
       rw [if_neg (fun hh=>hok hh.2.2)] at h1
       exact h1
      have hv2:Hid (3 = e):=by
       have h1:=heH.out
       unfold Cal.dayE at h1
       rw [if_neg (fun hh=>hok hh.2.2)] at h1
       exact h1
      have hdH:=Lib.hid hd
      clear hd hn
      go_wp2_with (go_at_call 52; refine (validR_no _ _ hdH.out).mono ?_; rintro e w' ⟨rfl,rfl⟩)
      go_ret2
      exact ⟨ret2i hv.out hv2.out,rfl⟩
theorem dayR_no (y m k:Int) (w:World) (h:¬ Cal.okDate y m k) :
  Calls Try.prog 91 #[.int .i64 y,.int .i64 m,.int .i64 k] w fun e w'=>e = .returned (.tuple #[.int .i64 0,.int .i64 3]) ∧ w = w':=by
 by_cases a1:2000 ≤ y
 ·by_cases a2:y ≤ 2300
  ·by_cases a3:1 ≤ m
   ·by_cases a4:m ≤ 12
    ·by_cases a5:1 ≤ k
     ·have a6:Cal.ln y m < k:=by
       apply Classical.byContradiction; intro h6; exact h ⟨a1,a2,a3,a4,a5,by rw [Cal.len_eq y m a3 a4]; omega⟩
      clear h
      go_enter Try.func91,Try.ntmps91
      go_wp2_with (go_at_call 92; refine (lengthR_calls _ _ _ (by omega) (by omega) (by omega)).mono ?_; rintro e w' ⟨rfl,rfl⟩)
      go_ret2
      exact ⟨rfl,rfl⟩
     ·clear h
      go_enter Try.func91,Try.ntmps91
      go_wp2_with fail
      go_ret2
      exact ⟨rfl,rfl⟩
    ·clear h
     go_enter Try.func91,Try.ntmps91
     go_wp2_with fail
     go_ret2
     exact ⟨rfl,rfl⟩
   ·clear h
    go_enter Try.func91,Try.ntmps91
    go_wp2_with fail
    go_ret2
    exact ⟨rfl,rfl⟩
  ·clear h
   go_enter Try.func91,Try.ntmps91
   go_wp2_with fail
   go_ret2
   exact ⟨rfl,rfl⟩
 ·clear h
  go_enter Try.func91,Try.ntmps91
  go_wp2_with fail
  go_ret2
  exact ⟨rfl,rfl⟩
theorem dayR_calls (y m k:Int) (w:World) :
  Calls Try.prog 91 #[.int .i64 y,.int .i64 m,.int .i64 k] w fun e w'=>e = .returned (.tuple #[.int .i64 (Cal.dayV y m k),.int .i64 (Cal.dayE y m k)]) ∧ w = w':=by
 by_cases h:Cal.okDate y m k
 ·exact dayR_in y m k w h _ _ rfl rfl
 ·have hc:¬ (Cal.okDate y m k ∧ Cal.okDay (Cal.num y m k)):=fun hh=>h hh.1
  unfold Cal.dayV Cal.dayE; rw [if_neg hc,if_neg hc]; exact dayR_no y m k w h
set_option maxHeartbeats 2000000 in
theorem addMonthsR_ok (d n:Int) (w:World) (h:Cal.okDay d) (h3:-5000 ≤ n) (h4:n ≤ 5000) (x e:Int) (hx:Cal.addV d n = x) (he:Cal.addE d n = e) :
  Calls Try.prog 70 #[.int .i64 d,.int .i64 n] w fun en w'=>en = .returned (.tuple #[.int .i64 x,.int .i64 e]) ∧ w = w':=by
 have hH:=Lib.hid h
 obtain ⟨h1,h2⟩:=h
 obtain ⟨b1,b2,b3,b4,b5,b6⟩:=Cal.cv_bd d h1 h2
 have hc:=Lib.hid (show Cal.okDay d ∧ -5000 ≤ n ∧ n ≤ 5000 from ⟨⟨h1,h2⟩,h3,h4⟩)
 have hxH:=Lib.hid hx
 have heH:=Lib.hid he
 clear hx he b4
 by_cases hlo:12 * Cal.cvY d + Cal.cvM d - 1 + n < 24000
 ·have hv:Hid (x = 0 ∧ e = 3):=by
   have g1:=hxH.out
   have g2:=heH.out
   unfold Cal.addV at g1
   unfold Cal.addE at g2
   rw [if_pos hc.out] at g1 g2
   unfold Cal.addAt at g1 g2
   have hno:¬ Cal.okDate ((12 * Cal.cvY d + Cal.cvM d - 1 + n) / 12) ((12 * Cal.cvY d + Cal.cvM d - 1 + n) % 12 + 1) (min (Cal.cvD d) (Cal.len ((12 * Cal.cvY d + Cal.cvM d - 1 + n) / 12) ((12 * Cal.cvY d + Cal.cvM d - 1 + n) % 12 + 1))):=fun hh=>by have:=hh.1; omega
   unfold Cal.dayV at g1
   unfold Cal.dayE at g2
   rw [if_neg (fun hh=>hno hh.1)] at g1 g2
   exact ⟨g1.symm,g2.symm⟩
  go_enter Try.func70,Try.ntmps70
  go_wp2_with (go_at_call 90; refine (dateR_ok _ _ hH.out).mono ?_; rintro e w' ⟨rfl,rfl⟩)
  go_ret2
  exact ⟨ret2i hv.out.1.symm hv.out.2.symm,rfl⟩
 ·have hln:=Cal.len_eq ((12 * Cal.cvY d + Cal.cvM d - 1 + n) / 12) ((12 * Cal.cvY d + Cal.cvM d - 1 + n) % 12 + 1) (by omega) (by omega)
  have hv:Hid (Cal.addV d n = Cal.dayV ((12 * Cal.cvY d + Cal.cvM d - 1 + n) / 12) ((12 * Cal.cvY d + Cal.cvM d - 1 + n) % 12 + 1) (min (Cal.cvD d) (Cal.ln ((12 * Cal.cvY d + Cal.cvM d - 1 + n) / 12) ((12 * Cal.cvY d + Cal.cvM d - 1 + n) % 12 + 1)))):=by
   show _ = _
   unfold Cal.addV; rw [if_pos hc.out]; unfold Cal.addAt; rw [hln]
  have hv2:Hid (Cal.addE d n = Cal.dayE ((12 * Cal.cvY d + Cal.cvM d - 1 + n) / 12) ((12 * Cal.cvY d + Cal.cvM d - 1 + n) % 12 + 1) (min (Cal.cvD d) (Cal.ln ((12 * Cal.cvY d + Cal.cvM d - 1 + n) / 12) ((12 * Cal.cvY d + Cal.cvM d - 1 + n) % 12 + 1)))):=by
   show _ = _
   unfold Cal.addE; rw [if_pos hc.out]; unfold Cal.addAt; rw [hln]
  clear hln
  go_enter Try.func70,Try.ntmps70
  go_wp2_with (first
   | (go_at_call 90; refine (dateR_ok _ _ hH.out).mono ?_; rintro e w' ⟨rfl,rfl⟩)
   | (go_at_call 92; refine (lengthR_calls _ _ _ (by omega) (by omega) (by omega)).mono ?_; rintro e w' ⟨rfl,rfl⟩)
   | (go_at_call 91; refine (dayR_calls _ _ _ _).mono ?_; rintro e w' ⟨rfl,rfl⟩))
  all_goals
   go_ret2
   exact ⟨ret2i (by rw [← hxH.out,hv.out]; congr 1; omega) (by rw [← heH.out,hv2.out]; congr 1; omega),rfl⟩
theorem addMonthsR_no (d n:Int) (w:World) (h:¬ (Cal.okDay d ∧ -5000 ≤ n ∧ n ≤ 5000)) :
  Calls Try.prog 70 #[.int .i64 d,.int .i64 n] w fun e w'=>e = .returned (.tuple #[.int .i64 0,.int .i64 3]) ∧ w = w':=by
 by_cases h1:Cal.okDay d
 ·have h2:n < -5000 ∨ (-5000 ≤ n ∧ 5000 < n):=by
   apply Classical.byContradiction; intro h6; exact h ⟨h1,by omega,by omega⟩
  have hH:=Lib.hid h1
  clear h h1
  rcases h2 with h2 | ⟨h3,h2⟩
  all_goals
   go_enter Try.func70,Try.ntmps70
   go_wp2_with (go_at_call 90; refine (dateR_ok _ _ hH.out).mono ?_; rintro e w' ⟨rfl,rfl⟩)
   go_ret2
   exact ⟨rfl,rfl⟩
 ·have hH:=Lib.hid h1
  clear h h1
  go_enter Try.func70,Try.ntmps70
  go_wp2_with (go_at_call 90; refine (dateR_no _ _ hH.out).mono ?_; rintro e w' ⟨rfl,rfl⟩)
  go_ret2
  exact ⟨rfl,rfl⟩
theorem addMonthsR_calls (d n:Int) (w:World) :
  Calls Try.prog 70 #[.int .i64 d,.int .i64 n] w fun e w'=>e = .returned (.tuple #[.int .i64 (Cal.addV d n),.int .i64 (Cal.addE d n)]) ∧ w = w':=by
 by_cases h:Cal.okDay d ∧ -5000 ≤ n ∧ n ≤ 5000
 ·exact addMonthsR_ok d n w h.1 h.2.1 h.2.2 _ _ rfl rfl
 ·rw [(Cal.add_out d n h).1,(Cal.add_out d n h).2]; exact addMonthsR_no d n w h
end Go.Proofs.Ytjllkddmkdajcaa
