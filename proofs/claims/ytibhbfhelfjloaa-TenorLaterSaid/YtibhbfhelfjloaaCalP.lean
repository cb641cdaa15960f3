/- The walks of package calendar's plain functions: valid, civil, number, length, Date, Day, Weekday, AddMonths. The walk of calendar.AddMonths. Whether a day is open in a city: the walks of calendar.open and calendar.Open. The iterator over the open days of a city: the closure that calendar.days hands back. -/
import Derived.Test.YtibhbfhelfjloaaCalK
import Derived.Test.YtibhbfhelfjloaaCalM
set_option linter.unusedVariables false
namespace Go.Proofs.Ytibhbfhelfjloaa
open Go.RowKit
theorem valid_yes (d:Int) (w:World) (h1:0 ≤ d) (h2:d ≤ 100000) :
  Calls Try.prog 77 #[.int .i64 d] w fun e w'=>e = .returned (.bool true) ∧ w = w':=by
 go_enter Try.func77,Try.ntmps77
 go_wp2
 go_ret
 exact ⟨rfl,rfl⟩
theorem valid_no (d:Int) (w:World) (h:d < 0 ∨ 100000 < d) :
  Calls Try.prog 77 #[.int .i64 d] w fun e w'=>e = .returned (.bool false) ∧ w = w':=by
 rcases h with h | h
 ·go_enter Try.func77,Try.ntmps77
  go_wp2
  go_ret
  exact ⟨rfl,rfl⟩
 ·have h0:0 ≤ d:=by omega
  have hd:decide (d ≤ 100000) = false:=by simpa using h
  go_enter Try.func77,Try.ntmps77
  go_wp2
  go_ret
  exact ⟨rfl,rfl⟩
theorem civil_calls (d:Int) (w:World) (h1:0 ≤ d) (h2:d ≤ 100000) :
  Calls Try.prog 83 #[.int .i64 d] w fun e w'=>e = .returned (.tuple #[.int .i64 (Cal.cvY d),.int .i64 (Cal.cvM d),.int .i64 (Cal.cvD d)]) ∧ w = w':=by
 obtain ⟨a1,a2,a3,a4,a5,a6,a7,a8,a9,a10,a11,a12,a13⟩:=Cal.parts d h1 (by omega)
 have er:Hid (Cal.er d = (d + 730425) / 146097):=rfl
 have re:Hid (Cal.re d = (d + 730425) % 146097):=rfl
 have ye:Hid (Cal.ye d = (Cal.re d - Cal.re d / 1460 + Cal.re d / 36524 - Cal.re d / 146096) / 365):=rfl
 have dy:Hid (Cal.dy d = Cal.re d - (365 * Cal.ye d + Cal.ye d / 4 - Cal.ye d / 100)):=rfl
 have mp:Hid (Cal.mp d = (5 * Cal.dy d + 2) / 153):=rfl
 have eD:Hid (Cal.cvD d = Cal.dy d - (153 * Cal.mp d + 2) / 5 + 1):=rfl
 have eY:=Lib.hid (Cal.cvY_eq d)
 have eM:=Lib.hid (Cal.cvM_eq d)
 clear a3 a10 a13
 generalize Cal.er d = E at *
 generalize Cal.re d = R at *
 generalize Cal.ye d = Y at *
 generalize Cal.dy d = K at *
 generalize Cal.mp d = M at *
 go_enter Try.func83,Try.ntmps83
 go_upto_region 3 with fail
 rw [← er.out,← re.out]
 go_upto_region 4 with fail
 rw [← ye.out]
 go_upto_region 5 with fail
 rw [← dy.out]
 go_upto_region 6 with fail
 rw [← mp.out]
 by_cases hM:12 < M + 3
 ·have qY:=Lib.hid (eY.out.1 hM)
  have qM:=Lib.hid (eM.out.1 hM)
  go_wp2
  go_ret3
  exact ⟨ret3i qY.out.symm qM.out.symm eD.out.symm,rfl⟩
 ·have qY:=Lib.hid (eY.out.2 hM)
  have qM:=Lib.hid (eM.out.2 hM)
  go_wp2
  go_ret3
  exact ⟨ret3i qY.out.symm qM.out.symm eD.out.symm,rfl⟩
theorem number_calls (y m k:Int) (w:World) (h0:1 ≤ y) (h:y ≤ 9999) (h1:1 ≤ m) (h2:m ≤ 13) (h3:1 ≤ k) (h4:k ≤ 31) :
  Calls Try.prog 99 #[.int .i64 y,.int .i64 m,.int .i64 k] w fun e w'=>e = .returned (.int .i64 (Cal.num y m k)) ∧ w = w':=by
 by_cases hm:m < 3
 ·have e:Hid (Cal.num y m k = 365 * (y - 1) + (y - 1) / 4 - (y - 1) / 100 + (y - 1) / 400 + (153 * (m + 12 - 3) + 2) / 5 + k - 1 - 730425):=by
   unfold Cal.num; rw [if_pos hm,show m + 12 - 3 = m + 9 from by omega]; rfl
  go_enter Try.func99,Try.ntmps99
  go_wp2
  go_ret
  exact ⟨ret1i e.out.symm,rfl⟩
 ·have e:Hid (Cal.num y m k = 365 * y + y / 4 - y / 100 + y / 400 + (153 * (m - 3) + 2) / 5 + k - 1 - 730425):=by
   unfold Cal.num; rw [if_neg hm]; rfl
  go_enter Try.func99,Try.ntmps99
  go_wp2
  go_ret
  exact ⟨ret1i e.out.symm,rfl⟩
theorem length_calls (y m:Int) (w:World) (h0:1 ≤ y) (h:y ≤ 9999) (h1:1 ≤ m) (h2:m ≤ 12) :
  Calls Try.prog 85 #[.int .i64 y,.int .i64 m] w fun e w'=>e = .returned (.int .i64 (Cal.len y m)) ∧ w = w':=by
 by_cases hm:m = 12
 ·subst hm
  go_enter Try.func85,Try.ntmps85
  go_wp2
  go_ret
  exact ⟨rfl,rfl⟩
 ·have e:Hid (Cal.len y m = Cal.num y (m + 1) 1 - Cal.num y m 1):=if_neg hm
  have hb:=(m == 12)
  have hm' : (m == 12) = false:=by simpa using hm
  have b1:=Cal.num_bd y (m + 1) 1 h0 h (by omega) (by omega) (by omega) (by omega)
  have b2:=Cal.num_bd y m 1 h0 h (by omega) (by omega) (by omega) (by omega)
  clear hm
  go_enter Try.func85,Try.ntmps85
  go_wp2_with (go_at_call 99; refine (number_calls _ _ _ _ (by omega) (by omega) (by omega) (by omega) (by omega) (by omega)).mono ?_; rintro e w' ⟨rfl,rfl⟩)
  go_ret
  exact ⟨ret1i e.out.symm,rfl⟩
theorem day_ok (y m k:Int) (w:World) (h:Cal.okDate y m k) (h9:Cal.num y m k ≤ 100000) :
  Calls Try.prog 84 #[.int .i64 y,.int .i64 m,.int .i64 k] w fun e w'=>e = .returned (.tuple #[.int .i64 (Cal.num y m k),.int .i64 0]) ∧ w = w':=by
 have h0:=(Cal.num_lo y m k h).1
 obtain ⟨a1,a2,a3,a4,a5,a6⟩:=h
 have hb:=Cal.len_bd y m a3 a4
 go_enter Try.func84,Try.ntmps84
 go_wp2_with (first
  | (go_at_call 85; refine (length_calls _ _ _ (by omega) (by omega) (by omega) (by omega)).mono ?_; rintro e w' ⟨rfl,rfl⟩)
  | (go_at_call 99; refine (number_calls _ _ _ _ (by omega) (by omega) (by omega) (by omega) (by omega) (by omega)).mono ?_; rintro e w' ⟨rfl,rfl⟩)
  | (go_at_call 77; refine (valid_yes _ _ h0 h9).mono ?_; rintro e w' ⟨rfl,rfl⟩))
 go_ret2
 exact ⟨rfl,rfl⟩
theorem day_late (y m k:Int) (w:World) (h:Cal.okDate y m k) (h9:100000 < Cal.num y m k) :
  Calls Try.prog 84 #[.int .i64 y,.int .i64 m,.int .i64 k] w fun e w'=>e = .returned (.tuple #[.int .i64 0,.int .i64 3]) ∧ w = w':=by
 obtain ⟨a1,a2,a3,a4,a5,a6⟩:=h
 have hb:=Cal.len_bd y m a3 a4
 go_enter Try.func84,Try.ntmps84
 go_wp2_with (first
  | (go_at_call 85; refine (length_calls _ _ _ (by omega) (by omega) (by omega) (by omega)).mono ?_; rintro e w' ⟨rfl,rfl⟩)
  | (go_at_call 99; refine (number_calls _ _ _ _ (by omega) (by omega) (by omega) (by omega) (by omega) (by omega)).mono ?_; rintro e w' ⟨rfl,rfl⟩)
  | (go_at_call 77; refine (valid_no _ _ (Or.inr h9)).mono ?_; rintro e w' ⟨rfl,rfl⟩))
 go_ret2
 exact ⟨rfl,rfl⟩
theorem day_no (y m k:Int) (w:World) (h:¬ Cal.okDate y m k) :
  Calls Try.prog 84 #[.int .i64 y,.int .i64 m,.int .i64 k] w fun e w'=>e = .returned (.tuple #[.int .i64 0,.int .i64 3]) ∧ w = w':=by
 by_cases a1:2000 ≤ y
 ·by_cases a2:y ≤ 2300
  ·by_cases a3:1 ≤ m
   ·by_cases a4:m ≤ 12
    ·by_cases a5:1 ≤ k
     ·have a6:Cal.len y m < k:=by
       apply Classical.byContradiction; intro h6; exact h ⟨a1,a2,a3,a4,a5,by omega⟩
      clear h
      go_enter Try.func84,Try.ntmps84
      go_wp2_with (go_at_call 85; refine (length_calls _ _ _ (by omega) (by omega) (by omega) (by omega)).mono ?_; rintro e w' ⟨rfl,rfl⟩)
      go_ret2
      exact ⟨rfl,rfl⟩
     ·clear h
      go_enter Try.func84,Try.ntmps84
      go_wp2_with fail
      go_ret2
      exact ⟨rfl,rfl⟩
    ·clear h
     go_enter Try.func84,Try.ntmps84
     go_wp2_with fail
     go_ret2
     exact ⟨rfl,rfl⟩
   ·clear h
    go_enter Try.func84,Try.ntmps84
    go_wp2_with fail
    go_ret2
    exact ⟨rfl,rfl⟩
  ·clear h
   go_enter Try.func84,Try.ntmps84
   go_wp2_with fail
   go_ret2
   exact ⟨rfl,rfl⟩
 ·clear h
  go_enter Try.func84,Try.ntmps84
  go_wp2_with fail
  go_ret2
  exact ⟨rfl,rfl⟩
theorem day_calls (y m k:Int) (w:World) :
  Calls Try.prog 84 #[.int .i64 y,.int .i64 m,.int .i64 k] w fun e w'=>e = .returned (.tuple #[.int .i64 (Cal.dayV y m k),.int .i64 (Cal.dayE y m k)]) ∧ w = w':=by
 by_cases h:Cal.okDate y m k
 ·by_cases h9:Cal.num y m k ≤ 100000
  ·have hc:Cal.okDate y m k ∧ Cal.okDay (Cal.num y m k):=⟨h,(Cal.num_lo y m k h).1,h9⟩
   unfold Cal.dayV Cal.dayE; rw [if_pos hc,if_pos hc]; exact day_ok y m k w h h9
  ·have hc:¬ (Cal.okDate y m k ∧ Cal.okDay (Cal.num y m k)):=fun hh=>h9 hh.2.2
   unfold Cal.dayV Cal.dayE; rw [if_neg hc,if_neg hc]; exact day_late y m k w h (by omega)
 ·have hc:¬ (Cal.okDate y m k ∧ Cal.okDay (Cal.num y m k)):=fun hh=>h hh.1
  unfold Cal.dayV Cal.dayE; rw [if_neg hc,if_neg hc]; exact day_no y m k w h
end Go.Proofs.Ytibhbfhelfjloaa
set_option linter.unusedVariables false
namespace Go.Proofs.Ytibhbfhelfjloaa
open Go.RowKit
theorem addMonths_ok (d n:Int) (w:World) (h1:0 ≤ d) (h2:d ≤ 100000) (h3:-5000 ≤ n) (h4:n ≤ 5000) :
  Calls Try.prog 76 #[.int .i64 d,.int .i64 n] w fun e w'=>e = .returned (.tuple #[.int .i64 (Cal.addV d n),.int .i64 (Cal.addE d n)]) ∧ w = w':=by
 obtain ⟨b1,b2,b3,b4,b5,b6⟩:=Cal.cv_bd d h1 h2
 have hV:Hid (Cal.addV d n = Cal.dayV ((12 * Cal.cvY d + Cal.cvM d - 1 + n) / 12) ((12 * Cal.cvY d + Cal.cvM d - 1 + n) % 12 + 1) (min (Cal.cvD d) (Cal.len ((12 * Cal.cvY d + Cal.cvM d - 1 + n) / 12) ((12 * Cal.cvY d + Cal.cvM d - 1 + n) % 12 + 1)))) :=
  if_pos ⟨⟨h1,h2⟩,h3,h4⟩
 have hE:Hid (Cal.addE d n = Cal.dayE ((12 * Cal.cvY d + Cal.cvM d - 1 + n) / 12) ((12 * Cal.cvY d + Cal.cvM d - 1 + n) % 12 + 1) (min (Cal.cvD d) (Cal.len ((12 * Cal.cvY d + Cal.cvM d - 1 + n) / 12) ((12 * Cal.cvY d + Cal.cvM d - 1 + n) % 12 + 1)))) :=
  if_pos ⟨⟨h1,h2⟩,h3,h4⟩
 clear b4
 go_enter Try.func76,Try.ntmps76
 go_wp2_with (first
  | (go_at_call 77; refine (valid_yes _ _ h1 h2).mono ?_; rintro e w' ⟨rfl,rfl⟩)
  | (go_at_call 83; refine (civil_calls _ _ h1 h2).mono ?_; rintro e w' ⟨rfl,rfl⟩)
  | (go_at_call 85; refine (length_calls _ _ _ (by omega) (by omega) (by omega) (by omega)).mono ?_; rintro e w' ⟨rfl,rfl⟩)
  | (go_at_call 84; refine (day_calls _ _ _ _).mono ?_; rintro e w' ⟨rfl,rfl⟩))
 all_goals
  go_ret2
  exact ⟨ret2i (by rw [hV.out]; congr 1; omega) (by rw [hE.out]; congr 1; omega),rfl⟩
theorem addMonths_no (d n:Int) (w:World) (h:¬ (Cal.okDay d ∧ -5000 ≤ n ∧ n ≤ 5000)) :
  Calls Try.prog 76 #[.int .i64 d,.int .i64 n] w fun e w'=>e = .returned (.tuple #[.int .i64 0,.int .i64 3]) ∧ w = w':=by
 by_cases h1:Cal.okDay d
 ·have h2:n < -5000 ∨ 5000 < n:=by
   apply Classical.byContradiction; intro h6; exact h ⟨h1,by omega,by omega⟩
  obtain ⟨h0,h9⟩:=h1
  clear h
  rcases h2 with h2 | h2
  ·go_enter Try.func76,Try.ntmps76
   go_wp2_with (go_at_call 77; refine (valid_yes _ _ h0 h9).mono ?_; rintro e w' ⟨rfl,rfl⟩)
   go_ret2
   exact ⟨rfl,rfl⟩
  ·have h3:¬ n < -5000:=by omega
   go_enter Try.func76,Try.ntmps76
   go_wp2_with (go_at_call 77; refine (valid_yes _ _ h0 h9).mono ?_; rintro e w' ⟨rfl,rfl⟩)
   go_ret2
   exact ⟨rfl,rfl⟩
 ·have h1:d < 0 ∨ 100000 < d:=by unfold Cal.okDay at h1; omega
  have h1:=Lib.hid h1
  clear h
  go_enter Try.func76,Try.ntmps76
  go_wp2_with (go_at_call 77; refine (valid_no _ _ h1.out).mono ?_; rintro e w' ⟨rfl,rfl⟩)
  go_ret2
  exact ⟨rfl,rfl⟩
theorem addMonths_calls (d n:Int) (w:World) :
  Calls Try.prog 76 #[.int .i64 d,.int .i64 n] w fun e w'=>e = .returned (.tuple #[.int .i64 (Cal.addV d n),.int .i64 (Cal.addE d n)]) ∧ w = w':=by
 by_cases h:Cal.okDay d ∧ -5000 ≤ n ∧ n ≤ 5000
 ·exact addMonths_ok d n w h.1.1 h.1.2 h.2.1 h.2.2
 ·have:=addMonths_no d n w h
  unfold Cal.addV Cal.addE; rw [if_neg h,if_neg h]; exact this
end Go.Proofs.Ytibhbfhelfjloaa
set_option linter.unusedVariables false
namespace Go.Proofs.Ytibhbfhelfjloaa
open Go.RowKit
structure Town where
 rest:List Int
 feasts:List Int
 shut:List Int
def CityV (w:World) (v:Value) (c:Town):Prop :=
 ∃ nm o cu r f s,v = .agg #[.string nm,.int .i64 o,.int .i64 cu,r,f,s] ∧ Ints w r c.rest ∧ Ints w f c.feasts ∧ Ints w s c.shut
theorem CityV.to {A B:World} (h:Below A.heap.size A B) {v:Value} {c:Town}:CityV A v c→CityV B v c:=by
 rintro ⟨nm,o,cu,r,f,s,rfl,h1,h2,h3⟩
 exact ⟨nm,o,cu,r,f,s,rfl,h1.to h,h2.to h,h3.to h⟩
namespace Cal
def openD (c:Town) (d:Int):Bool:=!decide ((d + 5) % 7 ∈ c.rest) && !decide (100 * cvM d + cvD d ∈ c.feasts) && !decide (d ∈ c.shut)
end Cal
theorem Ints.slice {w:World} {v:Value} {xs:List Int} (h:Ints w v xs):∃ a n c,v = .slice a n c:=by
 obtain ⟨_,⟨a,c,rfl,_⟩ | ⟨b,off,c,rfl,_⟩⟩:=h
 ·exact ⟨a,0,c,rfl⟩
 ·exact ⟨_,_,c,rfl⟩
set_option maxRecDepth 100000 in
theorem open_calls (v:Value) (c:Town) (d:Int) (w:World) (h:CityV w v c) (h1:0 ≤ d) (h2:d ≤ 100000) :
  Calls Try.prog 87 #[v,.int .i64 d] w fun e w'=>e = .returned (.bool (Cal.openD c d)) ∧ Below w.heap.size w w':=by
 obtain ⟨nm,o,cu,r,f,s,rfl,i1,i2,i3⟩:=h
 obtain ⟨ra,rn,rc,rfl⟩:=i1.slice
 obtain ⟨fa,fn,fc,rfl⟩:=i2.slice
 obtain ⟨sa,sn,sc,rfl⟩:=i3.slice
 have j1:=Lib.hid i1
 have j2:=Lib.hid i2
 have j3:=Lib.hid i3
 clear i1 i2 i3
 obtain ⟨b1,b2,b3,b4,b5,b6⟩:=Cal.cv_bd d h1 h2
 have b7:=(Cal.len_bd (Cal.cvY d) (Cal.cvM d) b1 b2).2
 have b8:Cal.cvD d ≤ 31:=by omega
 clear b4 b7
 have W1:Below w.heap.size w (w.alloc (.cells #[.string nm,.int .i64 o,.int .i64 cu,.slice ra rn rc,.slice fa fn fc,.slice sa sn sc] 78)):=(Below.refl _ _).alloc (Nat.le_refl _) _
 obtain ⟨p1,e1⟩ : ∃ p,decide ((d + 5) % 7 ∈ c.rest) = p:=⟨_,rfl⟩
 obtain ⟨p2,e2⟩ : ∃ p,decide (100 * Cal.cvM d + Cal.cvD d ∈ c.feasts) = p:=⟨_,rfl⟩
 obtain ⟨p3,e3⟩ : ∃ p,decide (d ∈ c.shut) = p:=⟨_,rfl⟩
 have eo:Hid (Cal.openD c d = (!p1 && !p2 && !p3)):=by unfold Cal.openD; rw [e1,e2,e3]; rfl
 have q1:=Lib.hid e1
 have q2:=Lib.hid e2
 have q3:=Lib.hid e3
 have W1:=Lib.hid W1
 clear e1 e2 e3
 cases p1
 ·cases p2
  ·cases p3
   all_goals
    go_enter Try.func87,Try.ntmps87
    go_wp2_with (first
     | (go_at_call 83; refine (civil_calls _ _ h1 h2).mono ?_; rintro e w' ⟨rfl,rfl⟩)
     | (go_at_call 62; ((with_reducible refine (contains_is _ _ _ _ _ (j1.out.to W1.out) q1.out).mono ?_); rintro e w' ⟨rfl,rfl⟩))
     | (go_at_call 62; ((with_reducible refine (contains_is _ _ _ _ _ (j2.out.to W1.out) q2.out).mono ?_); rintro e w' ⟨rfl,rfl⟩))
     | (go_at_call 62; ((with_reducible refine (contains_is _ _ _ _ _ (j3.out.to W1.out) q3.out).mono ?_); rintro e w' ⟨rfl,rfl⟩)))
    go_ret
    exact ⟨ret1b eo.out.symm,W1.out⟩
  ·go_enter Try.func87,Try.ntmps87
   go_wp2_with (first
    | (go_at_call 83; refine (civil_calls _ _ h1 h2).mono ?_; rintro e w' ⟨rfl,rfl⟩)
    | (go_at_call 62; ((with_reducible refine (contains_is _ _ _ _ _ (j1.out.to W1.out) q1.out).mono ?_); rintro e w' ⟨rfl,rfl⟩))
    | (go_at_call 62; ((with_reducible refine (contains_is _ _ _ _ _ (j2.out.to W1.out) q2.out).mono ?_); rintro e w' ⟨rfl,rfl⟩)))
   go_ret
   exact ⟨ret1b eo.out.symm,W1.out⟩
 ·go_enter Try.func87,Try.ntmps87
  go_wp2_with (first
   | (go_at_call 83; refine (civil_calls _ _ h1 h2).mono ?_; rintro e w' ⟨rfl,rfl⟩)
   | (go_at_call 62; ((with_reducible refine (contains_is _ _ _ _ _ (j1.out.to W1.out) q1.out).mono ?_); rintro e w' ⟨rfl,rfl⟩)))
  go_ret
  exact ⟨ret1b eo.out.symm,W1.out⟩
theorem open_is (v:Value) (c:Town) (d:Int) (p:Bool) (w:World) (h:CityV w v c) (h1:0 ≤ d) (h2:d ≤ 100000) (hp:Cal.openD c d = p) :
  Calls Try.prog 87 #[v,.int .i64 d] w fun e w'=>e = .returned (.bool p) ∧ Below w.heap.size w w':=by
 subst hp; exact open_calls v c d w h h1 h2
end Go.Proofs.Ytibhbfhelfjloaa
set_option linter.unusedVariables false
namespace Go.Proofs.Ytibhbfhelfjloaa
open Go.RowKit Go.Shelf
attribute [local go_sem] Oper.semAt_some
namespace Cal
def opens (c:Town) (d:Int):Nat→List Int
 | 0=>[]
 | k + 1=>opens c d k ++ (if openD c (d + k) then [d + k] else [])
theorem opens_len (c:Town) (d:Int):∀ k,(opens c d k).length ≤ k
 | 0=>by simp [opens]
 | k + 1=>by have:=opens_len c d k; unfold opens; split <;> simp <;> omega
theorem opens_yes (c:Town) (d:Int) (k:Nat) (h:openD c (d + k) = true):opens c d (k + 1) = opens c d k ++ [d + k]:=by simp [opens,h]
theorem opens_no (c:Town) (d:Int) (k:Nat) (h:openD c (d + k) = false):opens c d (k + 1) = opens c d k:=by simp [opens,h]
end Cal
def DaysPost (c:Town) (from_:Int) (len:Nat) (J Jx:List Int→World→Prop) (e:Ending) (W' : World):Prop :=
 (∃ v,e = .returned v) ∧
   ((∃ ys,ys = Cal.opens c from_ len ∧ J ys W') ∨ (∃ pre,(∃ k:Nat,k < len ∧ Cal.openD c (from_ + k) = true ∧ pre = Cal.opens c from_ k ++ [from_ + k]) ∧ Jx pre W'))
set_option maxRecDepth 100000 in
set_option maxHeartbeats 2000000 in
theorem days1_in (n:Nat) (hn:1 ≤ n) (l Bf Bt Bc:Nat) (c:Town) (cv:Array Value) (from_ to_:Int) (h0:0 ≤ from_) (h9:to_ ≤ 100000) (len:Nat) (hlen:(len:Int) = to_ + 1 - from_ ∨ (len = 0 ∧ to_ < from_)) (hcs:cv.size = 6)
  (w0:World) (hcv:CityV w0 (.agg cv) c) (J Jx:List Int→World→Prop) (W:World)
  (hJ:AbidesFrom W.heap.size J)
  (hY:∀ pre x W1,J pre W1→pre.length < len→YieldAt Fence.wide (n - 1) Try.prog l #[.int .i64 x] W1 fun e W' =>
   (e = .returned (.bool true) ∧ J (pre ++ [x]) W' ∧ KpBox w0.heap.size [Bf,Bt,Bc] W1 W') ∨ (e = .returned (.bool false) ∧ Jx (pre ++ [x]) W'))
  (hB:Below w0.heap.size w0 W)
  (hf:W.heap[Bf]? = some (.cells #[.int .i64 from_] 3)) (ht:W.heap[Bt]? = some (.cells #[.int .i64 to_] 3)) (hc:W.heap[Bc]? = some (.cells cv 78))
  (hJ0:J [] W) :
  CallsIn Fence.wide n Try.prog 86 #[.func (.yield l) #[] #[],.pointer (some ⟨Bf,0,none⟩),.pointer (some ⟨Bt,0,none⟩),.pointer (some ⟨Bc,0,none⟩)] W (DaysPost c from_ len J Jx):=by
 have hcv':=hcv
 obtain ⟨nm,o,cu,r,f,s,e6,i1,i2,i3⟩:=hcv'
 obtain ⟨ra,rn,rc,rfl⟩:=i1.slice
 obtain ⟨fa,fn,fc,rfl⟩:=i2.slice
 obtain ⟨sa,sn,sc,rfl⟩:=i3.slice
 clear i1 i2 i3
 simp only [Value.agg.injEq] at e6
 subst e6
 refine callsIn_of_wp Try.func86 rfl trivial ?_ rfl
 simp only [Try.ntmps86,List.size_toArray,List.length_cons,List.length_nil,Nat.reduceAdd,Nat.reduceSub,Array.replicate_succ,Array.replicate_zero,List.push_toArray,List.append_toArray,List.nil_append,List.cons_append]
 have cf:=cell_of_blk (o:=0) hf rfl
 gi_wp2
 gi_loopw [5] (fun i wr=>∃ k:Nat,k ≤ len ∧ i = .int .i64 (from_ + k) ∧ J (Cal.opens c from_ k) wr ∧ Below w0.heap.size w0 wr ∧ wr.heap[Bt]? = some (.cells #[.int .i64 to_] 3) ∧
   wr.heap[Bc]? = some (.cells #[.string nm,.int .i64 o,.int .i64 cu,.slice ra rn rc,.slice fa fn fc,.slice sa sn sc] 78) ∧ W.heap.size ≤ wr.heap.size)
  (fun i _=>(to_ + 1 - intOf i).toNat)
 case atStart=>exact ⟨0,Nat.zero_le _,by simp,hJ0,hB,ht,hc,Nat.le_refl _⟩
 case round =>
  obtain ⟨k,hk,rfl,hJs,hBr,htr,hcr,hsz⟩:=hrel
  have cB:=hcv.to hBr
  have ct:=cell_of_blk (o:=0) htr rfl
  have c0:=cell_of_blk (o:=0) hcr rfl
  have c1:=cell_of_blk (o:=1) hcr rfl
  have c2:=cell_of_blk (o:=2) hcr rfl
  have c3:=cell_of_blk (o:=3) hcr rfl
  have c4:=cell_of_blk (o:=4) hcr rfl
  have c5:=cell_of_blk (o:=5) hcr rfl
  have hsB:=(World.block_lt_of_cell? wr _ ct)
  have hsC:=(World.block_lt_of_cell? wr _ c0)
  by_cases hlt:from_ + k ≤ to_
  ·cases hp:Cal.openD c (from_ + k) with
   | false =>
    have HP:=Lib.hid hp
    clear hp
    gi_wp2_with fail
    refine ⟨trivial,?_⟩
    refine (callsIn_wide.2 (open_is _ c _ _ _ cB (by omega) (by omega) HP.out)).mono ?_
    rintro e w1 ⟨rfl,hb⟩
    gi_wp2_with fail
    refine ⟨fun _ h=>(by cases h),?_⟩
    gi_wp2_with fail
    have hb1:=hb.block Bt hsB
    have hb2:=hb.block Bc hsC
    go_roundw
    case rel=>exact ⟨k + 1,by omega,by congr 1; omega,by rw [Cal.opens_no c from_ k HP.out]; exact hJ _ wr w1 none hJs (grown_of_below hb none) (fun r e=>by cases e),hBr.trans (hb.mono hBr.size),hb1.trans htr,hb2.trans hcr,Nat.le_trans hsz hb.size⟩
    case measure=>simp [intOf]; omega
   | true =>
    have HP:=Lib.hid hp
    clear hp
    gi_wp2_with fail
    refine ⟨trivial,?_⟩
    refine (callsIn_wide.2 (open_is _ c _ _ _ cB (by omega) (by omega) HP.out)).mono ?_
    rintro e w1 ⟨rfl,hb⟩
    have hb1:=hb.block Bt hsB
    have hb2:=hb.block Bc hsC
    have hl:=Cal.opens_len c from_ k
    obtain ⟨fn',tmps,assign,body,hy,hR⟩:=hY _ (from_ + k) w1 (hJ _ wr w1 none hJs (grown_of_below hb none) (fun r e=>by cases e)) (by omega)
    gi_wp2
    refine hR.mono ?_
    rintro e W3 (⟨rfl,hJ3,hk3⟩ | ⟨rfl,hJx3⟩)
    ·gi_wp2
     go_roundw
     case rel=>exact ⟨k + 1,by omega,by congr 1; omega,by rw [Cal.opens_yes c from_ k HP.out]; exact hJ3,(hBr.trans (hb.mono hBr.size)).trans hk3.1,(hk3.2 Bt (by simp)).trans (hb1.trans htr),(hk3.2 Bc (by simp)).trans (hb2.trans hcr),Nat.le_trans hsz (Nat.le_trans hb.size hk3.1.size)⟩
     case measure=>simp [intOf]; omega
    ·gi_wp2
     refine bodyPost_ret (results_none rfl _ _ _) rfl ?_
     exact ⟨⟨_,rfl⟩,.inr ⟨_,⟨k,by omega,HP.out,rfl⟩,hJx3⟩⟩
  ·obtain rfl:k = len:=by omega
   gi_wp2
   go_end0
   exact ⟨⟨_,rfl⟩,.inl ⟨_,rfl,hJs⟩⟩
end Go.Proofs.Ytibhbfhelfjloaa
