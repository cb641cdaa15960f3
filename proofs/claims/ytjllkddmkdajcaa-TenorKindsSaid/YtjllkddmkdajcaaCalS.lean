/- The walks of the reference's has, Open, Next, Plus, Count. The walks of the reference's Count, of Plus at whatever numbers, of few. Plain laws of open days. No program in sight. -/
import Derived.Test.YtjllkddmkdajcaaCalQ
import Derived.Test.YtjllkddmkdajcaaCalR
set_option linter.unusedVariables false
namespace Go.Proofs.Ytjllkddmkdajcaa
open Go.RowKit
namespace Cal
theorem opens_nil (c:Town) (d:Int):∀ k:Nat,(∀ j:Nat,j < k→openD c (d + j) = false)→opens c d k = []
 | 0,_=>rfl
 | k + 1,h=>by rw [opens_no c d k (h k (by omega)),opens_nil c d k (fun j hj=>h j (by omega))]
theorem nlen_eq (d:Int) (h:okDay d):(nlen d:Int) = min (d + 400) 100000 + 1 - d:=by unfold nlen; obtain ⟨_,_⟩:=h; omega
theorem nx1_at (c:Town) (d:Int) (k:Nat) (h:okDay d) (hk:k ≤ 400) (hk2:d + k ≤ 100000) (ho:openD c (d + k) = true) (hn:∀ j:Nat,j < k→openD c (d + j) = false):nx1 c d = some (d + k):=by
 unfold nx1
 rw [if_pos h]
 unfold nxt
 have hl:=nlen_eq d h
 obtain ⟨r,hr⟩:=opens_prefix c d (k + 1) (nlen d) (by omega)
 rw [hr,opens_yes c d k ho,opens_nil c d k hn]; rfl
theorem nx1_none (c:Town) (d:Int) (h:okDay d) (hn:∀ j:Nat,j ≤ 400→d + j ≤ 100000→openD c (d + j) = false):nx1 c d = none:=by
 unfold nx1
 rw [if_pos h]
 unfold nxt
 have hl:=nlen_eq d h
 rw [opens_nil c d (nlen d) (fun j hj=>hn j (by omega) (by omega))]; rfl
end Cal
set_option maxRecDepth 100000 in
theorem hasR_is (v:Value) (x:Int) (xs:List Int) (p:Bool) (w:World) (h:Ints w v xs) (hp:decide (x ∈ xs) = p) :
  Calls Try.prog 116 #[v,.int .i64 x] w fun e w'=>e = .returned (.bool p) ∧ w = w':=by
 subst hp
 obtain ⟨hl,⟨a,c,rfl,rfl⟩ | ⟨b,off,c,rfl,hc⟩⟩:=h
 ·clear hl
  go_enter Try.func116,Try.ntmps116
  go_wp2
  go_loop [5] (fun k=>k = .int .i64 0) (fun _=>0)
  case atStart=>rfl
  case round =>
   obtain rfl:=hrel
   go_wp2
   go_ret
   exact ⟨rfl,rfl⟩
 ·go_enter Try.func116,Try.ntmps116
  go_wp2
  go_loop [5] (fun kv=>∃ k:Nat,k ≤ xs.length ∧ kv = .int .i64 k ∧ ∀ j,j < k→at0 xs j ≠ x) (fun k=>xs.length - (intOf k).toNat)
  case atStart=>exact ⟨0,Nat.zero_le _,rfl,fun j hj=>by omega⟩
  case round =>
   obtain ⟨k,hk,rfl,hno⟩:=hrel
   have hnoH:=Lib.hid hno
   have hcH:=Lib.hid hc
   clear hc hno
   by_cases hlt:k < xs.length
   ·have hck:=hcH.out k hlt
    by_cases he:at0 xs k = x
    ·have hid:Hid (decide (x ∈ xs) = true):=by
      show _ = _
      rw [decide_eq_true_eq,← idx_mem,idx_at x xs k hlt he hnoH.out]; omega
     have hb:(at0 xs k == x) = true:=by simp [he]
     clear he
     generalize at0 xs k = y at *
     go_wp2
     go_ret
     exact ⟨ret1b hid.out.symm,rfl⟩
    ·have hb:(at0 xs k == x) = false:=by simpa using he
     have heH:=Lib.hid he
     clear he
     go_wp2
     go_round
     case rel=>exact ⟨k + 1,by omega,by go_num,fun j hj=>by
      rcases (by omega:j < k ∨ j = k) with h | rfl
      ·exact hnoH.out j h
      ·exact heH.out⟩
     case measure=>simp [intOf]; omega
   ·obtain rfl:k = xs.length:=by omega
    have hid:Hid (decide (x ∈ xs) = false):=by
     show _ = _
     rw [decide_eq_false_iff_not,← idx_mem,idx_none x xs hnoH.out]; omega
    go_wp2
    go_ret
    exact ⟨ret1b hid.out.symm,rfl⟩
set_option maxRecDepth 100000 in
theorem openR_ok (cv:Array Value) (c:Town) (d:Int) (p:Bool) (w:World) (h:CityV w (.agg cv) c) (hd:Cal.okDay d) (hp:Cal.openD c d = p) :
  Calls Try.prog 104 #[.agg cv,.int .i64 d] w fun e w'=>e = .returned (.tuple #[.bool p,.int .i64 0]) ∧ Below w.heap.size w w':=by
 obtain ⟨nm,o,cu,r,f,s,e6,i1,i2,i3⟩:=h
 obtain ⟨ra,rn,rc,rfl⟩:=i1.slice
 obtain ⟨fa,fn,fc,rfl⟩:=i2.slice
 obtain ⟨sa,sn,sc,rfl⟩:=i3.slice
 simp only [Value.agg.injEq] at e6
 subst e6
 have j1:=Lib.hid i1
 have j2:=Lib.hid i2
 have j3:=Lib.hid i3
 clear i1 i2 i3
 obtain ⟨b1,b2,b3,b4,b5,b6⟩:=Cal.cv_bd d hd.1 hd.2
 have b7:=(Cal.len_bd (Cal.cvY d) (Cal.cvM d) b1 b2).2
 have b8:Cal.cvD d ≤ 31:=by omega
 have h1:=hd.1
 have h2:=hd.2
 have hdH:=Lib.hid hd
 clear b4 b7 hd
 have W1:Below w.heap.size w (w.alloc (.cells #[.string nm,.int .i64 o,.int .i64 cu,.slice ra rn rc,.slice fa fn fc,.slice sa sn sc] 65)):=(Below.refl _ _).alloc (Nat.le_refl _) _
 obtain ⟨p1,e1⟩ : ∃ p,decide ((d + 5) % 7 ∈ c.rest) = p:=⟨_,rfl⟩
 obtain ⟨p2,e2⟩ : ∃ p,decide (100 * Cal.cvM d + Cal.cvD d ∈ c.feasts) = p:=⟨_,rfl⟩
 obtain ⟨p3,e3⟩ : ∃ p,decide (d ∈ c.shut) = p:=⟨_,rfl⟩
 have eo:Hid (p = (!p1 && !p2 && !p3)):=by show _ = _; rw [← hp]; unfold Cal.openD; rw [e1,e2,e3]
 have q1:=Lib.hid e1
 have q2:=Lib.hid e2
 have q3:=Lib.hid e3
 have W1:=Lib.hid W1
 clear e1 e2 e3 hp
 cases p1
 ·cases p2
  ·cases p3
   all_goals
    go_enter Try.func104,Try.ntmps104
    go_wp2_with (first
     | (go_at_call 90; refine (dateR_ok _ _ hdH.out).mono ?_; rintro e w' ⟨rfl,rfl⟩)
     | (go_at_call 116; ((with_reducible refine (hasR_is _ _ _ _ _ (j1.out.to W1.out) q1.out).mono ?_); rintro e w' ⟨rfl,rfl⟩))
     | (go_at_call 116; ((with_reducible refine (hasR_is _ _ _ _ _ (j2.out.to W1.out) q2.out).mono ?_); rintro e w' ⟨rfl,rfl⟩))
     | (go_at_call 116; ((with_reducible refine (hasR_is _ _ _ _ _ (j3.out.to W1.out) q3.out).mono ?_); rintro e w' ⟨rfl,rfl⟩)))
    go_ret2
    exact ⟨by rw [eo.out]; rfl,W1.out⟩
  ·go_enter Try.func104,Try.ntmps104
   go_wp2_with (first
    | (go_at_call 90; refine (dateR_ok _ _ hdH.out).mono ?_; rintro e w' ⟨rfl,rfl⟩)
    | (go_at_call 116; ((with_reducible refine (hasR_is _ _ _ _ _ (j1.out.to W1.out) q1.out).mono ?_); rintro e w' ⟨rfl,rfl⟩))
    | (go_at_call 116; ((with_reducible refine (hasR_is _ _ _ _ _ (j2.out.to W1.out) q2.out).mono ?_); rintro e w' ⟨rfl,rfl⟩)))
   go_ret2
   exact ⟨by rw [eo.out]; rfl,W1.out⟩
 ·go_enter Try.func104,Try.ntmps104
  go_wp2_with (first
   | (go_at_call 90; refine (dateR_ok _ _ hdH.out).mono ?_; rintro e w' ⟨rfl,rfl⟩)
   | (go_at_call 116; ((with_reducible refine (hasR_is _ _ _ _ _ (j1.out.to W1.out) q1.out).mono ?_); rintro e w' ⟨rfl,rfl⟩)))
  go_ret2
  exact ⟨by rw [eo.out]; rfl,W1.out⟩
theorem openR_no (cv:Array Value) (c:Town) (d:Int) (w:World) (h:CityV w (.agg cv) c) (hd:¬ Cal.okDay d) :
  Calls Try.prog 104 #[.agg cv,.int .i64 d] w fun e w'=>e = .returned (.tuple #[.bool false,.int .i64 3]) ∧ Below w.heap.size w w':=by
 obtain ⟨nm,o,cu,r,f,s,e6,i1,i2,i3⟩:=h
 obtain ⟨ra,rn,rc,rfl⟩:=i1.slice
 obtain ⟨fa,fn,fc,rfl⟩:=i2.slice
 obtain ⟨sa,sn,sc,rfl⟩:=i3.slice
 clear i1 i2 i3
 simp only [Value.agg.injEq] at e6
 subst e6
 have hdH:=Lib.hid hd
 clear hd
 go_enter Try.func104,Try.ntmps104
 go_wp2_with (go_at_call 90; refine (dateR_no _ _ hdH.out).mono ?_; rintro e w' ⟨rfl,rfl⟩)
 go_ret2
 exact ⟨rfl,(Below.refl _ _).alloc (Nat.le_refl _) _⟩
set_option maxRecDepth 100000 in
theorem nextR_ok (cv:Array Value) (c:Town) (d:Int) (w:World) (hcv:CityV w (.agg cv) c) (h:Cal.okDay d) (X:Option Int) (hX:Cal.nx1 c d = X) :
  Calls Try.prog 87 #[.agg cv,.int .i64 d] w (NextPost (Cal.got X) (Cal.gotE X) w):=by
 have hcvH:=Lib.hid hcv
 obtain ⟨nm,o,cu,r,f,s,e6,i1,i2,i3⟩:=hcv
 obtain ⟨ra,rn,rc,rfl⟩:=i1.slice
 obtain ⟨fa,fn,fc,rfl⟩:=i2.slice
 obtain ⟨sa,sn,sc,rfl⟩:=i3.slice
 clear i1 i2 i3
 simp only [Value.agg.injEq] at e6
 subst e6
 have hH:=Lib.hid h
 obtain ⟨h1,h2⟩:=h
 have HX:=Lib.hid hX
 clear hX
 go_enter Try.func87,Try.ntmps87
 go_wp2_with (go_at_call 52; refine (validR_yes _ _ hH.out).mono ?_; rintro e w' ⟨rfl,rfl⟩)
 go_loopw [4,5,6,7,8] (fun a b kv x y wr=>∃ k:Nat,k ≤ 401 ∧ kv = .int .i64 k ∧ (∀ j:Nat,j < k→d + j ≤ 100000→Cal.openD c (d + j) = false) ∧ Below w.heap.size w wr ∧
   wr.heap[w.heap.size]? = some (.cells #[.string nm,.int .i64 o,.int .i64 cu,.slice ra rn rc,.slice fa fn fc,.slice sa sn sc] 65)) (fun _ _ k _ _ _=>401 - (intOf k).toNat)
 case atStart=>exact ⟨0,by omega,rfl,fun j hj=>by omega,(Below.refl _ _).alloc (Nat.le_refl _) _,World.alloc_heap_new _ _⟩
 case round =>
  obtain ⟨k,hk,rfl,hno,hB,hcr⟩:=hrel
  have hnoH:=Lib.hid hno
  clear hno
  have cB:=Lib.hid (hcvH.out.to hB)
  have c0:=cell_of_blk (o:=0) hcr rfl
  have c1:=cell_of_blk (o:=1) hcr rfl
  have c2:=cell_of_blk (o:=2) hcr rfl
  have c3:=cell_of_blk (o:=3) hcr rfl
  have c4:=cell_of_blk (o:=4) hcr rfl
  have c5:=cell_of_blk (o:=5) hcr rfl
  have hsB:=(World.block_lt_of_cell? wr _ c0)
  by_cases hlt:k ≤ 400
  ·by_cases hok:d + k ≤ 100000
   ·have hdk:=Lib.hid (show Cal.okDay (d + k) from ⟨by omega,hok⟩)
    cases hp:Cal.openD c (d + k) with
    | true =>
     have hr:X = some (d + k):=by rw [← HX.out]; exact Cal.nx1_at c d k hH.out hlt hok hp (fun j hj=>hnoH.out j hj (by omega))
     subst hr
     have HP:=Lib.hid hp
     clear hp
     go_wp2_with fail
     refine (openR_ok _ c _ _ _ cB.out hdk.out HP.out).mono ?_
     rintro e w1 ⟨rfl,hb⟩
     go_wp2_with fail
     go_ret2
     exact ⟨rfl,hB.trans (hb.mono hB.size)⟩
    | false =>
     have HP:=Lib.hid hp
     clear hp
     go_wp2_with fail
     refine (openR_ok _ c _ _ _ cB.out hdk.out HP.out).mono ?_
     rintro e w1 ⟨rfl,hb⟩
     have hb2:=hb.block w.heap.size hsB
     go_wp2_with fail
     go_roundw
     case rel=>exact ⟨k + 1,by omega,by go_num,fun j hj hj2=>by
      rcases (by omega:j < k ∨ j = k) with h | rfl
      ·exact hnoH.out j h hj2
      ·exact HP.out,hB.trans (hb.mono hB.size),hb2.trans hcr⟩
     case measure=>simp [intOf]; omega
   ·have hdk:=Lib.hid (show ¬ Cal.okDay (d + k) from fun hh=>by have:=hh.2; omega)
    go_wp2_with fail
    refine (openR_no _ c _ _ cB.out hdk.out).mono ?_
    rintro e w1 ⟨rfl,hb⟩
    have hb2:=hb.block w.heap.size hsB
    go_wp2_with fail
    go_roundw
    case rel=>exact ⟨k + 1,by omega,by go_num,fun j hj hj2=>by
     rcases (by omega:j < k ∨ j = k) with h | rfl
     ·exact hnoH.out j h hj2
     ·omega,hB.trans (hb.mono hB.size),hb2.trans hcr⟩
    case measure=>simp [intOf]; omega
  ·have hr:X = none:=by rw [← HX.out]; exact Cal.nx1_none c d hH.out (fun j hj hj2=>hnoH.out j (by omega) hj2)
   subst hr
   go_wp2
   go_ret2
   exact ⟨rfl,hB⟩
theorem nextR_no (cv:Array Value) (c:Town) (d:Int) (w:World) (hcv:CityV w (.agg cv) c) (h:¬ Cal.okDay d) :
  Calls Try.prog 87 #[.agg cv,.int .i64 d] w (NextPost 0 3 w):=by
 obtain ⟨nm,o,cu,r,f,s,e6,i1,i2,i3⟩:=hcv
 obtain ⟨ra,rn,rc,rfl⟩:=i1.slice
 obtain ⟨fa,fn,fc,rfl⟩:=i2.slice
 obtain ⟨sa,sn,sc,rfl⟩:=i3.slice
 clear i1 i2 i3
 simp only [Value.agg.injEq] at e6
 subst e6
 have hdH:=Lib.hid h
 clear h
 go_enter Try.func87,Try.ntmps87
 go_wp2_with (go_at_call 52; refine (validR_no _ _ hdH.out).mono ?_; rintro e w' ⟨rfl,rfl⟩)
 go_ret2
 exact ⟨rfl,(Below.refl _ _).alloc (Nat.le_refl _) _⟩
theorem nextR_calls (cv:Array Value) (c:Town) (d:Int) (w:World) (hcv:CityV w (.agg cv) c) :
  Calls Try.prog 87 #[.agg cv,.int .i64 d] w (NextPost (Cal.got (Cal.nx1 c d)) (Cal.gotE (Cal.nx1 c d)) w):=by
 by_cases h:Cal.okDay d
 ·exact nextR_ok cv c d w hcv h _ rfl
 ·rw [show Cal.nx1 c d = none from if_neg h]; exact nextR_no cv c d w hcv h
end Go.Proofs.Ytjllkddmkdajcaa
set_option linter.unusedVariables false
namespace Go.Proofs.Ytjllkddmkdajcaa
open Go.RowKit
namespace Cal
def dE (d:Int):Int:=if okDay d then 0 else 3
def opB (c:Town) (d:Int):Bool:=if okDay d then openD c d else false
end Cal
def OpenPost (b:Bool) (e:Int) (w:World) (x:Ending) (w' : World):Prop:=x = .returned (.tuple #[.bool b,.int .i64 e]) ∧ Below w.heap.size w w'
theorem openC_calls (cv:Array Value) (c:Town) (d:Int) (w:World) (hcv:CityV w (.agg cv) c) :
  Calls Try.prog 37 #[.agg cv,.int .i64 d] w (OpenPost (Cal.opB c d) (Cal.dE d) w):=by
 unfold Cal.opB Cal.dE
 by_cases h:Cal.okDay d
 ·rw [if_pos h,if_pos h]; exact openC_ok cv c d w hcv h.1 h.2
 ·rw [if_neg h,if_neg h]; exact openC_no cv c d w hcv h
end Go.Proofs.Ytjllkddmkdajcaa
set_option linter.unusedVariables false
namespace Go.Proofs.Ytjllkddmkdajcaa.Cal
theorem first_open (c:Town) (d:Int):∀ n:Nat,(∃ k:Nat,k < n ∧ openD c (d + k) = true ∧ ∀ j:Nat,j < k→openD c (d + j) = false) ∨ ∀ j:Nat,j < n→openD c (d + j) = false
 | 0=>.inr fun j hj=>by omega
 | n + 1=>by
  rcases first_open c d n with ⟨k,hk,h1,h2⟩ | h
  ·exact .inl ⟨k,by omega,h1,h2⟩
  ·cases hp:openD c (d + n) with
   | true=>exact .inl ⟨n,by omega,hp,h⟩
   | false =>
    refine .inr fun j hj=>?_
    rcases (by omega:j < n ∨ j = n) with h' | rfl
    ·exact h j h'
    ·exact hp
theorem nx1_spec {c:Town} {d x:Int} (h:nx1 c d = some x):okDay d ∧ d ≤ x ∧ x ≤ d + 400 ∧ x ≤ 100000 ∧ openD c x = true ∧ ∀ i,d ≤ i→i < x→openD c i = false:=by
 have hd:okDay d:=by
  apply Classical.byContradiction; intro hn
  unfold nx1 at h; rw [if_neg hn] at h; simp at h
 have hl:=nlen_eq d hd
 rcases first_open c d (nlen d) with ⟨k,hk,h1,h2⟩ | h2
 ·have:=nx1_at c d k hd (by omega) (by omega) h1 h2
  rw [this] at h
  obtain rfl:=Option.some.inj h
  refine ⟨hd,by omega,by omega,by omega,h1,fun i hi1 hi2=>?_⟩
  obtain ⟨j,hj⟩:=Int.eq_ofNat_of_zero_le (show 0 ≤ i - d by omega)
  have:=h2 j (by omega)
  rwa [show d + (j:Int) = i from by omega] at this
 ·have:=nx1_none c d hd (fun j hj1 hj2=>h2 j (by omega))
  rw [this] at h; simp at h
theorem nx1_no {c:Town} {d:Int} (hd:okDay d) (h:nx1 c d = none):∀ i,d ≤ i→i ≤ d + 400→i ≤ 100000→openD c i = false:=fun i h1 h2 h3=>by
 have hl:=nlen_eq d hd
 rcases first_open c d (nlen d) with ⟨k,hk,g1,g2⟩ | g2
 ·have:=nx1_at c d k hd (by omega) (by omega) g1 g2
  rw [this] at h; simp at h
 ·obtain ⟨j,hj⟩:=Int.eq_ofNat_of_zero_le (show 0 ≤ i - d by omega)
  have:=g2 j (by omega)
  rwa [show d + (j:Int) = i from by omega] at this
def after (c:Town) (d x:Int):Nat:=(opens c (d + 1) (x - d).toNat).length
end Go.Proofs.Ytjllkddmkdajcaa.Cal
