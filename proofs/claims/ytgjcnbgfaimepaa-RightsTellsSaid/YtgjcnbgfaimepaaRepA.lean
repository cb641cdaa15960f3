/- slices.Repeat of one number: the walk. -/
import Derived.Test.YtgjcnbgfaimepaaVmT
import Derived.Test.YtgjcnbgfaimepaaNextW
import Derived.Test.YtgjcnbgfaimepaaRepD
import Derived.Test.YtgjcnbgfaimepaaLays
import Derived.Laws.MakeOwn
import Derived.Lib.LazyBuf
import Derived.Lib.Hide
import Derived.Laws.CopyOwn
import Derived.Deep.RegionLaw
import Derived.KernelRfl
namespace Go.Proofs.Ytgjcnbgfaimepaa
namespace Vm
open Go.RowKit
def FQ (n k:Nat) (x:Int):List Value:=List.replicate k (Value.int .i64 x) ++ List.replicate (n - k) (Value.int .i64 0)
theorem aJT {n k:Nat} (x:Int) (h:k <= n):(FQ n k x).length = n:=by simp [FQ]; omega
theorem aCv {n k m:Nat} (x:Int) (h:k + m <= n):splice (FQ n k x) k (List.replicate m (Value.int .i64 x)) = FQ n (k + m) x:=by
 unfold splice FQ
 have e1:(List.replicate k (Value.int .i64 x) ++ List.replicate (n - k) (Value.int .i64 0)).take k = List.replicate k (Value.int .i64 x):=by simp
 have e2:(List.replicate k (Value.int .i64 x) ++ List.replicate (n - k) (Value.int .i64 0)).drop (k + (List.replicate m (Value.int .i64 x)).length) = List.replicate (n - (k + m)) (Value.int .i64 0):=by
  rw [Ë,List.drop_append]
  simp
  omega
 rw [e1,e2,← è,List.replicate_append_replicate]
theorem aMz (n:Nat) (x:Int):madeCells #[.int .i64 0] n = (FQ n 0 x).toArray:=by
 apply Array.ext
 ·simp [madeCells,FQ]
 ·intro i h1 h2
  simp [madeCells,FQ,Nat.mod_one]
theorem aIZ {w:World} {ad:Addr} {x:Int} {m:Nat} (h:m <= 1) (hx:w.cell? ad = some (.int .i64 x)):∀ j v,(List.replicate m (Value.int .i64 x))[j]? = some v->w.cell? (ad.add j) = some v:=by
 intro j v hj
 obtain ⟨h1,h2⟩:=Æ.1 hj
 simp at h1 h2
 obtain rfl:j = 0:=by omega
 subst h2
 simpa [Addr.add] using hx
theorem aI3 (g j:Nat):(⟨g,0,none⟩ : Addr).add j = ⟨g,0 + j,none⟩:=by
 unfold Addr.add
 split
 ·rename_i q; rw [q]
 ·rfl
theorem aP8 {w:World} {g n k m:Nat} {x:Int} {e:TypeId} (hg:w.heap[g]? = some (.cells (FQ n k x).toArray e (0,0))) (hm:m <= k):∀ j v,(List.replicate m (Value.int .i64 x))[j]? = some v->w.cell? ((⟨g,0,none⟩ : Addr).add j) = some v:=by
 intro j v hj
 obtain ⟨h1,h2⟩:=Æ.1 hj
 simp at h1 h2
 subst h2
 rw [show (⟨g,0,none⟩ : Addr).add j = ⟨g,0 + j,none⟩ from aI3 g j,cell_of_row w g (0 + j) _ e _ hg]
 have:(List.replicate k (Value.int .i64 x))[j]? = some (Value.int .i64 x):=by rw [đ,Á (by omega)]
 have e2:(FQ n k x).toArray[0 + j]? = (FQ n k x)[j]?:=by simp
 rw [e2]
 unfold FQ
 rw [ë (by simp; omega)]
 exact this
theorem aN4:(Try.prog.info? 3).map (fun i=>(i.zero,i.size,i.bytes)) = some (some (.int .i64 0),1,8):=by kernel_rfl
theorem aQB:(Try.prog.info? 3).map (·.size) = some 1:=by kernel_rfl
theorem aMS (n:Nat) (hn:n <= 100000) (w:World):Calls Try.prog 116 #[.int .u64 1,.int .u64 n] w fun e w'=>e = .returned (.tuple #[.int .u64 0,.int .u64 n]) ∧ w' = w:=by
 have h:=Try.bits_Mul 1 n (by omega) (by omega) w
 have e1:((1 * n / 18446744073709551616:Nat):Int) = 0:=by
  rw [Nat.one_mul,ţ (by omega)]; rfl
 have e2:((1 * n % 18446744073709551616:Nat):Int) = n:=by rw [Nat.one_mul,Ŏ (by omega)]
 rw [e1,e2] at h
 exact h
theorem aCz {W:World} {g k n m dLen dCap sLen sCap:Nat} {ad:Addr} {x:Int} (hg:W.heap[g]? = some (.cells (FQ n k x).toArray 3 (0,0))) (hm:m = Nat.min sLen dLen) (hf:k + m <= n)
  (hs:∀ j v,(List.replicate m (Value.int .i64 x))[j]? = some v->W.cell? (ad.add j) = some v):∃ w2,(Builtin.copy_ #[23,23] 3 #[.slice (some ⟨g,k,none⟩) dLen dCap,.slice (some ad) sLen sCap]).run Try.prog W = .ok (.int .i64 m) w2 ∧
   Hid (w2.heap[g]? = some (.cells (FQ n (k + m) x).toArray 3 (0,0))) ∧ Hid (∀ B w0,Below B w0 W->B <= g->Below B w0 w2):=by
 have hlen:=aJT (n:=n) x (show k <= n by omega)
 by_cases h0:m = 0
 ·subst h0
  exact ⟨W,run_copy_none W 23 23 3 3 _ _ _ _ _ _ Try.underlying23 aQB hm.symm,hg,fun B w0 h _=>h⟩
 ·have h:=run_copy_row (P:=Try.prog) W 23 23 3 3 g k dLen dCap ad sLen sCap _ _ (List.replicate m (Value.int .i64 x)) Try.underlying23 aQB hg (by rw [Ë]; exact hm) hs (by simp [hlen]; omega) (fun v hv=>by rw [(List.mem_replicate.1 hv).2]; rfl)
  have e:=aCv (n:=n) (k:=k) (m:=m) x hf
  unfold splice at e
  have e2:(List.take k (FQ n k x).toArray.toList ++ List.replicate m (Value.int .i64 x) ++ List.drop (k + (List.replicate m (Value.int .i64 x)).length) (FQ n k x).toArray.toList).toArray = (FQ n (k + m) x).toArray:=by
   rw [è]
   exact Ą List.toArray e
  rw [e2,Ë] at h
  exact ⟨W.setRow g (FQ n (k + m) x).toArray,h,ŝ W g _ _ _ _ hg,fun B w0 hB hb=>below_setRow hB hb _⟩
set_option maxHeartbeats 1000000 in
set_option maxRecDepth 1000000 in
theorem aJP (n:Nat) (ad:Addr) (c:Nat) (x:Int) (w:World) (hn:n <= 100000) (hx:w.cell? ad = some (.int .i64 x)) :
  Calls Try.prog 109 #[.slice (some ad) 1 c,.int .i64 n] w fun e w'=>e = .returned (.slice (some ⟨w.heap.size,0,none⟩) n n) ∧ w'.heap[w.heap.size]? = some (.cells (FQ n n x).toArray 3 (0,0)) ∧ Below w.heap.size w w':=by
 have hmk:=run_make_row' (P:=Try.prog) 23 3 (.int .i64 0) 8 Try.underlying23 aN4 rfl .i64 .i64 n (by omega) (by omega)
 have hlt:¬ ((n:Int) < 0):=by omega
 have hgt:¬ ((n:Int) > 9223372036854775807):=by omega
 have hmul:=aMS n hn w
 go_enter Try.func109,Try.ntmps109
 have hx2:=((Below.refl w.heap.size w).alloc (É _) (.cells (madeCells #[.int .i64 0] n) 3)).cell (p:=ad) (Ť w _ hx)
 rw [hx] at hx2
 have hg0:(w.alloc (.cells (madeCells #[.int .i64 0] n) 3)).heap[w.heap.size]? = some (.cells (FQ n 0 x).toArray 3 (0,0)):=by rw [← aMz n x]; exact Ř w _
 have hB0:=(Below.refl w.heap.size w).alloc (É _) (.cells (madeCells #[.int .i64 0] n) 3)
 obtain ⟨w2,hc1,HG2,HB2'⟩:=aCz (g:=w.heap.size) (k:=0) (n:=n) (m:=Nat.min 1 n) (dLen:=n) (dCap:=n) (sLen:=1) (sCap:=c) (ad:=ad) (x:=x) hg0 rfl (by rw [Ĥ]; exact ť 1 n) (aIZ (Nat.min_le_left 1 n) hx2)
 have HB2:=Lib.hid (HB2'.out _ _ hB0 (É _))
 have hm1:Nat.min 1 n <= n:=ť 1 n
 have hm0:0 < n->0 < Nat.min 1 n:=fun h=>by have:Nat.min 1 n = 1:=ŀ h; omega
 generalize Nat.min 1 n = m1 at *
 rw [Ĥ] at HG2
 clear hx2 hg0 hB0 hx HB2'
 go_wp2_with (go_at_call 116; refine hmul.mono ?_; rintro e w1 ⟨rfl,rfl⟩)
 go_loopg [8] (n - m1) (fun g i wr=>∃ k:Nat,k <= n ∧ g = n - k ∧ i = .int .i64 k ∧ (0 < n->0 < k) ∧ Hid (wr.heap[w1.heap.size]? = some (.cells (FQ n k x).toArray 3 (0,0))) ∧ Hid (Below w1.heap.size w1 wr))
 case atStart=>exact ⟨m1,hm1,rfl,rfl,hm0,HG2,HB2⟩
 case round =>
  obtain ⟨k,hk,rfl,rfl,hk0,HG,HB⟩:=hrel
  by_cases hkn:k < n
  ·have hlt2:(k:Int) < (n:Int):=by omega
   have hk1:=hk0 (by omega)
   have hne:(n = k) = False:=by simp; omega
   have hmle:Nat.min k (n - k) <= n - k:=ť _ _
   have hm2:0 < Nat.min k (n - k):=Nat.lt_min.2 ⟨hk1,by omega⟩
   obtain ⟨w4,hc2,HG4,HB4'⟩:=aCz (W:=wr.drew) (g:=w1.heap.size) (k:=k) (n:=n) (m:=Nat.min k (n - k)) (dLen:=n - k) (dCap:=n - k) (sLen:=k) (sCap:=n) (ad:=⟨w1.heap.size,0,none⟩) (x:=x) HG.out rfl (by omega) (aP8 HG.out (Nat.min_le_left _ _))
   have HB4:=Lib.hid (HB4'.out _ _ HB.out.drew (É _))
   generalize Nat.min k (n - k) = m2 at *
   have hw:IntKind.i64.wrap ((k:Int) + (m2:Int)) = ((k + m2:Nat):Int):=by rw [IntKind.wrap_i64]; omega
   clear HB4'
   go_upto_region 9 with fail
   go_region_law fail
   all_goals go_wp2_with fail
   all_goals go_roundg (n - (k + m2))
   all_goals first
    | exact ⟨k + m2,by omega,rfl,by simp,fun _=>by omega,HG4,HB4⟩
    | omega
  ·obtain rfl:k = n:=by omega
   have hlf:((k:Int) < (k:Int)) = False:=by simp
   go_wp2_with fail
   go_ret
   exact ⟨rfl,HG.out,HB.out⟩
theorem aLi:∀ ds x,aNw 3 ds = some x->HV Try.prog 109 ds x:=by
 intro ds x e
 unfold aNw at e
 split at e
 ·rename_i y n
  split at e
  ·rename_i hn
   cases e
   refine ⟨⟨_,Try.func109,by decide,rfl⟩,fun w h vs hle hsz hr=>?_⟩
   obtain ⟨v0,v1,rfl⟩:=aUY hsz
   have r0:aW h v0 (.sl [[.int .i64 y]]):=hr 0 _ rfl
   have r1:aW h v1 (.int .i64 n):=hr 1 _ rfl
   cases r1
   obtain ⟨k,rfl⟩ : ∃ k:Nat,n = k:=⟨n.toNat,by omega⟩
   have hk:k <= 100000:=by omega
   cases r0 with
   | sl b off c kk nn rows cv hnn hc hkk hm hrr ho =>
    have h1:=hm 0 _ 0 _ rfl rfl
    have h2:=hrr 0 _ 0 _ rfl rfl
    generalize cv 0 0 = u at h1 h2
    cases h2
    rw [Nat.zero_mul,ď] at h1
    have hx:w.cell? ⟨b,off,none⟩ = some (.int .i64 y):=by rw [TR]; exact Hp.cell_le hle h1
    have hnn' : nn = 1:=hnn
    subst hnn'
    rw [Ä]
    refine (aJP k ⟨b,off,none⟩ c y w hk hx).mono ?_
    rintro e w' ⟨rfl,hg,hB⟩
    have hown:w'.ownsRow w.heap.size 3 1 (.slice (some ⟨w.heap.size,0,none⟩) k k) k (List.replicate k (Value.int .i64 y)) :=
     ⟨by simp,.inr ⟨w.heap.size,k,(FQ k k y).toArray,rfl,É _,hg,É _,by unfold maxLen; omega,by simp [FQ],by simp [FQ]⟩⟩
    have hin:lC h 1 (List.replicate k [D.int .i64 y]) (List.replicate k (Value.int .i64 y)):=by
     intro i row hi
     obtain ⟨i1,i2⟩:=Æ.1 hi
     rw [Ë] at i1
     rw [List.getElem_replicate] at i2
     subst i2
     refine ⟨rfl,fun j x hj=>?_⟩
     obtain rfl:j = 0:=by
      have:=(Æ.1 hj).1
      simp at this; exact this
     cases hj
     exact ⟨rfl,.int .i64 y,by rw [Į,ď,đ,Á i1],.int _ _⟩
    have hlen:(List.replicate k [D.int .i64 y]).length = k:=Ë
    have hown' : w'.ownsRow w.heap.size 3 1 (.slice (some ⟨w.heap.size,0,none⟩) k k) (List.replicate k [D.int .i64 y]).length (List.replicate k (Value.int .i64 y)):=by rw [hlen]; exact hown
    refine ⟨_,h,rfl,WK (É _) (by omega) (by rw [hlen]; unfold maxLen; omega) hown' hin fun g hg'=>?_,Hp.le.refl _,fun b o e=>aKh hB (hle b o e),fun _ _=>rfl,hB⟩
    rw [MQ hown] at hg'
    have h3:=(hown.lt _ hg').1
    cases e:h g with
    | none=>rfl
    | some o=>have:=hle g o e; unfold hw at this; rw [Array.getElem?_eq_none (by omega)] at this; cases this
  ·cases e
 ·cases e
end Vm
end Go.Proofs.Ytgjcnbgfaimepaa
