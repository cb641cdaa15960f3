/- slices.Repeat of one number: the walk. -/
import Derived.Test.YtgjcnbgfaimepaaVmT
import Derived.Test.YtgjcnbgfaimepaaNextW
import Derived.Test.YtgjcnbgfaimepaaRepD
import Derived.Test.YtgjcnbgfaimepaaLays
import Derived.Laws.MakeOwn
import Derived.Lib.LazyBuf
import Derived.Lib.Hide
import Derived.Laws.CopyOwn
import Derived.Deep.RegionLaw
import Derived.KernelRfl
set_option linter.unusedVariables false
set_option linter.unusedSimpArgs false
namespace Go.Proofs.Ytgjcnbgfaimepaa
namespace Vm
open Go.RowKit
def AJ (n k:Nat) (x:Int):List Value:=List.replicate k (Value.int .i64 x) ++ List.replicate (n - k) (Value.int .i64 0)
theorem aJj {n k:Nat} (x:Int) (h:k <= n):(AJ n k x).length = n:=by simp [AJ]; omega
theorem XP {n k m:Nat} (x:Int) (h:k + m <= n):splice (AJ n k x) k (List.replicate m (Value.int .i64 x)) = AJ n (k + m) x:=by
 unfold splice AJ
 have e1:(List.replicate k (Value.int .i64 x) ++ List.replicate (n - k) (Value.int .i64 0)).take k = List.replicate k (Value.int .i64 x):=by simp
 have e2:(List.replicate k (Value.int .i64 x) ++ List.replicate (n - k) (Value.int .i64 0)).drop (k + (List.replicate m (Value.int .i64 x)).length) = List.replicate (n - (k + m)) (Value.int .i64 0):=by
  rw [List.length_replicate,List.drop_append]
  simp
  omega
 rw [e1,e2,← List.append_assoc,List.replicate_append_replicate]
theorem aIz (n:Nat) (x:Int):madeCells #[.int .i64 0] n = (AJ n 0 x).toArray:=by
 apply Array.ext
 ·simp [madeCells,AJ]
 ·intro i h1 h2
  simp [madeCells,AJ,Nat.mod_one]
theorem aG2 {w:World} {ad:Addr} {x:Int} {m:Nat} (h:m <= 1) (hx:w.cell? ad = some (.int .i64 x)):∀ j v,(List.replicate m (Value.int .i64 x))[j]? = some v->w.cell? (ad.add j) = some v:=by
 intro j v hj
 obtain ⟨h1,h2⟩:=List.getElem?_eq_some_iff.1 hj
 simp at h1 h2
 obtain rfl:j = 0:=by omega
 subst h2
 simpa [Addr.add] using hx
theorem aHB (g j:Nat):(⟨g,0,none⟩ : Addr).add j = ⟨g,0 + j,none⟩:=by
 unfold Addr.add
 split
 ·rename_i q; rw [q]
 ·rfl
theorem aPh {w:World} {g n k m:Nat} {x:Int} {e:TypeId} (hg:w.heap[g]? = some (.cells (AJ n k x).toArray e (0,0))) (hm:m <= k):∀ j v,(List.replicate m (Value.int .i64 x))[j]? = some v->w.cell? ((⟨g,0,none⟩ : Addr).add j) = some v:=by
 intro j v hj
 obtain ⟨h1,h2⟩:=List.getElem?_eq_some_iff.1 hj
 simp at h1 h2
 subst h2
 rw [show (⟨g,0,none⟩ : Addr).add j = ⟨g,0 + j,none⟩ from aHB g j,cell_of_row w g (0 + j) _ e _ hg]
 have:(List.replicate k (Value.int .i64 x))[j]? = some (Value.int .i64 x):=by rw [List.getElem?_replicate,if_pos (by omega)]
 have e2:(AJ n k x).toArray[0 + j]? = (AJ n k x)[j]?:=by simp
 rw [e2]
 unfold AJ
 rw [List.getElem?_append_left (by simp; omega)]
 exact this
theorem aPs:(Try.prog.info? 3).map (fun i=>(i.zero,i.size,i.bytes)) = some (some (.int .i64 0),1,8):=by kernel_rfl
theorem aQx:(Try.prog.info? 3).map (·.size) = some 1:=by kernel_rfl
theorem aPS (n:Nat) (hn:n <= 100000) (w:World):Calls Try.prog 116 #[.int .u64 1,.int .u64 n] w fun e w'=>e = .returned (.tuple #[.int .u64 0,.int .u64 n]) ∧ w' = w:=by
 have h:=Try.bits_Mul 1 n (by omega) (by omega) w
 have e1:((1 * n / 18446744073709551616:Nat):Int) = 0:=by
  rw [Nat.one_mul,Nat.div_eq_of_lt (by omega)]; rfl
 have e2:((1 * n % 18446744073709551616:Nat):Int) = n:=by rw [Nat.one_mul,Nat.mod_eq_of_lt (by omega)]
 rw [e1,e2] at h
 exact h
theorem aAR {W:World} {g k n m dLen dCap sLen sCap:Nat} {ad:Addr} {x:Int} (hg:W.heap[g]? = some (.cells (AJ n k x).toArray 3 (0,0))) (hm:m = Nat.min sLen dLen) (hf:k + m <= n)
  (hs:∀ j v,(List.replicate m (Value.int .i64 x))[j]? = some v->W.cell? (ad.add j) = some v):∃ w2,(Builtin.copy_ #[23,23] 3 #[.slice (some ⟨g,k,none⟩) dLen dCap,.slice (some ad) sLen sCap]).run Try.prog W = .ok (.int .i64 m) w2 ∧
   Hid (w2.heap[g]? = some (.cells (AJ n (k + m) x).toArray 3 (0,0))) ∧ Hid (∀ B w0,Below B w0 W->B <= g->Below B w0 w2):=by
 have hlen:=aJj (n:=n) x (show k <= n by omega)
 by_cases h0:m = 0
 ·subst h0
  exact ⟨W,run_copy_none W 23 23 3 3 _ _ _ _ _ _ Try.underlying23 aQx hm.symm,hg,fun B w0 h _=>h⟩
 ·have h:=run_copy_row (P:=Try.prog) W 23 23 3 3 g k dLen dCap ad sLen sCap _ _ (List.replicate m (Value.int .i64 x)) Try.underlying23 aQx hg (by rw [List.length_replicate]; exact hm) hs (by simp [hlen]; omega) (fun v hv=>by rw [(List.mem_replicate.1 hv).2]; rfl)
  have e:=XP (n:=n) (k:=k) (m:=m) x hf
  unfold splice at e
  have e2:(List.take k (AJ n k x).toArray.toList ++ List.replicate m (Value.int .i64 x) ++ List.drop (k + (List.replicate m (Value.int .i64 x)).length) (AJ n k x).toArray.toList).toArray = (AJ n (k + m) x).toArray:=by
   rw [List.append_assoc]
   exact congrArg List.toArray e
  rw [e2,List.length_replicate] at h
  exact ⟨W.setRow g (AJ n (k + m) x).toArray,h,setRow_heap W g _ _ _ _ hg,fun B w0 hB hb=>below_setRow hB hb _⟩
set_option maxHeartbeats 1000000 in
set_option maxRecDepth 1000000 in
theorem aJB (n:Nat) (ad:Addr) (c:Nat) (x:Int) (w:World) (hn:n <= 100000) (hx:w.cell? ad = some (.int .i64 x)) :
  Calls Try.prog 109 #[.slice (some ad) 1 c,.int .i64 n] w fun e w'=>e = .returned (.slice (some ⟨w.heap.size,0,none⟩) n n) ∧ w'.heap[w.heap.size]? = some (.cells (AJ n n x).toArray 3 (0,0)) ∧ Below w.heap.size w w':=by
 have hmk:=run_make_row' (P:=Try.prog) 23 3 (.int .i64 0) 8 Try.underlying23 aPs rfl .i64 .i64 n (by omega) (by omega)
 have hlt:¬ ((n:Int) < 0):=by omega
 have hgt:¬ ((n:Int) > 9223372036854775807):=by omega
 have hmul:=aPS n hn w
 go_enter Try.func109,Try.ntmps109
 have hx2:=((Below.refl w.heap.size w).alloc (Nat.le_refl _) (.cells (madeCells #[.int .i64 0] n) 3)).cell (p:=ad) (World.block_lt_of_cell? w _ hx)
 rw [hx] at hx2
 have hg0:(w.alloc (.cells (madeCells #[.int .i64 0] n) 3)).heap[w.heap.size]? = some (.cells (AJ n 0 x).toArray 3 (0,0)):=by rw [← aIz n x]; exact heap_alloc_new w _
 have hB0:=(Below.refl w.heap.size w).alloc (Nat.le_refl _) (.cells (madeCells #[.int .i64 0] n) 3)
 obtain ⟨w2,hc1,HG2,HB2'⟩:=aAR (g:=w.heap.size) (k:=0) (n:=n) (m:=Nat.min 1 n) (dLen:=n) (dCap:=n) (sLen:=1) (sCap:=c) (ad:=ad) (x:=x) hg0 rfl (by rw [Nat.zero_add]; exact Nat.min_le_right 1 n) (aG2 (Nat.min_le_left 1 n) hx2)
 have HB2:=Lib.hid (HB2'.out _ _ hB0 (Nat.le_refl _))
 have hm1:Nat.min 1 n <= n:=Nat.min_le_right 1 n
 have hm0:0 < n->0 < Nat.min 1 n:=fun h=>by have:Nat.min 1 n = 1:=Nat.min_eq_left h; omega
 generalize Nat.min 1 n = m1 at *
 rw [Nat.zero_add] at HG2
 clear hx2 hg0 hB0 hx HB2'
 go_wp2_with (go_at_call 116; refine hmul.mono ?_; rintro e w1 ⟨rfl,rfl⟩)
 go_loopg [8] (n - m1) (fun g i wr=>∃ k:Nat,k <= n ∧ g = n - k ∧ i = .int .i64 k ∧ (0 < n->0 < k) ∧ Hid (wr.heap[w1.heap.size]? = some (.cells (AJ n k x).toArray 3 (0,0))) ∧ Hid (Below w1.heap.size w1 wr))
 case atStart=>exact ⟨m1,hm1,rfl,rfl,hm0,HG2,HB2⟩
 case round =>
  obtain ⟨k,hk,rfl,rfl,hk0,HG,HB⟩:=hrel
  by_cases hkn:k < n
  ·have hlt2:(k:Int) < (n:Int):=by omega
   have hk1:=hk0 (by omega)
   have hne:(n = k) = False:=by simp; omega
   have hmle:Nat.min k (n - k) <= n - k:=Nat.min_le_right _ _
   have hm2:0 < Nat.min k (n - k):=Nat.lt_min.2 ⟨hk1,by omega⟩
   obtain ⟨w4,hc2,HG4,HB4'⟩:=aAR (W:=wr.drew) (g:=w1.heap.size) (k:=k) (n:=n) (m:=Nat.min k (n - k)) (dLen:=n - k) (dCap:=n - k) (sLen:=k) (sCap:=n) (ad:=⟨w1.heap.size,0,none⟩) (x:=x) HG.out rfl (by omega) (aPh HG.out (Nat.min_le_left _ _))
   have HB4:=Lib.hid (HB4'.out _ _ HB.out.drew (Nat.le_refl _))
   generalize Nat.min k (n - k) = m2 at *
   have hw:IntKind.i64.wrap ((k:Int) + (m2:Int)) = ((k + m2:Nat):Int):=by rw [IntKind.wrap_i64]; omega
   clear HB4'
   go_upto_region 9 with fail
   go_region_law fail
   all_goals go_wp2_with fail
   all_goals go_roundg (n - (k + m2))
   all_goals first
    | exact ⟨k + m2,by omega,rfl,by simp,fun _=>by omega,HG4,HB4⟩
    | omega
  ·obtain rfl:k = n:=by omega
   have hlf:((k:Int) < (k:Int)) = False:=by simp
   go_wp2_with fail
   go_ret
   exact ⟨rfl,HG.out,HB.out⟩
theorem aJ0:∀ ds x,aO8 3 ds = some x->CF Try.prog 109 ds x:=by
 intro ds x e
 unfold aO8 at e
 split at e
 ·rename_i y n
  split at e
  ·rename_i hn
   cases e
   refine ⟨⟨_,Try.func109,by decide,rfl⟩,fun w h vs hle hsz hr=>?_⟩
   obtain ⟨v0,v1,rfl⟩:=aUP hsz
   have r0:aT h v0 (.sl [[.int .i64 y]]):=hr 0 _ rfl
   have r1:aT h v1 (.int .i64 n):=hr 1 _ rfl
   cases r1
   obtain ⟨k,rfl⟩ : ∃ k:Nat,n = k:=⟨n.toNat,by omega⟩
   have hk:k <= 100000:=by omega
   cases r0 with
   | sl b off c kk nn rows cv hnn hc hkk hm hrr ho =>
    have h1:=hm 0 _ 0 _ rfl rfl
    have h2:=hrr 0 _ 0 _ rfl rfl
    generalize cv 0 0 = u at h1 h2
    cases h2
    rw [Nat.zero_mul,Nat.add_zero] at h1
    have hx:w.cell? ⟨b,off,none⟩ = some (.int .i64 y):=by rw [I6]; exact Hp.cell_le hle h1
    have hnn' : nn = 1:=hnn
    subst hnn'
    rw [Int.toNat_natCast]
    refine (aJB k ⟨b,off,none⟩ c y w hk hx).mono ?_
    rintro e w' ⟨rfl,hg,hB⟩
    have hown:w'.ownsRow w.heap.size 3 1 (.slice (some ⟨w.heap.size,0,none⟩) k k) k (List.replicate k (Value.int .i64 y)) :=
     ⟨by simp,.inr ⟨w.heap.size,k,(AJ k k y).toArray,rfl,Nat.le_refl _,hg,Nat.le_refl _,by unfold maxLen; omega,by simp [AJ],by simp [AJ]⟩⟩
    have hin:iI h 1 (List.replicate k [D.int .i64 y]) (List.replicate k (Value.int .i64 y)):=by
     intro i row hi
     obtain ⟨i1,i2⟩:=List.getElem?_eq_some_iff.1 hi
     rw [List.length_replicate] at i1
     rw [List.getElem_replicate] at i2
     subst i2
     refine ⟨rfl,fun j x hj=>?_⟩
     obtain rfl:j = 0:=by
      have:=(List.getElem?_eq_some_iff.1 hj).1
      simp at this; exact this
     cases hj
     exact ⟨rfl,.int .i64 y,by rw [Nat.mul_one,Nat.add_zero,List.getElem?_replicate,if_pos i1],.int _ _⟩
    have hlen:(List.replicate k [D.int .i64 y]).length = k:=List.length_replicate
    have hown' : w'.ownsRow w.heap.size 3 1 (.slice (some ⟨w.heap.size,0,none⟩) k k) (List.replicate k [D.int .i64 y]).length (List.replicate k (Value.int .i64 y)):=by rw [hlen]; exact hown
    refine ⟨_,h,rfl,PI (Nat.le_refl _) (by omega) (by rw [hlen]; unfold maxLen; omega) hown' hin fun g hg'=>?_,Hp.le.refl _,fun b o e=>aJS hB (hle b o e),fun _ _=>rfl,hB⟩
    rw [ES hown] at hg'
    have h3:=(hown.lt _ hg').1
    cases e:h g with
    | none=>rfl
    | some o=>have:=hle g o e; unfold hw at this; rw [Array.getElem?_eq_none (by omega)] at this; cases this
  ·cases e
 ·cases e
end Vm
end Go.Proofs.Ytgjcnbgfaimepaa
