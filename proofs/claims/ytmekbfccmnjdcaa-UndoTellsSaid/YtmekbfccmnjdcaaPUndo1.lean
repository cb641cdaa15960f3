/- Layer 45 (undo): sets as maps, which acts stand: plain mathematics. -/
import Derived.Test.YtmekbfccmnjdcaaLoops3
import Derived.Test.YtmekbfccmnjdcaaFn
set_option linter.unusedVariables false
set_option linter.unusedSimpArgs false
namespace Go.Proofs.Ytmekbfccmnjdcaa
open Go.RowKit Vm
def can (n:Nat) (f:Nat→Bool):MB:=((List.range n).filter f).map fun i:Nat=>((i:Int),true)
def idL (n:Nat) (f:Nat→Bool):List Int:=((List.range n).filter f).map fun i:Nat=>(i:Int)
theorem can_succ (n:Nat) (f:Nat→Bool):can (n + 1) f = can n f ++ (if f n = true then [((n:Int),true)] else []):=by
 unfold can
 rw [List.range_succ,List.filter_append,List.map_append]
 cases h:f n <;> simp [h]
theorem can_congr {n:Nat} {f g:Nat→Bool} (h:∀ i,i < n→f i = g i):can n f = can n g:=by
 unfold can
 congr 1
 exact List.filter_congr fun i hi=>h i (List.mem_range.1 hi)
theorem idL_congr {n:Nat} {f g:Nat→Bool} (h:∀ i,i < n→f i = g i):idL n f = idL n g:=by
 unfold idL
 congr 1
 exact List.filter_congr fun i hi=>h i (List.mem_range.1 hi)
theorem can_none (n:Nat):can n (fun _=>false) = []:=by simp [can]
theorem can_keys (n:Nat) (f:Nat→Bool):keysO (some (can n f)) = idL n f:=by
 show (can n f).map (·.1) = idL n f
 unfold can idL
 rw [List.map_map]
 rfl
theorem can_len (n:Nat) (f:Nat→Bool):(can n f).length ≤ n:=by
 unfold can
 rw [List.length_map]
 exact Nat.le_trans (List.length_filter_le _ _) (by rw [List.length_range]; exact Nat.le_refl _)
theorem idL_len (n:Nat) (f:Nat→Bool):(idL n f).length ≤ n:=by
 unfold idL
 rw [List.length_map]
 exact Nat.le_trans (List.length_filter_le _ _) (by rw [List.length_range]; exact Nat.le_refl _)
theorem can_in (n:Nat) (f:Nat→Bool) (k:Nat):inM (can n f) (k:Int) = (decide (k < n) && f k):=by
 rw [Bool.eq_iff_iff,Bool.and_eq_true,decide_eq_true_eq]
 unfold inM can
 rw [List.any_map,List.any_eq_true]
 constructor
 ·rintro ⟨i,hi,he⟩
  rw [List.mem_filter,List.mem_range] at hi
  have:(i:Int) = (k:Int):=by simpa using he
  obtain rfl:i = k:=by omega
  exact hi
 ·rintro ⟨h1,h2⟩
  exact ⟨k,List.mem_filter.2 ⟨List.mem_range.2 h1,h2⟩,by simp⟩
theorem get_none {k:Int} {z:Bool} {m:MB} (h:inM m k = false):getG k z m = z:=by
 unfold getG
 rw [List.find?_eq_none.2]
 intro p hp
 have:=List.any_eq_false.1 h p hp
 exact this
theorem get_true {k:Int} {z:Bool} {m:MB} (h:inM m k = true) (hm:∀ p ∈ m,p.2 = true):getG k z m = true:=by
 unfold getG
 cases hf:m.find? fun p=>decide (p.1 = k) with
 | none =>
  rw [List.find?_eq_none] at hf
  obtain ⟨p,hp,hk⟩:=List.any_eq_true.1 h
  exact absurd hk (hf p hp)
 | some p=>exact hm p (List.mem_of_find?_eq_some hf)
theorem can_true (n:Nat) (f:Nat→Bool):∀ p ∈ can n f,p.2 = true:=by
 intro p hp
 obtain ⟨i,_,rfl⟩:=List.mem_map.1 hp
 rfl
theorem can_get (n:Nat) (f:Nat→Bool) (k:Nat):getG (k:Int) false (can n f) = (decide (k < n) && f k):=by
 cases h:inM (can n f) (k:Int) with
 | false=>rw [get_none h,← can_in,h]
 | true=>rw [get_true h (can_true n f),← can_in,h]
theorem can_del (n:Nat) (f:Nat→Bool) (k:Nat):delG (k:Int) (can n f) = can n (fun i=>f i && !decide (i = k)):=by
 unfold delG can
 rw [List.filter_map,List.filter_filter]
 congr 1
 refine List.filter_congr fun i _=>?_
 show (!decide ((i:Int) = (k:Int)) && f i) = _
 rw [Bool.and_comm]
 congr 2
 exact decide_eq_decide.2 ⟨fun h=>by omega,fun h=>by omega⟩
theorem ins_last (k:Int) (v:Bool):∀ A:MB,(∀ y ∈ A,¬ k < y.1)→insG k v A = A ++ [(k,v)]
 | [],_=>rfl
 | y :: r,h=>by
  unfold insG
  rw [if_neg (h y (List.mem_cons_self ..)),ins_last k v r fun z hz=>h z (List.mem_cons_of_mem _ hz)]
  rfl
theorem ins_append (k:Int) (v:Bool) (B:MB) (hB:∀ y ∈ B,k < y.1):∀ A:MB,insG k v (A ++ B) = insG k v A ++ B
 | []=>by
  cases B with
  | nil=>rfl
  | cons y r =>
   show insG k v (y :: r) = _
   unfold insG
   rw [if_pos (hB y (List.mem_cons_self ..))]
   rfl
 | y :: A=>by
  show (if k < y.1 then _ else _) = (if k < y.1 then _ else _) ++ B
  by_cases c:k < y.1
  ·rw [if_pos c,if_pos c]; rfl
  ·rw [if_neg c,if_neg c]
   show y :: insG k v (A ++ B) = _
   rw [ins_append k v B hB A]; rfl
theorem can_ins:∀ (n:Nat) (f:Nat→Bool) (k:Nat),k < n→f k = false→insG (k:Int) true (can n f) = can n (fun i=>f i || decide (i = k))
 | 0,f,k,h,_=>by omega
 | n + 1,f,k,h,hf=>by
  rw [can_succ,can_succ]
  by_cases e:k = n
  ·subst e
   rw [if_neg (by rw [hf]; decide),List.append_nil,ins_last _ _ _ fun y hy=>?_]
   ·rw [if_pos (by simp)]
    congr 1
    exact can_congr fun i hi=>by
     have:¬ i = k:=by omega
     simp [this]
   ·obtain ⟨i,hi,rfl⟩:=List.mem_map.1 hy
    have:=List.mem_range.1 (List.mem_filter.1 hi).1
    show ¬ (k:Int) < (i:Int)
    omega
  ·rw [ins_append _ _ _ (fun y hy=>by
    split at hy
    ·simp at hy; subst hy; show (k:Int) < (n:Int); omega
    ·simp at hy),can_ins n f k (by omega) hf]
   have:¬ n = k:=fun q=>e q.symm
   simp [this]
theorem can_put (n:Nat) (f:Nat→Bool) (k:Nat) (h:k < n):putG (k:Int) true (can n f) = can n (fun i=>f i || decide (i = k)):=by
 unfold putG
 rw [can_del,can_ins n _ k h (by simp)]
 refine can_congr fun i _=>?_
 by_cases e:i = k <;> simp [e]
theorem can_sub (n:Nat) (f g:Nat→Bool):subM (can n g) (can n f) = can n (fun i=>f i && !g i):=by
 unfold subM
 rw [show can n f = ((List.range n).filter f).map fun i:Nat=>((i:Int),true) from rfl,List.filter_map,List.filter_filter]
 unfold can
 congr 1
 refine List.filter_congr fun i hi=>?_
 show (!inM _ (i:Int) && f i) = _
 have:=can_in n g i
 unfold can at this
 rw [this,decide_eq_true (List.mem_range.1 hi),Bool.true_and,Bool.and_comm]
theorem can_keysM (n:Nat) (f:Nat→Bool) (m:Nat) (h:n ≤ m):keysM (can n f) m = true:=by
 unfold keysM
 rw [List.all_eq_true]
 intro p hp
 obtain ⟨i,hi,rfl⟩:=List.mem_map.1 hp
 have:=List.mem_range.1 (List.mem_filter.1 hi).1
 simp
 omega
theorem can_mark (n:Nat) (f:Nat→Bool):markM (can n f) (List.replicate n false) = (List.range n).map f:=by
 apply List.ext_getElem?
 intro i
 unfold markM
 rw [List.getElem?_mapIdx,List.getElem?_map]
 by_cases h:i < n
 ·rw [List.getElem?_eq_getElem (by rw [List.length_replicate]; exact h),List.getElem?_eq_getElem (by rw [List.length_range]; exact h)]
  simp only [Option.map_some,List.getElem_replicate,List.getElem_range,can_in,decide_eq_true h,Bool.true_and]
  cases f i <;> rfl
 ·rw [List.getElem?_eq_none (by rw [List.length_replicate]; omega),List.getElem?_eq_none (by rw [List.length_range]; omega)]
  rfl
def wholeF (s:List Int) (f:Nat→Bool):Bool:=s.all fun k=>f k.toNat
def heldF (x:GLean) (f:Nat→Bool):Bool:=x.Supports.isEmpty || x.Supports.any fun s=>wholeF s f
theorem wholeF_congr {s:List Int} {f g:Nat→Bool} (h:∀ k ∈ s,f k.toNat = g k.toNat):wholeF s f = wholeF s g:=by
 unfold wholeF
 rw [Bool.eq_iff_iff,List.all_eq_true,List.all_eq_true]
 exact ⟨fun q k hk=>by rw [← h k hk]; exact q k hk,fun q k hk=>by rw [h k hk]; exact q k hk⟩
theorem heldF_congr {x:GLean} {f g:Nat→Bool} (h:∀ s ∈ x.Supports,∀ k ∈ s,f k.toNat = g k.toNat):heldF x f = heldF x g:=by
 unfold heldF
 congr 1
 rw [Bool.eq_iff_iff,List.any_eq_true,List.any_eq_true]
 exact ⟨fun ⟨s,h1,h2⟩=>⟨s,h1,by rw [← wholeF_congr (h s h1)]; exact h2⟩,fun ⟨s,h1,h2⟩=>⟨s,h1,by rw [wholeF_congr (h s h1)]; exact h2⟩⟩
def stL (l:List GLean) (sk:List Bool):Nat→List Bool
 | 0=>[]
 | i + 1=>stL l sk i ++ [!(el sk i) && heldF (el l i) (fun k=>el (stL l sk i) k)]
def stand (l:List GLean) (sk:List Bool) (i:Nat):Bool:=el (stL l sk (i + 1)) i
theorem stL_len (l:List GLean) (sk:List Bool):∀ i,(stL l sk i).length = i
 | 0=>rfl
 | i + 1=>by simp [stL,stL_len l sk i]
theorem stL_el (l:List GLean) (sk:List Bool):∀ n i,i < n→el (stL l sk n) i = stand l sk i
 | 0,i,h=>by omega
 | n + 1,i,h=>by
  by_cases e:i = n
  ·subst e; rfl
  ·rw [show el (stL l sk (n + 1)) i = el (stL l sk n) i by
    simp only [stL]
    unfold el
    rw [List.getD_eq_getElem?_getD,List.getElem?_append_left (by rw [stL_len]; omega),List.getD_eq_getElem?_getD]]
   exact stL_el l sk n i (by omega)
def risingP (s:List Int) (n:Int):Prop:=∀ j,j < s.length→(0 ≤ el s j ∧ el s j < n) ∧ (0 < j→el s (j - 1) < el s j)
instance (s:List Int) (n:Int):Decidable (risingP s n):=by unfold risingP; exact Nat.decidableBallLT _ _
theorem rising_mem {s:List Int} {n:Int} (h:risingP s n) {k:Int} (hk:k ∈ s):0 ≤ k ∧ k < n:=by
 obtain ⟨j,hj,rfl⟩:=mem_el hk
 exact (h j hj).1
def rightS (s:List Int) (i:Nat):Prop:=(1 ≤ s.length ∧ s.length ≤ 20) ∧ risingP s i
instance (s:List Int) (i:Nat):Decidable (rightS s i):=by unfold rightS; exact inferInstance
def rightX (x:GLean) (i:Nat):Prop:=x.Supports.length ≤ 20 ∧ ∀ j,j < x.Supports.length→rightS (el x.Supports j) i
instance (x:GLean) (i:Nat):Decidable (rightX x i):=by
 unfold rightX
 exact @instDecidableAnd _ _ _ (Nat.decidableBallLT _ _)
def rightL (l:List GLean):Prop:=l.length ≤ 300 ∧ ∀ i,i < l.length→rightX (el l i) i
instance (l:List GLean):Decidable (rightL l):=by
 unfold rightL
 exact @instDecidableAnd _ _ _ (Nat.decidableBallLT _ _)
theorem right_sup {l:List GLean} (h:rightL l) {i:Nat} (hi:i < l.length) {s:List Int} (hs:s ∈ (el l i).Supports):rightS s i:=by
 obtain ⟨j,hj,rfl⟩:=mem_el hs
 exact (h.2 i hi).2 j hj
theorem right_mem {l:List GLean} (h:rightL l) {i:Nat} (hi:i < l.length) {s:List Int} (hs:s ∈ (el l i).Supports) {k:Int} (hk:k ∈ s):0 ≤ k ∧ k.toNat < i:=by
 have:=rising_mem (right_sup h hi hs).2 hk
 omega
theorem stand_eq {l:List GLean} (h:rightL l) (sk:List Bool) {i:Nat} (hi:i < l.length):stand l sk i = (!(el sk i) && heldF (el l i) (stand l sk)):=by
 have e:stand l sk i = (!(el sk i) && heldF (el l i) (fun k=>el (stL l sk i) k)):=by
  unfold stand
  simp only [stL]
  unfold el
  rw [List.getD_eq_getElem?_getD,List.getElem?_append_right (by rw [stL_len]; exact Nat.le_refl _),stL_len,Nat.sub_self]
  rfl
 rw [e]
 congr 1
 exact heldF_congr fun s hs k hk=>stL_el l sk i _ (right_mem h hi hs hk).2
theorem wholeF_mono {s:List Int} {f g:Nat→Bool} (h:∀ k ∈ s,f k.toNat = true→g k.toNat = true) (q:wholeF s f = true):wholeF s g = true:=by
 unfold wholeF at q ⊢
 rw [List.all_eq_true] at q ⊢
 exact fun k hk=>h k hk (q k hk)
theorem heldF_mono {x:GLean} {f g:Nat→Bool} (h:∀ s ∈ x.Supports,∀ k ∈ s,f k.toNat = true→g k.toNat = true) (q:heldF x f = true):heldF x g = true:=by
 unfold heldF at q ⊢
 rw [Bool.or_eq_true] at q ⊢
 rcases q with q | q
 ·exact .inl q
 ·obtain ⟨s,h1,h2⟩:=List.any_eq_true.1 q
  exact .inr (List.any_eq_true.2 ⟨s,h1,wholeF_mono (h s h1) h2⟩)
end Go.Proofs.Ytmekbfccmnjdcaa
