/- The laws of layer 14: RecordSeen. -/
import Derived.Test.YtfhebiceipgdmaaPRec14d
set_option linter.unusedVariables false
set_option linter.unusedSimpArgs false
namespace Go.Proofs.Ytfhebiceipgdmaa
open Go.RowKit Vm
theorem TP (l:List Int) (m:Int):l.foldl nP m ≤ m ∧ (∀ x ∈ l,l.foldl nP m ≤ x) ∧ (l.foldl nP m = m ∨ l.foldl nP m ∈ l):=by
 induction l generalizing m with
 | nil=>exact ⟨Int.le_refl _,(fun x hx=>absurd hx List.not_mem_nil),Or.inl rfl⟩
 | cons y l ih =>
  obtain ⟨h1,h2,h3⟩:=ih (nP m y)
  have e:(y :: l).foldl nP m = l.foldl nP (nP m y):=rfl
  rw [e]
  have hm:nP m y ≤ m ∧ nP m y ≤ y ∧ (nP m y = m ∨ nP m y = y):=by unfold nP; split <;> omega
  refine ⟨by omega,fun x hx=>?_,?_⟩
  ·rcases List.mem_cons.1 hx with q | q
   ·rw [q]; omega
   ·exact h2 x q
  ·rcases h3 with q | q
   ·rcases hm.2.2 with z | z
    ·exact .inl (q.trans z)
    ·right; rw [q,z]; simp
   ·exact .inr (List.mem_cons_of_mem _ q)
theorem AJ {L:List Int} (h:L ≠ []):LG L ∈ L ∧ ∀ x ∈ L,LG L ≤ x:=by
 cases L with
 | nil=>exact absurd rfl h
 | cons y l =>
  obtain ⟨h1,h2,h3⟩:=TP l y
  have e:LG (y :: l) = l.foldl nP y:=rfl
  rw [e]
  refine ⟨?_,fun x hx=>?_⟩
  ·rcases h3 with q | q
   ·rw [q]; simp
   ·exact List.mem_cons_of_mem _ q
  ·rcases List.mem_cons.1 hx with q | q
   ·rw [q]; exact h1
   ·exact h2 x q
theorem RN (L:List Int) (d:Int) (h0:∀ x ∈ L,0 ≤ x):LG (L.filter fun x=>decide (x ≤ d)) = if LG L = -1 ∨ LG L > d then -1 else LG L:=by
 by_cases e:L = []
 ·subst e; rfl
 obtain ⟨m1,m2⟩:=AJ e
 have mp:=h0 _ m1
 by_cases e' : L.filter (fun x=>decide (x ≤ d)) = []
 ·rw [e']
  have:=List.filter_eq_nil_iff.1 e' _ m1
  rw [if_pos (.inr (by simpa using this))]
  rfl
 ·obtain ⟨k1,k2⟩:=AJ e'
  have k3:=List.mem_filter.1 k1
  have k4:=of_decide_eq_true k3.2
  have k5:=m2 _ k3.1
  have k6:=k2 _ (List.mem_filter.2 ⟨m1,decide_eq_true (by omega)⟩)
  rw [if_neg (by omega)]
  omega
theorem JH (d:Int):∀ (A:List bB),(∀ i j,j ≤ i→i < A.length→(el A j).Day ≤ (el A i).Day)→(A.takeWhile fun x=>decide (x.Day ≤ d)).findSome? oM = (A.findSome? oM).bind fun y=>if y ≤ d then some y else none
 | [],_=>rfl
 | x :: A,h=>by
  have ih:=JH d A (fun i j hj hi=>h (i + 1) (j + 1) (by omega) (by simp; omega))
  by_cases hx:x.Day ≤ d
  ·rw [List.takeWhile_cons_of_pos (p:=fun x:bB=>decide (x.Day ≤ d)) (by simpa using hx),List.findSome?_cons,List.findSome?_cons]
   unfold oM at ih ⊢
   by_cases k:x.Kind = 2
   ·rw [if_pos k]; simp [hx]
   ·rw [if_neg k]; exact ih
  ·rw [List.takeWhile_cons_of_neg (p:=fun x:bB=>decide (x.Day ≤ d)) (by simpa using hx)]
   cases e:(x :: A).findSome? oM with
   | none=>rfl
   | some y =>
    obtain ⟨z,hz,hy⟩:=List.exists_of_findSome?_eq_some e
    obtain ⟨i,hi,rfl⟩:=B4 hz
    have:=h i 0 (Nat.zero_le _) hi
    have e0:el (x :: A) 0 = x:=rfl
    rw [e0] at this
    unfold oM at hy
    split at hy
    ·cases hy
     rw [Option.bind_some,if_neg (by omega)]
     rfl
    ·cases hy
theorem OJ {r:aA} {f:aB} (h:∀ i,i < f.Acts.length→uY r f i = 0) (hb:0 ≤ f.Bill.Day):∀ i,i < f.Acts.length→0 ≤ (el f.Acts i).Day:=by
 intro i hi
 have h1:=(E5 (h i hi)).2.1
 have h2:=(F4 f i).1
 have h3:=(WR f (el f.Acts i)).1
 omega
theorem aC4 {r:aA} {f:aB} (h:∀ i,i < f.Signs.length→m6 r f i = 0) (hb:0 ≤ f.Bill.Day):∀ i,i < f.Signs.length→0 ≤ (el f.Signs i).Day:=by
 intro i hi
 have h1:=GB h i 0 (Nat.zero_le _) hi
 have h2:=(CN (h 0 (by omega))).1
 have e:lK f 0 = f.Bill.Day:=rfl
 omega
theorem aBA (S:List aO) (d:Int) (hm:∀ i j,j ≤ i→i < S.length→(el S j).Day ≤ (el S i).Day):kP (wU S d) = (kP S).filter fun x=>decide (x ≤ d):=by
 unfold kP wU
 rw [← rS (fun x:aO=>decide (x.Day ≤ d)) S (fun i j hij hj q=>by have:=hm j i hij hj; have:=of_decide_eq_true q; exact decide_eq_true (by omega)),List.filter_map,List.filter_filter,List.filter_filter]
 congr 2
 funext x
 exact Bool.and_comm _ _
theorem aCd (S:List bB) (d:Int) (hm:∀ i j,j ≤ i→i < S.length→(el S j).Day ≤ (el S i).Day):nG (DV S d) = (nG S).filter fun x=>decide (x ≤ d):=by
 unfold nG DV
 rw [← rS (fun x:bB=>decide (x.Day ≤ d)) S (fun i j hij hj q=>by have:=hm j i hij hj; have:=of_decide_eq_true q; exact decide_eq_true (by omega)),List.filter_map,List.filter_filter,List.filter_filter]
 congr 2
 funext x
 exact Bool.and_comm _ _
theorem M0 {S:List aO} {x:Int} (h:x ∈ kP S):∃ i,i < S.length ∧ (el S i).Kind = 1 ∧ (el S i).Day = x:=by
 unfold kP at h
 obtain ⟨y,hy,rfl⟩:=List.mem_map.1 h
 obtain ⟨hy,hk⟩:=List.mem_filter.1 hy
 obtain ⟨i,hi,rfl⟩:=B4 hy
 exact ⟨i,hi,of_decide_eq_true hk,rfl⟩
theorem MQ {S:List bB} {x:Int} (h:x ∈ nG S):∃ i,i < S.length ∧ (el S i).Kind = 1 ∧ (el S i).Day = x:=by
 unfold nG at h
 obtain ⟨y,hy,rfl⟩:=List.mem_map.1 h
 obtain ⟨hy,hk⟩:=List.mem_filter.1 hy
 obtain ⟨i,hi,rfl⟩:=B4 hy
 exact ⟨i,hi,of_decide_eq_true hk,rfl⟩
theorem YR {S:List aO} {i:Nat} (hi:i < S.length) (hk:(el S i).Kind = 1):(el S i).Day ∈ kP S:=List.mem_map.2 ⟨_,List.mem_filter.2 ⟨F3 S i hi,decide_eq_true hk⟩,rfl⟩
theorem XQ {S:List bB} {i:Nat} (hi:i < S.length) (hk:(el S i).Kind = 1):(el S i).Day ∈ nG S:=List.mem_map.2 ⟨_,List.mem_filter.2 ⟨F3 S i hi,decide_eq_true hk⟩,rfl⟩
section
variable {r:aA} {f:aB} (h:yK r f = 0) (hb:0 ≤ f.Bill.Day)
include h hb
theorem KQ:∀ x ∈ kP f.Signs ++ nG f.Acts,0 ≤ x:=by
 obtain ⟨_,h2,h3,h4,h5,h6,h7⟩:=oU.1 h
 intro x hx
 rcases List.mem_append.1 hx with q | q
 ·obtain ⟨i,hi,_,rfl⟩:=M0 q
  exact aC4 h4 hb i hi
 ·obtain ⟨i,hi,_,rfl⟩:=MQ q
  exact OJ h6 hb i hi
theorem aFE (d:Int):eZ (mV f d) = if eZ f = -1 ∨ eZ f > d then -1 else eZ f:=by
 obtain ⟨_,h2,h3,h4,h5,h6,h7⟩:=oU.1 h
 have hS:=GB h4
 have hA:=MJ h6
 unfold eZ
 show (if f.Bill.Tenor.Kind = 0 then ((DV f.Acts d).findSome? oM).getD (-1) else if f.Bill.Tenor.Kind = 1 then LG (kP (wU f.Signs d) ++ nG (DV f.Acts d)) else -1) = _
 by_cases k0:f.Bill.Tenor.Kind = 0
 ·simp only [if_pos k0]
  unfold DV
  rw [JH d f.Acts hA]
  cases e:f.Acts.findSome? oM with
  | none=>rfl
  | some y =>
   obtain ⟨z,hz,hy⟩:=List.exists_of_findSome?_eq_some e
   obtain ⟨i,hi,rfl⟩:=B4 hz
   have hp:=OJ h6 hb i hi
   unfold oM at hy
   split at hy
   ·cases hy
    simp only [Option.bind_some,Option.getD_some]
    by_cases q:(el f.Acts i).Day ≤ d
    ·rw [if_pos q,if_neg (by omega)]; rfl
    ·rw [if_neg q,if_pos (by omega)]; rfl
   ·cases hy
 ·simp only [if_neg k0]
  by_cases k1:f.Bill.Tenor.Kind = 1
  ·simp only [if_pos k1]
   rw [aBA _ _ hS,aCd _ _ hA,← List.filter_append]
   exact RN _ d (KQ h hb)
  ·simp only [if_neg k1]
   simp
def XA (f:aB) (a:bB):Bool:=decide (f.Bill.Tenor.Kind = 0 ∧ a.Kind = 2 ∨ f.Bill.Tenor.Kind = 1 ∧ a.Kind = 1)
def goS (f:aB) (s:aO):Bool:=decide (f.Bill.Tenor.Kind = 1 ∧ s.Kind = 1)
theorem aAl (i:Nat) (hi:i < f.Acts.length) (hg:XA f (el f.Acts i) = true):eZ f ≠ -1 ∧ eZ f ≤ (el f.Acts i).Day:=by
 obtain ⟨_,h2,h3,h4,h5,h6,h7⟩:=oU.1 h
 have hA:=MJ h6
 unfold eZ
 rcases of_decide_eq_true hg with ⟨k,q⟩ | ⟨k,q⟩
 ·rw [if_pos k,← HR oM f.Acts]
  cases e:h9 (fun i=>oM (el f.Acts i)) 0 f.Acts.length with
  | none =>
   have:=(kU _ _).1 e i (Nat.zero_le _) (by omega)
   unfold oM at this
   rw [if_pos q] at this
   cases this
  | some y =>
   obtain ⟨j,_,hj,hy,hl⟩:=qX _ _ e
   have hji:j ≤ i:=by
    apply Classical.byContradiction
    intro hn
    have:=hl i (Nat.zero_le _) (by omega)
    unfold oM at this
    rw [if_pos q] at this
    cases this
   have hp:=OJ h6 hb j (by omega)
   have hm:=hA i j hji hi
   unfold oM at hy
   split at hy
   ·cases hy
    show (el f.Acts j).Day ≠ -1 ∧ (el f.Acts j).Day ≤ _
    omega
   ·cases hy
 ·rw [if_neg (by omega),if_pos k]
  have hmem:(el f.Acts i).Day ∈ kP f.Signs ++ nG f.Acts:=List.mem_append.2 (.inr (XQ hi q))
  obtain ⟨m1,m2⟩:=AJ (List.ne_nil_of_mem hmem)
  have:=KQ h hb _ m1
  exact ⟨by omega,m2 _ hmem⟩
theorem ZW (i:Nat) (hi:i < f.Signs.length) (hg:goS f (el f.Signs i) = true):eZ f ≠ -1 ∧ eZ f ≤ (el f.Signs i).Day:=by
 unfold eZ
 obtain ⟨k,q⟩:=of_decide_eq_true hg
 rw [if_neg (by omega),if_pos k]
 have hmem:(el f.Signs i).Day ∈ kP f.Signs ++ nG f.Acts:=List.mem_append.2 (.inl (YR hi q))
 obtain ⟨m1,m2⟩:=AJ (List.ne_nil_of_mem hmem)
 have:=KQ h hb _ m1
 exact ⟨by omega,m2 _ hmem⟩
omit h hb in
theorem U8:(((eZ f == -1) || (f.Acts.any fun a=>XA f a && a.Day == eZ f)) || (f.Signs.any fun s=>goS f s && s.Day == eZ f)) = true:=by
 by_cases e:eZ f = -1
 ·simp [e]
 ·have key:(∃ a ∈ f.Acts,XA f a = true ∧ a.Day = eZ f) ∨ ∃ s ∈ f.Signs,goS f s = true ∧ s.Day = eZ f:=by
   unfold eZ at e ⊢
   by_cases k0:f.Bill.Tenor.Kind = 0
   ·rw [if_pos k0] at e ⊢
    cases q:f.Acts.findSome? oM with
    | none=>rw [q] at e; exact absurd rfl e
    | some y =>
     obtain ⟨z,hz,hy⟩:=List.exists_of_findSome?_eq_some q
     unfold oM at hy
     split at hy
     ·rename_i kz
      cases hy
      exact .inl ⟨z,hz,decide_eq_true (.inl ⟨k0,kz⟩),rfl⟩
     ·cases hy
   ·rw [if_neg k0] at e ⊢
    by_cases k1:f.Bill.Tenor.Kind = 1
    ·rw [if_pos k1] at e ⊢
     have hn:kP f.Signs ++ nG f.Acts ≠ []:=by
      intro z
      rw [z] at e
      exact e rfl
     have hm:=(AJ hn).1
     rcases List.mem_append.1 hm with z | z
     ·obtain ⟨i,hi,hk,hd⟩:=M0 z
      exact .inr ⟨_,F3 _ i hi,decide_eq_true ⟨k1,hk⟩,hd⟩
     ·obtain ⟨i,hi,hk,hd⟩:=MQ z
      exact .inl ⟨_,F3 _ i hi,decide_eq_true (.inr ⟨k1,hk⟩),hd⟩
    ·rw [if_neg k1] at e; exact absurd rfl e
  rcases key with ⟨a,ha,hg,hd⟩ | ⟨s,hs,hg,hd⟩
  ·have:(f.Acts.any fun a=>XA f a && a.Day == eZ f) = true:=List.any_eq_true.2 ⟨a,ha,by rw [hg,hd]; simp⟩
   rw [this]; simp
  ·have:(f.Signs.any fun s=>goS f s && s.Day == eZ f) = true:=List.any_eq_true.2 ⟨s,hs,by rw [hg,hd]; simp⟩
   rw [this]; simp
theorem aGC (p:Bool) (hl:f.Acts.length ≤ 110):fG f true (eZ f) p 0 = some (.inl (p || f.Acts.any fun a=>XA f a && a.Day == eZ f)):=by
 have:=fB (step:=fun w:Bool × Int=>cZ f true (eZ f) w.1 w.2) (fun i=>(p || (f.Acts.take i).any fun a=>XA f a && a.Day == eZ f,(i:Int))) f.Acts.length (.inl (p || f.Acts.any fun a=>XA f a && a.Day == eZ f)) (by
  intro i hi
  have hg:=aAl h hb i hi
  have hj:∀ q,XA f (el f.Acts i) = true→cE f (i:Int) true (eZ f) (el f.Acts i) q = some (.inl ()):=by
   intro q z
   obtain ⟨g1,g2⟩:=hg z
   unfold cE
   rw [if_neg (by simpa using g1),if_neg (by simp; omega)]
  simp only [cZ,mN hi,if_true,eQ _ _ hi,Option.bind_some,b9 (show i < 9223372036854775807 by omega),QE _ _ _ hi,beq_iff_eq]
  generalize (f.Acts.take i).any (fun a=>XA f a && a.Day == eZ f) = y
  by_cases k0:f.Bill.Tenor.Kind = 0
  ·by_cases k2:(el f.Acts i).Kind = 2
   ·have hk:XA f (el f.Acts i) = true:=decide_eq_true (.inl ⟨k0,k2⟩)
    rw [if_pos k0,if_pos k2,hk]
    simp only [hj _ hk,Option.bind_some,Sum.elim_inl]
    cases p <;> cases y <;> simp
   ·have hk:XA f (el f.Acts i) = false:=decide_eq_false (by omega)
    rw [if_pos k0,if_neg k2,if_neg (by omega),hk]
    simp
  ·rw [if_neg k0]
   by_cases k1:f.Bill.Tenor.Kind = 1
   ·by_cases k2:(el f.Acts i).Kind = 1
    ·have hk:XA f (el f.Acts i) = true:=decide_eq_true (.inr ⟨k1,k2⟩)
     rw [if_pos k1,if_pos k2,hk]
     simp only [hj _ hk,Option.bind_some,Sum.elim_inl]
     cases p <;> cases y <;> simp
    ·have hk:XA f (el f.Acts i) = false:=decide_eq_false (by omega)
     rw [if_pos k1,if_neg k2,hk]
     simp
   ·have hk:XA f (el f.Acts i) = false:=decide_eq_false (by omega)
    rw [if_neg k1,hk]
    simp) (by
  simp only [cZ,oF,if_false,List.take_length])
 simpa [fG] using this
theorem aE0 (p:Bool) (hl:f.Signs.length ≤ 50):fH f true (eZ f) p 0 = some (.inl (p || f.Signs.any fun a=>goS f a && a.Day == eZ f)):=by
 have:=fB (step:=fun w:Bool × Int=>dC f true (eZ f) w.1 w.2) (fun i=>(p || (f.Signs.take i).any fun a=>goS f a && a.Day == eZ f,(i:Int))) f.Signs.length (.inl (p || f.Signs.any fun a=>goS f a && a.Day == eZ f)) (by
  intro i hi
  have hg:=ZW h hb i hi
  have hj:∀ q,goS f (el f.Signs i) = true→dY f (i:Int) true (eZ f) q = some (.inl ()):=by
   intro q z
   obtain ⟨g1,g2⟩:=hg z
   unfold dY
   rw [if_neg (by simpa using g1),eQ _ _ hi,Option.bind_some,if_neg (by simp; omega)]
  simp only [dC,mN hi,if_true,eQ _ _ hi,Option.bind_some,b9 (show i < 9223372036854775807 by omega),QE _ _ _ hi,beq_iff_eq]
  generalize (f.Signs.take i).any (fun a=>goS f a && a.Day == eZ f) = y
  by_cases k1:f.Bill.Tenor.Kind = 1
  ·by_cases k2:(el f.Signs i).Kind = 1
   ·have hk:goS f (el f.Signs i) = true:=decide_eq_true ⟨k1,k2⟩
    rw [if_pos k1,if_pos k2,hk]
    simp only [hj _ hk,Option.bind_some,Sum.elim_inl]
    cases p <;> cases y <;> simp
   ·have hk:goS f (el f.Signs i) = false:=decide_eq_false (by omega)
    rw [if_pos k1,if_neg k2,hk]
    simp
  ·have hk:goS f (el f.Signs i) = false:=decide_eq_false (by omega)
   rw [if_neg k1,hk]
   simp) (by
  simp only [dC,oF,if_false,List.take_length])
 simpa [fH] using this
end
theorem SC (hs:eW = some true) (r:aA) (f:aB) (d:Int) (w:aA.wf r):gC r f d = some true:=by
 unfold gC
 obtain ⟨x,hb,hr⟩:=PX r
 rw [hs,Option.bind_some,hb,Option.bind_some]
 cases x with
 | false=>rfl
 | true =>
  have bg:=(hr rfl).big
  rw [if_neg (by simp),PN,Option.bind_some]
  cases hd:decide (f.Signs.length ≤ 50 ∧ f.Alters.length ≤ 10 ∧ f.Acts.length ≤ 110 ∧ f.Facts.length ≤ 220) with
  | false=>rfl
  | true =>
   obtain ⟨f1,f2,f3,f4⟩:=Q3 hd
   obtain ⟨a1,a2,a3,a4⟩:=I0 f d
   rw [if_neg (by simp),GQ r f bg w,Option.bind_some]
   by_cases h0:yK r f = 0
   ·have hday:=(aC9 bg w (oU.1 h0).2.1).1
    have j5:dL f true (eZ f) = some true:=by
     unfold dL
     rw [aGC h0 hday _ f3,Option.bind_some,Sum.elim_inl,aE0 h0 hday _ f1,Option.bind_some,Sum.elim_inl,if_pos rfl,U8]
    rw [if_neg (by simp [h0]),WG f (by omega) (by omega),Option.bind_some,A7 f d (by omega) (by omega) (by omega) (by omega),Option.bind_some,WG (mV f d) (by omega) (by omega),Option.bind_some,aFE h0 hday d,j5]
    by_cases e:eZ f = -1
    ·rw [if_pos (by simp [e]),if_neg (by simp [e])]; rfl
    ·rw [if_neg (by simpa using e)]
     by_cases q:eZ f > d
     ·rw [if_pos (decide_eq_true q),if_neg (by simp [q])]; rfl
     ·rw [if_neg (fun z=>q (of_decide_eq_true z)),if_neg (by simp [e,q])]; rfl
   ·rw [if_pos (by simpa using h0)]
end Go.Proofs.Ytfhebiceipgdmaa
