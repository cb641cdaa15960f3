/- The laws of layer 14: RecordTells, RecordFacts, RecordVars. -/
import Derived.Test.YtfhebiceipgdmaaPRec14c
set_option linter.unusedVariables false
set_option linter.unusedSimpArgs false
namespace Go.Proofs.Ytfhebiceipgdmaa
open Go.RowKit Vm
theorem few14_of {f:GFile} (h:decide (f.Signs.length ≤ 50 ∧ f.Alters.length ≤ 10 ∧ f.Acts.length ≤ 110 ∧ f.Facts.length ≤ 220) = true):Few14 f:=by
 have q:=of_decide_eq_true h
 exact ⟨q.1,q.2.1,q.2.2.1,q.2.2.2⟩
theorem upS_le (S:List GSign) (d:Int):(upS S d).length ≤ S.length:=whole_le _ _
theorem upA_le (A:List GAct) (d:Int):(upA A d).length ≤ A.length:=whole_le _ _
theorem altOf_le (L:List GAlter) (n:Nat):(altOf L n).length ≤ L.length:=List.length_filter_le _ _
theorem factsOf_le (F:List GFact) (n:Nat):(factsOf F n).length ≤ F.length:=List.length_filter_le _ _
theorem vars_len (r:GRealm) (c:GCase):(varsOf r c).length ≤ 20:=by
 unfold varsOf
 split
 ·exact Nat.le_refl 20
 ·exact Nat.zero_le _
theorem law14_tells (hs:mallongelaw14_sane = some true) (r:GRealm) (c:GCase) (day kind at_:Int):mallongelaw14_RecordTells r c day kind at_ = some true:=by
 unfold mallongelaw14_RecordTells
 obtain ⟨b,hb,hr⟩:=few_spec r
 rw [hs,Option.bind_some,hb,Option.bind_some]
 cases b with
 | false=>rfl
 | true =>
  have f9:=hr rfl
  rw [if_neg (by simp),few14_eq,Option.bind_some]
  cases hd:decide (c.File.Signs.length ≤ 50 ∧ c.File.Alters.length ≤ 10 ∧ c.File.Acts.length ≤ 110 ∧ c.File.Facts.length ≤ 220) with
  | false=>rfl
  | true =>
   obtain ⟨f1,f2,f3,f4⟩:=few14_of hd
   have b1:=upS_le c.File.Signs day
   have b2:=upA_le c.File.Acts day
   have b3:=altOf_le c.File.Alters (upS c.File.Signs day).length
   have b4:=factsOf_le c.File.Facts (upS c.File.Signs day).length
   have hc:r.Cities.length < 1000000:=by have:=f9.cit; omega
   rw [if_neg (by simp),seen_eq _ (by omega) (by omega),ref_seen_eq _ (by omega) (by omega),Option.bind_some,Option.bind_some,if_neg (by simp),fact_eq _ _ _ (by omega),ref_fact_eq _ _ _ (by omega),Option.bind_some,Option.bind_some,if_neg (by simp),if_pos rfl,at_eq14 _ _ (by omega) (by omega) (by omega) (by omega),ref_at_eq _ _ (by omega) (by omega) (by omega) (by omega),Option.bind_some,Option.bind_some,same_refl _ (by show (upS _ _).length < _; omega) (by show (upA _ _).length < _; omega) (by show (altOf _ _).length < _; omega) (by show (factsOf _ _).length < _; omega),Option.bind_some,if_pos rfl,vars_eq r c (by omega) (by omega),ref_vars_eq r c (by omega) (by omega) hc,Option.bind_some,Option.bind_some,cells_refl _ (by have:=vars_len r c; omega)]
   rfl
instance:DecidableEq GCell:=fun a b=>decidable_of_iff (a.Known = b.Known ∧ a.N = b.N) (by obtain ⟨a,n⟩:=a; obtain ⟨b,m⟩:=b; simp)
theorem eqC_iff (a b:GCell):((a.Known == b.Known) && (a.N == b.N)) = decide (a = b):=by
 obtain ⟨a,n⟩:=a; obtain ⟨b,m⟩:=b
 by_cases h:a = b <;> by_cases h' : n = m <;> simp [h,h']
theorem law14_facts (hs:mallongelaw14_sane = some true) (f:GFile) (x:GFact) (kind at_:Int):mallongelaw14_RecordFacts f x kind at_ = some true:=by
 unfold mallongelaw14_RecordFacts
 rw [hs,Option.bind_some,few14_eq,Option.bind_some]
 cases hd:decide (f.Signs.length ≤ 50 ∧ f.Alters.length ≤ 10 ∧ f.Acts.length ≤ 110 ∧ f.Facts.length ≤ 220) with
 | false=>rfl
 | true =>
  obtain ⟨f1,f2,f3,f4⟩:=few14_of hd
  have key:∀ p,(GCell.mk true p) = cellN x.N→mallongelaw14_RecordFacts_j3 f x kind at_ true p = some true:=by
   intro p hp
   have hj2:mallongelaw14_RecordFacts_j2 f x kind at_ true (factOf f.Facts kind at_) = some true:=by
    unfold mallongelaw14_RecordFacts_j2
    by_cases q:kind = x.Kind ∧ at_ = x.At
    ·rw [if_pos (by simp [q.1]),if_pos (by simp [q.2])]
    ·have hj1:mallongelaw14_RecordFacts_j1 f x kind at_ true (factOf f.Facts kind at_) = some true:=by
      have q' : ¬ (x.Kind = kind ∧ x.At = at_):=fun z=>q ⟨z.1.symm,z.2.symm⟩
      unfold mallongelaw14_RecordFacts_j1
      rw [if_pos rfl,fact_eq _ _ _ (by simp; omega),Option.bind_some,fact_eq _ _ _ (by simp; omega),Option.bind_some]
      simp only [eqC_iff]
      have e1:factOf ([x] ++ f.Facts) kind at_ = factOf f.Facts kind at_:=by
       rw [List.singleton_append,fact_cons,if_neg q']
      have e2:factOf (([]:List GFact) ++ f.Facts ++ [x]) kind at_ = factOf f.Facts kind at_:=by
       rw [List.nil_append,fact_append,fact_cons,if_neg q']
       split
       ·rfl
       ·rename_i hk
        have:=fact_unknown f.Facts kind at_ (by simpa using hk)
        generalize factOf f.Facts kind at_ = y at this hk
        obtain ⟨k,n⟩:=y
        simp only at this hk
        cases k <;> simp_all
        rfl
      rw [if_pos (by simp only [decide_eq_true_eq]; exact e1)]
      exact congrArg some (decide_eq_true e2)
     rw [hj1]
     by_cases q1:kind = x.Kind
     ·by_cases q2:at_ = x.At
      ·exact absurd ⟨q1,q2⟩ q
      ·rw [if_pos (by simp [q1]),if_neg (by simp [q2])]; rfl
     ·rw [if_neg (by simp [q1])]; rfl
   unfold mallongelaw14_RecordFacts_j3
   rw [fact_eq _ _ _ (by omega),Option.bind_some,fact_eq _ _ _ (by omega),Option.bind_some,if_pos (by omega),if_pos (by omega),if_pos (by simp; omega),fact_eq _ _ _ (by simp; omega),Option.bind_some,fact_eq _ _ _ (by simp; omega),Option.bind_some]
   have e1:factOf ([x] ++ f.Facts) x.Kind x.At = cellN x.N:=by
    rw [List.singleton_append,fact_cons,if_pos ⟨rfl,rfl⟩]
   have e2:factOf (([]:List GFact) ++ f.Facts ++ [x]) x.Kind x.At = if (factOf f.Facts x.Kind x.At).Known = true then factOf f.Facts x.Kind x.At else cellN x.N:=by
    rw [List.nil_append,fact_append,fact_cons,if_pos (show x.Kind = x.Kind ∧ x.At = x.At from ⟨rfl,rfl⟩)]
   have hu:=fact_unknown f.Facts x.Kind x.At
   simp only
   rw [e1,e2]
   clear e1 e2
   rw [hj2,← hp]
   generalize factOf f.Facts x.Kind x.At = y at hu
   obtain ⟨k,n⟩:=y
   cases k
   ·have hu:=hu rfl
    simp only at hu
    subst hu
    simp
   ·simp
  by_cases h:x.N = 0
  ·rw [if_neg (by simp),if_pos (by simp [h]),key 0 (by simp [cellN,h])]; rfl
  ·rw [if_neg (by simp),if_neg (by simp [h]),key 1 (by simp [cellN,h])]; rfl
def withF (c:GCase) (F:List GFact):GCase:=GCase.mk (GFile.mk c.File.Bill c.File.Signs c.File.Alters c.File.Acts F) c.Sign c.Holder c.Defence c.Due c.Day
theorem vars_with (r:GRealm) (c:GCase) (F:List GFact):varsOf r (withF c F) = if goodC c then headOf r c (el c.File.Signs c.Sign.toNat) (gapOf c (el c.File.Signs c.Sign.toNat)) ++ tailOf F c.Sign (holdOf c) else []:=rfl
def oddL (c:GCase) (more:List GFact):List GFact:=more.filter fun x=>decide (x.At ≠ c.Sign ∧ x.At ≠ holdOf c)
theorem odd_step (c:GCase) (more:List GFact) (i:Nat) (h:i < more.length):oddL c (more.take (i + 1)) = if (el more i).At ≠ c.Sign ∧ (el more i).At ≠ holdOf c then oddL c (more.take i) ++ [el more i] else oddL c (more.take i):=by
 unfold oddL
 rw [filter_step _ _ _ h]
 simp only [decide_eq_true_eq]
theorem fact_odd (G F:List GFact) (k a:Int) (h:∀ x ∈ G,x.At ≠ a):factOf (G ++ F) k a = factOf F k a:=by
 rw [fact_append,fact_others G k a h]
 rfl
theorem tail_odd (c:GCase) (more F:List GFact):tailOf ((oddL c more).reverse ++ F) c.Sign (holdOf c) = tailOf F c.Sign (holdOf c):=by
 have h1:∀ x ∈ (oddL c more).reverse,x.At ≠ c.Sign:=fun x hx=>(of_decide_eq_true (List.mem_filter.1 (List.mem_reverse.1 hx)).2).1
 have h2:∀ x ∈ (oddL c more).reverse,x.At ≠ holdOf c:=fun x hx=>(of_decide_eq_true (List.mem_filter.1 (List.mem_reverse.1 hx)).2).2
 unfold tailOf
 simp only [fact_odd _ _ _ _ h1,fact_odd _ _ _ _ h2]
def keepC (i:Nat) (x y:GCell):Prop:=(x.Known = true→x = y) ∧ (i < 15→x.Known = true) ∧ (x.Known = false→x.N = 0)
theorem keep_head {x:GCell} (i:Nat) (h:x.Known = true):keepC i x x:=⟨fun _=>rfl,fun _=>h,fun q=>by rw [h] at q; cases q⟩
theorem keep_tail (i:Nat) (hi:15 ≤ i) (F G:List GFact) (k a:Int):keepC i (factOf F k a) (factOf (F ++ G) k a):=by
 refine ⟨fun h=>?_,fun h=>by omega,fun h=>fact_unknown F k a h⟩
 rw [fact_append,if_pos h]
theorem keep_all (r:GRealm) (c:GCase) (x:GSign) (gap:Int) (F G:List GFact) (s h:Int) (i:Nat) (hi:i < 20):keepC i (el (headOf r c x gap ++ tailOf F s h) i) (el (headOf r c x gap ++ tailOf (F ++ G) s h) i):=by
 match i,hi with
 | 0,_=>exact keep_head 0 rfl
 | 1,_=>exact keep_head 1 rfl
 | 2,_=>exact keep_head 2 rfl
 | 3,_=>exact keep_head 3 rfl
 | 4,_=>exact keep_head 4 rfl
 | 5,_=>exact keep_head 5 rfl
 | 6,_=>exact keep_head 6 rfl
 | 7,_=>exact keep_head 7 rfl
 | 8,_=>exact keep_head 8 rfl
 | 9,_=>exact keep_head 9 rfl
 | 10,_=>exact keep_head 10 rfl
 | 11,_=>exact keep_head 11 rfl
 | 12,_=>exact keep_head 12 rfl
 | 13,_=>exact keep_head 13 rfl
 | 14,_=>exact keep_head 14 rfl
 | 15,_=>exact keep_tail 15 (by omega) F G 0 s
 | 16,_=>exact keep_tail 16 (by omega) F G 1 s
 | 17,_=>exact keep_tail 17 (by omega) F G 2 s
 | 18,_=>exact keep_tail 18 (by omega) F G 3 h
 | 19,_=>exact keep_tail 19 (by omega) F G 4 h
 | n + 20,q=>exact absurd q (by omega)
theorem law14_l2 (l m:List GCell) (e:l.length = m.length) (hl:l.length ≤ 20) (h:∀ i,i < l.length→keepC i (el l i) (el m i)):mallongelaw14_RecordVars_l2 true l m 0 = some (.inl ()) :=
 iter_all (step:=fun w=>mallongelaw14_RecordVars_l2_s true l m w) (fun i=>(i:Int)) l.length (.inl ()) (by
  intro i hi
  obtain ⟨h1,h2,h3⟩:=h i hi
  simp only [mallongelaw14_RecordVars_l2_s,lt_t hi,if_true,at_el _ _ hi,at_el m i (by omega),Option.bind_some,wrap_succ (show i < 9223372036854775807 by omega),eqC_iff]
  by_cases hk:(el l i).Known = true
  ·rw [← h1 hk]
   simp [hk]
  ·have hk' : (el l i).Known = false:=by simpa using hk
   have hn:¬ i < 15:=fun q=>hk (h2 q)
   rw [if_neg hk,if_neg (by simp only [decide_eq_true_eq]; omega),if_pos (by simp [hk']),if_neg (by simp [h3 hk'])]) (by
  simp only [mallongelaw14_RecordVars_l2_s,lt_f,if_false])
theorem law14_vars (hs:mallongelaw14_sane = some true) (r:GRealm) (c:GCase) (more:List GFact):mallongelaw14_RecordVars r c more = some true:=by
 unfold mallongelaw14_RecordVars
 obtain ⟨b,hb,hr⟩:=few_spec r
 rw [hs,Option.bind_some,hb,Option.bind_some]
 cases b with
 | false=>rfl
 | true =>
  rw [if_neg (by simp),few14_eq,Option.bind_some]
  cases hd:decide (c.File.Signs.length ≤ 50 ∧ c.File.Alters.length ≤ 10 ∧ c.File.Acts.length ≤ 110 ∧ c.File.Facts.length ≤ 220) with
  | false=>rfl
  | true =>
   obtain ⟨f1,f2,f3,f4⟩:=few14_of hd
   rw [if_neg (by simp)]
   by_cases hm:more.length ≤ 50
   ·rw [if_neg (by simp; omega),vars_eq r c (by omega) (by omega),Option.bind_some,if_pos (by omega),if_pos (by simp; omega),List.nil_append]
    have ey:=vars_eq r (withF c (c.File.Facts ++ more)) (by simp [withF]; omega) (by simp [withF]; omega)
    unfold withF at ey
    rw [ey,Option.bind_some,if_pos (by omega)]
    have hl1:∀ x y z,mallongelaw14_RecordVars_l1 r c more x y z 0 c.File.Facts = some ((oddL c more).reverse ++ c.File.Facts):=by
     intro x y z
     have:=iter_all (step:=fun w:Int × List GFact=>mallongelaw14_RecordVars_l1_s r c more x y z w.1 w.2) (fun i=>((i:Int),(oddL c (more.take i)).reverse ++ c.File.Facts)) more.length ((oddL c more).reverse ++ c.File.Facts) (by
      intro i hi
      have hb:(oddL c (more.take i)).length ≤ more.length:=filter_len _ more i
      simp only [mallongelaw14_RecordVars_l1_s,lt_t hi,if_true,at_el _ _ hi,Option.bind_some,wrap_succ (show i < 9223372036854775807 by omega),odd_step _ _ _ hi,bne_iff_ne,show (if 0 > c.Holder then (0:Int) else c.Holder) = holdOf c from rfl]
      by_cases q1:(el more i).At ≠ c.Sign
      ·by_cases q2:(el more i).At ≠ holdOf c
       ·rw [if_pos q1,if_pos q2,if_pos (by simp; omega),if_pos ⟨q1,q2⟩]
        simp
       ·rw [if_pos q1,if_neg q2,if_neg (fun z=>q2 z.2)]
      ·rw [if_neg q1,if_neg (fun z=>q1 z.1)]) (by
      simp only [mallongelaw14_RecordVars_l1_s,lt_f,if_false,List.take_length])
     exact this
    rw [hl1,Option.bind_some]
    have hb2:(oddL c more).length ≤ more.length:=List.length_filter_le _ _
    have ez:=vars_eq r (withF c ((oddL c more).reverse ++ c.File.Facts)) (by simp [withF]; omega) (by simp [withF]; omega)
    unfold withF at ez
    rw [ez,Option.bind_some]
    change (if (((varsOf r (withF c (c.File.Facts ++ more))).length:Int) != ((varsOf r c).length:Int)) = true then _ else (mallongeref14_SameCells (varsOf r c) (varsOf r (withF c ((oddL c more).reverse ++ c.File.Facts)))).bind _) = _
    have e1:varsOf r (withF c ((oddL c more).reverse ++ c.File.Facts)) = varsOf r c:=by
     rw [vars_with,tail_odd]; rfl
    have e2:(varsOf r c).length = (varsOf r (withF c (c.File.Facts ++ more))).length:=by
     rw [vars_with]
     unfold varsOf
     split <;> rfl
    have hl:=vars_len r c
    have e3:∀ i,i < (varsOf r c).length→keepC i (el (varsOf r c) i) (el (varsOf r (withF c (c.File.Facts ++ more))) i):=by
     intro i hi
     rw [vars_with]
     unfold varsOf at hi ⊢
     by_cases hg:goodC c
     ·rw [if_pos hg] at hi
      rw [if_pos hg,if_pos hg]
      exact keep_all r c _ _ c.File.Facts more c.Sign (holdOf c) i hi
     ·rw [if_neg hg] at hi
      cases hi
    have e4:(varsOf r c).length = 0 ∨ (varsOf r c).length = 20:=by
     unfold varsOf
     split
     ·exact .inr rfl
     ·exact .inl rfl
    rw [e1,cells_refl _ (by omega),if_neg (by rw [e2]; simp),Option.bind_some,if_neg (by simp),show mallongelaw14_RecordVars_l2 true (varsOf r c) (varsOf r (GCase.mk (GFile.mk c.File.Bill c.File.Signs c.File.Alters c.File.Acts (c.File.Facts ++ more)) c.Sign c.Holder c.Defence c.Due c.Day)) 0 = some (.inl ()) from law14_l2 _ _ e2 hl e3,Option.bind_some,Sum.elim_inl,if_pos rfl]
    rcases e4 with e | e
    ·rw [if_pos (by rw [e]; rfl)]
    ·rw [if_neg (by rw [e]; decide),e]; rfl
   ·rw [if_pos (by simp; omega)]
end Go.Proofs.Ytfhebiceipgdmaa
