/- Regions are run. -/
import Derived.Test.YtdjfaepokfdihaaVmReg2
set_option linter.unusedVariables false
namespace Go.Proofs.Ytdjfaepokfdihaa
namespace Vm
open Go.RowKit

def runOpT (C : Nat → List D → Option D) (o : SOper) (s : St) : Option (St × Fp) :=
  match o.wants s.get with
  | .run => match aop C o.site (evo s.get) s.blk o.op with
    | some (v, wr) => some (s.put o.dst v wr, fpOf o s.get s.blk wr)
    | none => none
  | .skip => some (s.put o.dst (.tup []) [], ([], []))
  | .bad => none
def runOpsT (C : Nat → List D → Option D) : List SOper → St → Option (St × List Fp)
  | [], s => some (s, [])
  | o :: r, s => match runOpT C o s with
    | some (s', p) => match runOpsT C r s' with
      | some (s'', ps) => some (s'', p :: ps)
      | none => none
    | none => none
def apartAll (ops : List SOper) (ps : List Fp) (pairs : List (Nat × Nat)) : Bool := pairs.all fun (i, j) => match ops[i]?, ops[j]?, ps[i]?, ps[j]? with
  | some x, some y, some p, some q => ind x y p q
  | _, _, _, _ => false
def runRegion (C : Nat → List D → Option D) (ops : List SOper) (draw : Option (List (Nat × Nat))) (s : St) : Option St := match draw with
  | none => runOps C ops s
  | some pairs => match runOpsT C ops s with
    | some (s', ps) => if apartAll ops ps pairs then some s' else none
    | none => none

theorem lk_append {α : Type} : ∀ (l m : List (Nat × α)) (d : α) (t : Nat), lk (l ++ m) d t = lk l (lk m d t) t
  | [], m, d, t => rfl
  | (k, v) :: l, m, d, t => by simp only [List.cons_append, lk]; rw [lk_append l m d t]
def St.fn (s : St) : Fn := (s.get, s.blk)
theorem put_fn (s : St) (dst : Option Nat) (v : V) (wr : List (Nat × Option Blk)) : (s.put dst v wr).fn = (updF s.get dst v, updB s.blk wr) := by
  unfold St.fn
  congr 1
  · funext t
    cases dst with
    | none => simp [St.get, St.put, updF]
    | some d =>
      simp only [St.get, St.put, updF, lk, Option.some.injEq]
      by_cases e : t = d
      · rw [if_pos e, if_pos e.symm]
      · rw [if_neg e, if_neg fun h => e h.symm]
  · funext i
    simp only [St.blk, St.put, updB, lk_append]
theorem runOpT_step {C : Nat → List D → Option D} {o : SOper} {s s' : St} {p : Fp} (e : runOpT C o s = some (s', p)) : stepF C o s.fn = some (s'.fn, p) := by
  unfold runOpT at e
  unfold stepF
  have e1 : s.fn.1 = s.get := rfl
  have e2 : s.fn.2 = s.blk := rfl
  rw [e1, e2]
  cases hw : o.wants s.get with
  | bad => rw [hw] at e; cases e
  | skip =>
    rw [hw] at e
    cases e
    rw [put_fn]
    rfl
  | run =>
    rw [hw] at e
    simp only at e ⊢
    cases ha : aop C o.site (evo s.get) s.blk o.op with
    | none => rw [ha] at e; cases e
    | some r =>
      obtain ⟨v, wr⟩ := r
      rw [ha] at e
      cases e
      simp only
      rw [put_fn]
theorem runOp_T {C : Nat → List D → Option D} {o : SOper} {s s' : St} (e : runOp C o s = some s') : ∃ p, runOpT C o s = some (s', p) := by
  unfold runOp at e
  unfold runOpT
  cases hw : o.wants s.get with
  | bad => rw [hw] at e; cases e
  | skip => rw [hw] at e; cases e; exact ⟨_, rfl⟩
  | run =>
    rw [hw] at e
    simp only at e ⊢
    cases ha : aop C o.site (evo s.get) s.blk o.op with
    | none => rw [ha] at e; cases e
    | some r =>
      obtain ⟨v, wr⟩ := r
      rw [ha] at e
      cases e
      exact ⟨_, rfl⟩
theorem runOps_T {C : Nat → List D → Option D} : ∀ {l : List SOper} {s s' : St}, runOps C l s = some s' → ∃ ps, runOpsT C l s = some (s', ps)
  | [], s, s', e => by simp only [runOps, Option.some.injEq] at e; subst e; exact ⟨[], rfl⟩
  | o :: l, s, s', e => by
    simp only [runOps] at e
    split at e
    · rename_i s1 h1
      obtain ⟨p, hp⟩ := runOp_T h1
      obtain ⟨ps, hps⟩ := runOps_T e
      exact ⟨p :: ps, by simp only [runOpsT, hp, hps]⟩
    · cases e
theorem runOpsT_len {C : Nat → List D → Option D} : ∀ {l : List SOper} {s s' : St} {ps : List Fp}, runOpsT C l s = some (s', ps) → ps.length = l.length
  | [], s, s', ps, e => by simp only [runOpsT, Option.some.injEq, Prod.mk.injEq] at e; rw [← e.2]; rfl
  | o :: l, s, s', ps, e => by
    simp only [runOpsT] at e
    split at e
    · split at e
      · rename_i h2
        cases e
        simp [runOpsT_len h2]
      · cases e
    · cases e
theorem runOpsT_steps {C : Nat → List D → Option D} (L : List SOper) (fp : Nat → Fp) : ∀ {l : List SOper} {k : Nat} {s s' : St} {ps : List Fp}, (∀ i, l[i]? = L[k + i]?) → (∀ i, i < l.length → fp (k + i) = ps.getD i ([], [])) → runOpsT C l s = some (s', ps) → Steps C L fp ((List.range l.length).map (k + ·)) s.fn s'.fn
  | [], k, s, s', ps, _, _, e => by simp only [runOpsT, Option.some.injEq, Prod.mk.injEq] at e; rw [← e.1]; rfl
  | o :: l, k, s, s', ps, hl, hf, e => by
    simp only [runOpsT] at e
    split at e
    · rename_i s1 p h1
      split at e
      · rename_i s2 ps' h2
        cases e
        rw [List.length_cons, List.range_succ_eq_map, List.map_cons, List.map_map]
        refine ⟨o, s1.fn, by have := hl 0; simpa using this.symm, ?_, ?_⟩
        · have := hf 0 (by simp)
          simp only [List.getD_cons_zero, Nat.add_zero] at this ⊢
          rw [this]
          exact runOpT_step h1
        · have := runOpsT_steps L fp (k := k + 1) (fun i => by have := hl (i + 1); simpa [Nat.add_assoc, Nat.add_comm 1 i] using this) (fun i hi => by
            have := hf (i + 1) (by simp; omega)
            rw [show k + 1 + i = k + (i + 1) by omega]
            simpa using this) h2
          have e2 : ((k + ·) ∘ Nat.succ) = (k + 1 + ·) := by funext i; simp; omega
          rw [e2]
          exact this
      · cases e
    · cases e

section
variable {P : Program} {nt : Nat} {w0 w : World} {h0 h : Hp} {fr : Nat → V} {bl : Nat → Option Blk} {a : Act} {hd : Nat → Value} {C : Nat → List D → Option D}

theorem wantG_run {v : V} {b : Bool} (e : wantG v b = .run) : v = .d (.bool b) := by
  cases v with
  | d x => cases x with
    | bool c => cases c <;> cases b <;> simp [wantG] at e <;> rfl
    | _ => simp [wantG] at e
  | tup vs => cases vs <;> simp [wantG] at e
  | _ => simp [wantG] at e
theorem wantG_skip {v : V} {b : Bool} (e : wantG v b = .skip) : (∃ c, v = .d (.bool c) ∧ c ≠ b) ∨ v = .tup [] := by
  cases v with
  | d x => cases x with
    | bool c => exact .inl ⟨c, rfl, by rintro rfl; cases c <;> simp [wantG] at e⟩
    | _ => simp [wantG] at e
  | tup vs => cases vs with
    | nil => exact .inr rfl
    | cons x l => simp [wantG] at e
  | _ => simp [wantG] at e
theorem undef_tup {h : Hp} {hd : Nat → Value} {bl : Nat → Option Blk} : R3 h hd bl undef (.tup []) := ⟨#[], rfl, rfl, fun j x hx => by simp at hx⟩
theorem guard_ok (r : Rl nt w0 h0 fr bl a w h hd) {ops : Array Oper} {o : Oper} {so : SOper} (hlow : lowOper P nt ops o = some so) :
    so.op = lowOp P o ∧ so.dst = o.dst ∧ (∀ d, o.dst = some d → d < nt) ∧ (so.wants fr = .run → Region.wanted o (yielded ops a.tmps) = true) ∧ (so.wants fr = .skip → Region.wanted o (yielded ops a.tmps) = false) := by
  unfold lowOper at hlow
  · split at hlow
    · rename_i hd
      have hdst : ∀ d, o.dst = some d → d < nt := fun d e => by rw [e] at hd; simpa [dstOk] using hd
      split at hlow
      · rename_i hg
        cases hlow
        exact ⟨rfl, rfl, hdst, fun _ => by simp [Region.wanted, hg], fun h => by simp [SOper.wants] at h⟩
      · rename_i j b hg
        split at hlow
        · rename_i t ht
          cases hlow
          have hy : ∀ c, fr t = .d (.bool c) → yielded ops a.tmps j = some c := by
            intro c hc
            have := r.frame t
            rw [hc] at this
            have hv := inv_bool this
            have : a.tmps[t]? = some (.bool c) := by
              simp only [Array.getD_eq_getD_getElem?] at hv
              cases hq : a.tmps[t]? with
              | none => rw [hq] at hv; cases hv
              | some u => rw [hq] at hv; simpa using hv
            simp [yielded, ht, this]
          refine ⟨rfl, rfl, hdst, fun hw => ?_, fun hw => ?_⟩
          · simp only [SOper.wants] at hw
            simp [Region.wanted, hg, hy _ (wantG_run hw)]
          · simp only [SOper.wants] at hw
            rcases wantG_skip hw with ⟨c, hc, hne⟩ | hu
            · simp [Region.wanted, hg, hy _ hc, hne]
            · have h3 := r.frame t
              rw [hu] at h3
              obtain ⟨arr, e1, e2, _⟩ := h3
              have e3 : arr = #[] := by simpa using e2
              have hn : yielded ops a.tmps j = none := by
                simp only [yielded, ht, Option.bind_some]
                cases hq : a.tmps[t]? with
                | none => rfl
                | some u =>
                  have : u = .tuple #[] := by
                    simp only [Array.getD_eq_getD_getElem?, hq, Option.getD_some] at e1
                    rw [e1, e3]
                  subst this
                  rfl
              simp [Region.wanted, hg, hn]
        · cases hlow
    · cases hlow

theorem wpOp_ok (hC : ∀ f ds x, C f ds = some x → Sound P f ds x) (r : Rl nt w0 h0 fr bl a w h hd) {ops : Array Oper} {i : Nat} {o : Oper} {so : SOper} (ho : ops[i]? = some o) (hlow : lowOper P nt ops o = some so) {s' : Fn} {p : Fp} (hs : stepF C so (fr, bl) = some (s', p))
    {K : Act → World → Prop} {Q : Exit → Act → World → Prop} (hK : ∀ a' w' h' hd', Rl nt w0 h0 s'.1 s'.2 a' w' h' hd' → K a' w') : wpOp P ops Q i K a w := by
  obtain ⟨g1, g2, g3, g4, g5⟩ := guard_ok r hlow
  unfold wpOp
  rw [ho]
  simp only
  simp only [stepF] at hs
  cases hw : so.wants fr with
  | bad => rw [hw] at hs; cases hs
  | skip =>
    rw [hw] at hs
    rw [if_neg (by rw [g5 hw]; simp)]
    cases hs
    refine hK _ _ h hd ?_
    rw [g2]
    exact r.put0 o.dst undef (.tup []) g3 undef_tup
  | run =>
    rw [hw] at hs
    rw [if_pos (g4 hw)]
    refine .inl ?_
    simp only at hs
    cases ha : aop C so.site (evo fr) bl so.op with
    | none => rw [ha] at hs; cases hs
    | some q =>
      obtain ⟨v, wr⟩ := q
      rw [ha] at hs
      cases hs
      rw [g1] at ha
      refine op_ok hC r o g3 ha fun a' w' h' hd' hr => hK a' w' h' hd' ?_
      rw [g2]
      exact hr

theorem wpOps_ok (hC : ∀ f ds x, C f ds = some x → Sound P f ds x) {ops : Array Oper} {l : List SOper} (hlow : mapM' (lowOper P nt ops) ops.toList = some l) (fp : Nat → Fp) {Q : Exit → Act → World → Prop} {s' : Fn} (hQ : ∀ a' w' h' hd', Rl nt w0 h0 s'.1 s'.2 a' w' h' hd' → Q .normal a' w') :
    ∀ (L : List Nat) (s : Fn) (a : Act) (w : World) (h : Hp) (hd : Nat → Value), Rl nt w0 h0 s.1 s.2 a w h hd → Steps C l fp L s s' → wpOps P ops Q L a w
  | [], s, a, w, h, hd, r, hs => by simp only [Steps] at hs; subst hs; exact hQ _ _ _ _ r
  | i :: L, s, a, w, h, hd, r, hs => by
    obtain ⟨so, s1, ho, hst, hr⟩ := hs
    obtain ⟨o, q1, q2⟩ := mapM'_back hlow ho
    rw [wpOps_cons]
    exact wpOp_ok hC r (by simpa using q1) q2 hst fun a' w' h' hd' r' => wpOps_ok hC hlow fp hQ L s1 a' w' h' hd' r' hr

/-! ### orders -/
theorem ancs_step (acc : List Nat) : ∀ (l : List Oper), ∃ r, l.foldl (fun acc o => acc ++ [(o.after.toList.filter (Region.binds .any)).foldl (fun s e => s ||| 2 ^ e.on ||| acc.getD e.on 0) 0]) acc = acc ++ r ∧ r.length = l.length
  | [] => ⟨[], by simp⟩
  | o :: l => by
    obtain ⟨r, h1, h2⟩ := ancs_step (acc ++ [(o.after.toList.filter (Region.binds .any)).foldl (fun s e => s ||| 2 ^ e.on ||| acc.getD e.on 0) 0]) l
    exact ⟨_ :: r, by simp only [List.foldl_cons]; rw [h1, List.append_assoc]; rfl, by simp [h2]⟩
theorem bits_fold (acc : List Nat) (j : Nat) : ∀ (l : List Edge) (s : Nat), (l.foldl (fun s e => s ||| 2 ^ e.on ||| acc.getD e.on 0) s).testBit j = true → s.testBit j = true ∨ ∃ e ∈ l, j = e.on ∨ (acc.getD e.on 0).testBit j = true
  | [], s, h => .inl h
  | e :: l, s, h => by
    simp only [List.foldl_cons] at h
    rcases bits_fold acc j l _ h with q | ⟨e', h1, h2⟩
    · rw [Nat.testBit_or, Nat.testBit_or, Bool.or_eq_true, Bool.or_eq_true] at q
      rcases q with (q | q) | q
      · exact .inl q
      · rw [Nat.testBit_two_pow] at q
        exact .inr ⟨e, by simp, .inl (of_decide_eq_true q).symm⟩
      · exact .inr ⟨e, by simp, .inr q⟩
    · exact .inr ⟨e', by simp [h1], h2⟩
theorem ancs_get (l : List Oper) (hok : okAfter l = true) {i : Nat} {o : Oper} (ho : l[i]? = some o) : ∀ j, ((ancs l).getD i 0).testBit j = true → ∃ e ∈ o.after, Region.binds .any e = true ∧ (j = e.on ∨ ((ancs l).getD e.on 0).testBit j = true) := by
  have hi : i < l.length := (List.getElem?_eq_some_iff.1 ho).1
  have hsplit : l = l.take i ++ o :: l.drop (i + 1) := by
    have : l[i] = o := (List.getElem?_eq_some_iff.1 ho).2
    rw [← this]; simp
  obtain ⟨r1, g1, g2⟩ := ancs_step [] (l.take i)
  simp only [List.nil_append] at g1
  have hlen : r1.length = i := by rw [g2, List.length_take]; omega
  obtain ⟨r2, g3, g4⟩ := ancs_step (r1 ++ [(o.after.toList.filter (Region.binds .any)).foldl (fun s e => s ||| 2 ^ e.on ||| r1.getD e.on 0) 0]) (l.drop (i + 1))
  have hanc : ancs l = r1 ++ [(o.after.toList.filter (Region.binds .any)).foldl (fun s e => s ||| 2 ^ e.on ||| r1.getD e.on 0) 0] ++ r2 := by
    unfold ancs
    rw [← g3]
    conv => lhs; rw [hsplit]
    rw [List.foldl_append, List.foldl_cons, g1]
  have hat : (ancs l).getD i 0 = (o.after.toList.filter (Region.binds .any)).foldl (fun s e => s ||| 2 ^ e.on ||| r1.getD e.on 0) 0 := by
    rw [hanc, List.append_assoc]
    simp [List.getD, hlen]
  intro j hj
  rw [hat] at hj
  rcases bits_fold r1 j _ 0 hj with q | ⟨e, he, hje⟩
  · simp at q
  obtain ⟨he1, he2⟩ := List.mem_filter.1 he
  refine ⟨e, by simpa using he1, he2, ?_⟩
  rcases hje with q | q
  · exact .inl q
  · refine .inr ?_
    have hlt : e.on < i := by
      have := List.all_eq_true.1 hok (o, i) (by
        rw [List.mem_iff_getElem?]; exact ⟨i, by simp [ho]⟩)
      simp only at this
      have h3 := Array.all_eq_true_iff_forall_mem.1 this e (by simpa using he1)
      simpa [he2] using h3
    rw [hanc, List.append_assoc]
    have : r1.getD e.on 0 = (r1 ++ ([(o.after.toList.filter (Region.binds .any)).foldl (fun s e => s ||| 2 ^ e.on ||| r1.getD e.on 0) 0] ++ r2)).getD e.on 0 := by
      simp only [List.getD_eq_getElem?_getD]
      rw [List.getElem?_append_left (by omega)]
    rw [← this]
    exact q

theorem wpAny_ok (hC : ∀ f ds x, C f ds = some x → Sound P f ds x) {ops : Array Oper} {l : List SOper} (hlow : mapM' (lowOper P nt ops) ops.toList = some l) (hok : okAfter ops.toList = true) (fp : Nat → Fp) (hind : ∀ p ∈ loose ops.toList, Ind l fp p.1 p.2)
    {Q : Exit → Act → World → Prop} {s' : Fn} (hQ : ∀ a' w' h' hd', Rl nt w0 h0 s'.1 s'.2 a' w' h' hd' → Q .normal a' w') :
    ∀ (fuel : Nat) (M : List Nat) (listed : Array Bool) (s : Fn) (a : Act) (w : World) (h : Hp) (hd : Nat → Value), M.length = fuel → M.Pairwise (· < ·) → listed.size = ops.size → (∀ i, i ∈ M ↔ i < ops.size ∧ listed.getD i true = false) →
      (∀ k, listed.getD k false = true → ∀ j, ((ancs ops.toList).getD k 0).testBit j = true → listed.getD j false = true) →
      Rl nt w0 h0 s.1 s.2 a w h hd → Steps C l fp M s s' → wpAny P .any ops Q fuel listed a w := by
  have hsz : ∀ {i : Nat}, i < ops.size → ∃ o, ops[i]? = some o := fun {i} hi => ⟨ops[i]'hi, by simp [hi]⟩
  intro fuel
  induction fuel with
  | zero =>
    intro M listed s a w h hd hl hp hs hM hdc r hst
    have : M = [] := List.eq_nil_of_length_eq_zero hl
    subst this
    simp only [Steps] at hst
    subst hst
    refine ⟨?_, hQ _ _ _ _ r⟩
    apply List.eq_nil_iff_forall_not_mem.2
    intro i hi
    obtain ⟨h1, o, h2, _⟩ := mem_ready.1 hi
    have := (hM i).2 ⟨(Array.getElem?_eq_some_iff.1 h2).1, h1⟩
    cases this
  | succ fuel ih =>
    intro M listed s a w h hd hl hp hs hM hdc r hst
    have listed_of : ∀ j, j < ops.size → j ∉ M → listed.getD j false = true := by
      intro j hj hn
      have : listed.getD j true ≠ false := fun q => hn ((hM j).2 ⟨hj, q⟩)
      have hjl : j < listed.size := by omega
      simp only [Array.getD_eq_getD_getElem?] at this ⊢
      simp [hjl] at this ⊢
      exact this
    refine ⟨fun hnil => ?_, fun i hi => ?_⟩
    · -- the least one is ready
      exfalso
      match M, hl with
      | m :: M', _ =>
        have hm := (hM m).1 (by simp)
        obtain ⟨o, ho⟩ := hsz hm.1
        have : m ∈ Region.ready .any ops listed := by
          refine mem_ready.2 ⟨hm.2, o, ho, fun e he hb => ?_⟩
          have hlt : e.on < m := by
            have h4 := List.all_eq_true.1 hok (o, m) (by
              rw [List.mem_iff_getElem?]; exact ⟨m, by simp [ho]⟩)
            have h3 := Array.all_eq_true_iff_forall_mem.1 h4 e he
            simpa [hb] using h3
          refine listed_of e.on (by omega) fun hmem => ?_
          rcases List.mem_cons.1 hmem with q | q
          · omega
          · have := (List.pairwise_cons.1 hp).1 _ q; omega
        rw [hnil] at this
        cases this
    · obtain ⟨hun, o, ho, hall⟩ := mem_ready.1 hi
      have hin : i < ops.size := (Array.getElem?_eq_some_iff.1 ho).1
      have hiM : i ∈ M := (hM i).2 ⟨hin, hun⟩
      obtain ⟨A, B, rfl⟩ := List.append_of_mem hiM
      have hanc : ∀ j, ((ancs ops.toList).getD i 0).testBit j = true → listed.getD j false = true := by
        intro j hj
        obtain ⟨e, he, hb, hje⟩ := ancs_get ops.toList hok (i := i) (o := o) (by simpa using ho) j hj
        have h5 := hall e he hb
        rcases hje with rfl | hje
        · exact h5
        · exact hdc _ h5 j hje
      have hpw := List.pairwise_append.1 hp
      have hbr := Steps.bring hst (fun j hj => by
        have hji : j < i := hpw.2.2 j hj i (by simp)
        have hjun : listed.getD j true = false := ((hM j).1 (by simp [hj])).2
        refine hind (j, i) ?_
        simp only [loose]
        refine List.mem_flatMap.2 ⟨i, by simpa using hin, List.mem_map.2 ⟨j, List.mem_filter.2 ⟨by simpa using hji, ?_⟩, rfl⟩⟩
        rw [Bool.not_eq_true', ← Bool.not_eq_true]
        intro hmem
        have := hanc j hmem
        have hjl : j < listed.size := by omega
        simp only [Array.getD_eq_getD_getElem?] at hjun this
        simp [hjl] at hjun this
        rw [hjun] at this
        cases this)
      obtain ⟨so, s1, hso, hstep, hrest⟩ := hbr
      obtain ⟨o', q1, q2⟩ := mapM'_back hlow hso
      have : o' = o := by
        have : ops[i]? = some o' := by simpa using q1
        rw [ho] at this
        exact (Option.some.inj this).symm
      subst this
      refine wpOp_ok hC r ho q2 hstep fun a' w' h' hd' r' => ih (A ++ B) (listed.setIfInBounds i true) s1 a' w' h' hd' (by simp at hl ⊢; omega) ?_ (by simpa using hs) ?_ ?_ r' hrest
      · refine List.pairwise_append.2 ⟨hpw.1, (List.pairwise_cons.1 hpw.2.1).2, fun x hx y hy => hpw.2.2 x hx y (by simp [hy])⟩
      · intro k
        have hnd : k ∈ A ++ B ↔ k ∈ A ++ i :: B ∧ k ≠ i := by
          have hA : i ∉ A := fun q => absurd (hpw.2.2 i q i (by simp)) (by omega)
          have hB : i ∉ B := fun q => absurd ((List.pairwise_cons.1 hpw.2.1).1 i q) (by omega)
          simp only [List.mem_append, List.mem_cons]
          constructor
          · rintro (q | q)
            · exact ⟨.inl q, fun e => hA (e ▸ q)⟩
            · exact ⟨.inr (.inr q), fun e => hB (e ▸ q)⟩
          · rintro ⟨q | q | q, hne⟩
            · exact .inl q
            · exact absurd q hne
            · exact .inr q
        rw [hnd, hM k]
        constructor
        · rintro ⟨⟨g1, g2⟩, g3⟩; exact ⟨g1, by rw [getD_set_ne true (Ne.symm g3)]; exact g2⟩
        · rintro ⟨g1, g2⟩
          have g3 : k ≠ i := by
            rintro rfl
            have hkl : k < listed.size := by omega
            simp [hkl] at g2
          exact ⟨⟨g1, by rw [getD_set_ne true (Ne.symm g3)] at g2; exact g2⟩, g3⟩
      · intro k hk j hj
        by_cases hki : k = i
        · subst hki; exact getD_set_true (hanc j hj)
        · rw [getD_set_ne false (Ne.symm hki)] at hk
          exact getD_set_true (hdc k hk j hj)

theorem region_ok (hC : ∀ f ds x, C f ds = some x → Sound P f ds x) (hm : P.follows .mixedOrders = true) {ops : Array Oper} {l : List SOper} (hlow : mapM' (lowOper P nt ops) ops.toList = some l) {id : Nat} {draw : Bool} {sd : Option (List (Nat × Nat))} (hd : if draw then okAfter ops.toList = true ∧ sd = some (loose ops.toList) else sd = none)
    {s s' : St} (hr : runRegion C l sd s = some s') {hd' : Nat → Value} (r : Rl nt w0 h0 s.get s.blk a w h hd') {Q : Exit → Act → World → Prop} (hQ : ∀ a' w' h' hd', Rl nt w0 h0 s'.get s'.blk a' w' h' hd' → Q .normal a' w') : (Code.region id ops draw).wp P Q a w := by
  have hlen : ops.size = l.length := by simpa using (mapM'_some hlow).1
  cases draw with
  | false =>
    simp only [Bool.false_eq_true, if_false] at hd
    subst hd
    simp only [runRegion] at hr
    obtain ⟨ps, hps⟩ := runOps_T hr
    have hst := runOpsT_steps l (fun i => ps.getD i ([], [])) (k := 0) (fun i => by simp) (fun i _ => by simp) hps
    refine wp_region ?_
    have e : (List.range l.length).map (0 + ·) = List.range ops.size := by rw [hlen]; simp
    rw [e] at hst
    exact wpOps_ok hC hlow _ (s' := s'.fn) hQ _ s.fn a w h hd' r hst
  | true =>
    simp only [if_true] at hd
    obtain ⟨hok, rfl⟩ := hd
    simp only [runRegion] at hr
    split at hr
    · rename_i s2 ps hps
      split at hr
      · rename_i hap
        cases hr
        have hst := runOpsT_steps l (fun i => ps.getD i ([], [])) (k := 0) (fun i => by simp) (fun i _ => by simp) hps
        have e : (List.range l.length).map (0 + ·) = List.range ops.size := by rw [hlen]; simp
        rw [e] at hst
        have hind : ∀ p ∈ loose ops.toList, Ind l (fun i => ps.getD i ([], [])) p.1 p.2 := by
          intro p hp x y hx hy
          have := List.all_eq_true.1 hap p hp
          obtain ⟨i, j⟩ := p
          simp only at hx hy this ⊢
          rw [hx, hy] at this
          have hpl := runOpsT_len hps
          have hi := (List.getElem?_eq_some_iff.1 hx).1
          have hj := (List.getElem?_eq_some_iff.1 hy).1
          have hi' : i < ps.length := by omega
          have hj' : j < ps.length := by omega
          have e1 : ps[i]? = some (ps.getD i ([], [])) := by simp [List.getD, hi']
          have e2 : ps[j]? = some (ps.getD j ([], [])) := by simp [List.getD, hj']
          rw [e1, e2] at this
          exact this
        refine wp_region_any hm ?_
        refine wpAny_ok hC hlow hok _ hind (s' := s'.fn) hQ ops.size (List.range ops.size) _ s.fn a _ h hd' (by simp) List.pairwise_lt_range (by simp) ?_ ?_ r.drew hst
        · intro i
          simp only [List.mem_range]
          constructor
          · intro hi; exact ⟨hi, by simp [hi]⟩
          · exact fun hi => hi.1
        · intro k hk
          exfalso
          simp only [Array.getD_eq_getD_getElem?, Array.getElem?_replicate] at hk
          split at hk <;> simp at hk
      · cases hr
    · cases hr
end
end Vm
end Go.Proofs.Ytdjfaepokfdihaa
