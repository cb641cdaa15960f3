/- Layer 6 (graph): what the reference answers. -/
import Derived.Test.YtlpgfmnicomjjaaPLaw06e
import Derived.Test.YtlpgfmnicomjjaaCloseD
set_option linter.unusedVariables false
set_option linter.unusedSimpArgs false
namespace Go.Proofs.Ytlpgfmnicomjjaa
open Go.RowKit Vm
theorem set_same {α:Type} [Inhabited α] {l:List α} {i:Nat} {x:α} (h:i < l.length) (e:el l i = x):l.set i x = l:=by
 apply ext_el (by simp)
 intro j hj
 rw [el_set _ _ _ _ h]
 split
 ·rename_i q; subst q; exact e.symm
 ·rfl
def clsd (es:List GArr2I) (out:List Bool):Prop:=∀ a b,edg es a b→el out a = true→el out b = true
theorem rreach_l1 {n:Nat} {es:List GArr2I} (hes:∀ e ∈ es,inE n e) (hl:es.length ≤ 2000) {f:Nat} (p3:Int) {out:List Bool} (h0:out.length = n) (hs:∀ i,i < n→el out i = true→Rch (edg es) f i) :
  ∃ o,mallongeref06_Reach_l1 (n:Int) es p3 0 out = some o ∧ o.length = n ∧ (∀ i,i < n→el o i = true→Rch (edg es) f i) ∧ (∀ i,el out i = true→el o i = true) ∧ unm o ≤ unm out ∧ (unm o = unm out→clsd es out):=by
 unfold mallongeref06_Reach_l1
 refine iter_for (step:=fun (w:Int × (List Bool))=>mallongeref06_Reach_l1_s (n:Int) es p3 w.1 w.2) (fun (k:Nat) (o:List Bool)=>((k:Int),o)) es.length
  (fun k o=>o.length = n ∧ (∀ i,i < n→el o i = true→Rch (edg es) f i) ∧ (∀ i,el out i = true→el o i = true) ∧ unm o ≤ unm out ∧ (unm o = unm out→o = out ∧ ∀ j,j < k→el out (el es j).e0.toNat = true→el out (el es j).e1.toNat = true)) _ ?_ ?_ out ⟨h0,hs,fun i h=>h,Nat.le_refl _,fun _=>⟨rfl,fun j hj=>absurd hj (Nat.not_lt_zero _)⟩⟩
 ·rintro k o hk ⟨h1,h2,h3,h4,h5⟩
  refine .inl ?_
  obtain ⟨he0,he1⟩:=hes _ (el_mem es k hk)
  have hed:edg es (el es k).e0.toNat (el es k).e1.toNat:=⟨_,el_mem es k hk,by omega,by omega⟩
  simp only [mallongeref06_Reach_l1_s,lt_t hk,if_true,at_el _ _ hk,Option.bind_some,wrap_succ (show k < 9223372036854775807 by omega)]
  rw [if_pos ⟨he0.1,by omega⟩,get_el o _ (by omega),Option.bind_some]
  cases c:el o (el es k).e0.toNat with
  | false =>
   simp only [Bool.false_eq_true,if_false]
   refine ⟨o,rfl,h1,h2,h3,h4,fun e=>⟨(h5 e).1,fun j hj q=>?_⟩⟩
   by_cases ej:j = k
   ·subst ej; rw [(h5 e).1] at c; rw [c] at q; cases q
   ·exact (h5 e).2 j (by omega) q
  | true =>
   simp only [if_true]
   rw [if_pos ⟨he1.1,by omega⟩,get_el o _ (by omega),Option.bind_some]
   cases c2:el o (el es k).e1.toNat with
   | true =>
    rw [set_same (by omega) c2]
    refine ⟨o,rfl,h1,h2,h3,h4,fun e=>⟨(h5 e).1,fun j hj q=>?_⟩⟩
    by_cases ej:j = k
    ·subst ej; rw [(h5 e).1] at c2; exact c2
    ·exact (h5 e).2 j (by omega) q
   | false =>
    have hu:=unm_set (show (el es k).e1.toNat < o.length by omega) c2
    refine ⟨o.set (el es k).e1.toNat true,rfl,by simp [h1],fun i hi q=>?_,fun i q=>?_,by omega,fun e=>by omega⟩
    ·rw [el_set _ _ _ _ (by omega)] at q
     split at q
     ·rename_i ei; rw [ei]; exact (h2 _ (by omega) c).tail hed
     ·exact h2 i hi q
    ·rw [el_set _ _ _ _ (by omega)]
     split
     ·rfl
     ·exact h3 i q
 ·rintro o ⟨h1,h2,h3,h4,h5⟩
  refine ⟨o,by simp only [mallongeref06_Reach_l1_s,lt_f,if_false],h1,h2,h3,h4,fun e=>?_⟩
  rintro a b ⟨x,hx,q1,q2⟩ ha
  obtain ⟨j,hj,rfl⟩:=mem_el hx
  have:=(h5 e).2 j hj
  rw [q1,q2,Int.toNat_natCast,Int.toNat_natCast] at this
  exact this ha
theorem rReach_eq (n:Int) (es:List GArr2I) (f:Int):mallongeref06_Reach n es f = some (if rightG n es ∧ 0 ≤ f ∧ f < n then reachL n.toNat es f.toNat else []):=by
 unfold mallongeref06_Reach
 rw [rright_eq,Option.bind_some]
 by_cases h:rightG n es
 ·rw [decide_eq_true h,if_neg (by simp)]
  by_cases h1:f < 0
  ·rw [if_pos (decide_eq_true h1),if_neg (by omega)]
  rw [if_neg (by simpa using h1)]
  by_cases h2:f ≥ n
  ·rw [if_pos (decide_eq_true h2),if_neg (by omega)]
  rw [if_neg (by simpa using h2)]
  obtain ⟨m,rfl⟩ : ∃ m:Nat,n = m:=⟨n.toNat,by have:=h.1.1; omega⟩
  obtain ⟨a,rfl⟩ : ∃ a:Nat,f = a:=⟨f.toNat,by omega⟩
  have ham:a < m:=by omega
  have hes:∀ e ∈ es,inE m e:=by have:=h.2.2; simpa using this
  have hm:m ≤ 300:=by have:=h.1.2; omega
  have hl:=h.2.1
  rw [if_pos (show rightG (m:Int) es ∧ 0 ≤ (a:Int) ∧ (a:Int) < (m:Int) from ⟨h,by omega,by omega⟩)]
  simp only [Int.toNat_natCast,List.length_replicate]
  rw [if_pos (by omega),if_pos ⟨by omega,ham⟩,List.getElem?_replicate,if_pos ham,Option.bind_some]
  have hal:a < (List.replicate m false).length:=by simpa using ham
  have hu:=unm_set hal (el_replicate m a false ham)
  have hu0:unm (List.replicate m false) = m:=by simp [unm]
  have l2:∃ x,mallongeref06_Reach_l2 (m:Int) es 0 ((List.replicate m false).set a true) = some x ∧ x = reachL m es a:=by
   unfold mallongeref06_Reach_l2
   refine iter_for (step:=fun (w:Int × (List Bool))=>mallongeref06_Reach_l2_s (m:Int) es w.1 w.2) (fun (k:Nat) (o:List Bool)=>((k:Int),o)) m
    (fun k o=>o.length = m ∧ (∀ i,i < m→el o i = true→Rch (edg es) a i) ∧ el o a = true ∧ (clsd es o ∨ unm o + k + 1 ≤ m)) _ ?_ ?_ _ ⟨by simp,fun i hi q=>?_,?_,.inr (by omega)⟩
   ·rintro k o hk ⟨h1,h2,h3,h4⟩
    obtain ⟨o',q1,q2,q3,q4,q5,q6⟩:=rreach_l1 hes hl (k:Int) h1 h2
    refine .inl ⟨o',?_,q2,q3,q4 a h3,?_⟩
    ·simp only [mallongeref06_Reach_l2_s,lt_t hk,if_true,q1,Option.bind_some,wrap_succ (show k < 9223372036854775807 by omega)]
    ·by_cases c:clsd es o
     ·refine .inl fun x y hxy hx=>q4 y ?_
      have hr:=q3 x (edg_lt hes hxy).1 hx
      have:el o x = true:=Rch.closed (fun i=>el o i = true) h3 (fun u v hu huv=>c u v huv hu) hr
      exact c x y hxy this
     ·rcases h4 with h4 | h4
      ·exact absurd h4 c
      ·refine .inr ?_
       have:unm o' ≠ unm o:=fun e=>c (q6 e)
       omega
   ·rintro o ⟨h1,h2,h3,h4⟩
    refine ⟨o,by simp only [mallongeref06_Reach_l2_s,lt_f,if_false],?_⟩
    have hc:clsd es o:=by
     rcases h4 with q | q
     ·exact q
     ·omega
    apply ext_el (by rw [reachL_len]; exact h1)
    intro i hi
    rw [h1] at hi
    rw [reachL_el hi,Bool.eq_iff_iff,rchB_iff]
    exact ⟨h2 i hi,fun q=>Rch.closed (fun i=>el o i = true) h3 (fun u v hu huv=>hc u v huv hu) q⟩
   ·rw [el_set _ _ _ _ hal] at q
    split at q
    ·rename_i e; subst e; exact .refl
    ·rw [el_replicate _ _ _ hi] at q; cases q
   ·rw [el_set _ _ _ _ hal,if_pos rfl]
  obtain ⟨x,q1,rfl⟩:=l2
  rw [q1]; rfl
 ·rw [decide_eq_false h,if_pos (by simp),if_neg (fun q=>h q.1)]
def plcd (n:Nat) (P:List Nat) (p:List Bool):Prop:=p.length = n ∧ ∀ a,a < n→(el p a = true ↔ a ∈ P)
theorem rorder_l1 {n:Nat} {es:List GArr2I} (hes:∀ e ∈ es,inE n e) (hl:es.length ≤ 2000) {P:List Nat} {p:List Bool} (hp:plcd n P p) (p3:List Int) (p4:Int) {a:Nat} (ha:a < n) :
  ∃ r,mallongeref06_Order_l1 (n:Int) es p p3 p4 (a:Int) (!(el p a)) 0 = some r ∧ (r = true ↔ Free (edg es) n P a):=by
 have hpl:=hp.1
 unfold mallongeref06_Order_l1
 refine iter_for (step:=fun (w:Bool × Int)=>mallongeref06_Order_l1_s (n:Int) es p p3 p4 (a:Int) w.1 w.2) (fun (k:Nat) (b:Bool)=>(b,(k:Int))) es.length
  (fun k b=>b = true ↔ a ∉ P ∧ ∀ j,j < k→(el es j).e1 = (a:Int)→(el es j).e0.toNat ∈ P) _ ?_ ?_ _ ?_
 ·rintro k b hk hb
  obtain ⟨he0,he1⟩:=hes _ (el_mem es k hk)
  simp only [mallongeref06_Order_l1_s,lt_t hk,if_true]
  cases b with
  | false =>
   refine .inr ⟨false,by simp,?_⟩
   refine ⟨(fun q=>by cases q),fun q=>?_⟩
   have:=hb.2 ⟨q.new,fun j hj e=>q.all _ ⟨_,el_mem es j (by omega),by have:=(hes _ (el_mem es j (show j < es.length by omega))).1; omega,e⟩⟩
   exact this
  | true =>
   obtain ⟨h1,h2⟩:=hb.1 rfl
   simp only [if_true,at_el _ _ hk,Option.bind_some,wrap_succ (show k < 9223372036854775807 by omega)]
   refine .inl ?_
   by_cases c:(el es k).e1 = (a:Int)
   ·rw [if_neg (by rw [c]; simp),if_pos ⟨he0.1,by omega⟩,get_el p _ (by omega),Option.bind_some]
    refine ⟨_,rfl,?_⟩
    rw [hp.2 _ (by omega)]
    constructor
    ·intro q
     refine ⟨h1,fun j hj e=>?_⟩
     by_cases ej:j = k
     ·subst ej; exact q
     ·exact h2 j (by omega) e
    ·rintro ⟨_,q⟩
     exact q k (by omega) c
   ·rw [if_pos (by rw [bne_iff_ne]; exact c)]
    refine ⟨true,rfl,fun _=>⟨h1,fun j hj e=>?_⟩,fun _=>rfl⟩
    by_cases ej:j = k
    ·subst ej; exact absurd e c
    ·exact h2 j (by omega) e
 ·rintro b hb
  refine ⟨b,by simp only [mallongeref06_Order_l1_s,lt_f,if_false],?_⟩
  rw [hb]
  constructor
  ·rintro ⟨h1,h2⟩
   refine ⟨ha,h1,fun x hx=>?_⟩
   obtain ⟨e,he,q1,q2⟩:=hx
   obtain ⟨j,hj,rfl⟩:=mem_el he
   have:=h2 j hj q2
   rwa [q1,Int.toNat_natCast] at this
  ·intro q
   exact ⟨q.new,fun j hj e=>q.all _ ⟨_,el_mem es j hj,by have:=(hes _ (el_mem es j hj)).1; omega,e⟩⟩
 ·constructor
  ·intro q
   have:¬ (el p a = true):=by intro e; rw [e] at q; cases q
   exact ⟨fun e=>this ((hp.2 a ha).2 e),fun j hj=>absurd hj (Nat.not_lt_zero _)⟩
  ·rintro ⟨q,_⟩
   cases e:el p a with
   | false=>rfl
   | true=>exact absurd ((hp.2 a ha).1 e) q
theorem rorder_l2 {n:Nat} {es:List GArr2I} (hn:n ≤ 300) (hes:∀ e ∈ es,inE n e) (hl:es.length ≤ 2000) {P:List Nat} {p:List Bool} (hp:plcd n P p) (p3:List Int) :
  ∃ r,mallongeref06_Order_l2 (n:Int) es p p3 (-1) ((n:Int) - 1) = some r ∧ ((r = -1 ∧ ∀ a,¬ Free (edg es) n P a) ∨ ∃ c:Nat,r = c ∧ Free (edg es) n P c ∧ ∀ a,a < c→¬ Free (edg es) n P a):=by
 have hpl:=hp.1
 have key:∃ r,Iter (fun (w:Int × Int)=>mallongeref06_Order_l2_s (n:Int) es p p3 w.1 w.2) (-1,(n:Int) - 1 - ((0:Nat):Int)) = some r ∧ ((r = -1 ∧ ∀ a,¬ Free (edg es) n P a) ∨ ∃ c:Nat,r = c ∧ Free (edg es) n P c ∧ ∀ a,a < c→¬ Free (edg es) n P a):=by
  refine iter_for (step:=fun (w:Int × Int)=>mallongeref06_Order_l2_s (n:Int) es p p3 w.1 w.2) (fun (k:Nat) (f:Int)=>(f,(n:Int) - 1 - (k:Int))) n
   (fun k f=>(f = -1 ∧ ∀ a,n - k ≤ a→¬ Free (edg es) n P a) ∨ ∃ c:Nat,f = c ∧ n - k ≤ c ∧ Free (edg es) n P c ∧ ∀ a,n - k ≤ a→a < c→¬ Free (edg es) n P a) _ ?_ ?_ _ (.inl ⟨rfl,fun a ha q=>by have:=q.lt; omega⟩)
  ·rintro k f hk hf
   refine .inl ?_
   have ha:n - 1 - k < n:=by omega
   have e1:(n:Int) - 1 - (k:Int) = ((n - 1 - k:Nat):Int):=by omega
   obtain ⟨r,q1,q2⟩:=rorder_l1 hes hl hp p3 f ha
   have hw:IntKind.wrap .i64 (((n - 1 - k:Nat):Int) - 1) = (n:Int) - 1 - ((k + 1:Nat):Int):=by rw [wrap_id (by omega) (by omega)]; omega
   simp only [mallongeref06_Order_l2_s,e1,Int.toNat_natCast]
   rw [if_pos (decide_eq_true (by omega)),if_pos ⟨by omega,by omega⟩,get_el p _ (by omega),Option.bind_some,q1,Option.bind_some,hw]
   cases r with
   | true =>
    refine ⟨((n - 1 - k:Nat):Int),rfl,.inr ⟨n - 1 - k,rfl,by omega,q2.1 rfl,fun a h1 h2=>by omega⟩⟩
   | false =>
    have hno:¬ Free (edg es) n P (n - 1 - k):=fun q=>by have:=q2.2 q; cases this
    refine ⟨f,rfl,?_⟩
    rcases hf with ⟨rfl,h⟩ | ⟨c,rfl,h1,h2,h3⟩
    ·refine .inl ⟨rfl,fun a h1=>?_⟩
     by_cases e:a = n - 1 - k
     ·rw [e]; exact hno
     ·exact h a (by omega)
    ·refine .inr ⟨c,rfl,by omega,h2,fun a q1 q2=>?_⟩
     by_cases e:a = n - 1 - k
     ·rw [e]; exact hno
     ·exact h3 a (by omega) q2
  ·rintro f hf
   refine ⟨f,?_,?_⟩
   ·simp only [mallongeref06_Order_l2_s]
    rw [if_neg (by simp; omega)]
   ·rcases hf with ⟨rfl,h⟩ | ⟨c,rfl,h1,h2,h3⟩
    ·exact .inl ⟨rfl,fun a=>h a (by omega)⟩
    ·exact .inr ⟨c,rfl,h2,fun a ha=>h3 a (by omega) ha⟩
 rw [show (n:Int) - 1 - ((0:Nat):Int) = (n:Int) - 1 by omega] at key
 exact key
theorem rOrder_eq {n:Nat} {es:List GArr2I} (h:rightG n es):∃ r,mallongeref06_Order (n:Int) es = some r ∧ OrdSpec (edg es) n r:=by
 have hes:∀ e ∈ es,inE n e:=by have:=h.2.2; simpa using this
 have hl:=h.2.1
 have hn:n ≤ 300:=by have:=h.1.2; omega
 have l3:∃ x,mallongeref06_Order_l3 (n:Int) es (List.replicate n false) [] = some x ∧ OrdSpec (edg es) n (Sum.elim (fun z30:List Int=>(z30,true)) (fun z31:List Int=>([],false)) x):=by
  unfold mallongeref06_Order_l3
  refine iter_meas (step:=fun (w:(List Bool) × (List Int))=>mallongeref06_Order_l3_s (n:Int) es w.1 w.2) (fun z=>∃ P,z.2 = ci P ∧ P.length ≤ n ∧ Gord (edg es) n P ∧ plcd n P z.1) (fun z=>n - z.2.length) (fun x=>OrdSpec (edg es) n (Sum.elim (fun z30:List Int=>(z30,true)) (fun z31:List Int=>([],false)) x)) ?_ (List.replicate n false,[]) ⟨[],rfl,Nat.zero_le _,fun i hi=>by simp at hi,by simp,fun a ha=>by
   show el (List.replicate n false) a = true ↔ a ∈ []
   rw [el_replicate _ _ _ ha]; simp⟩
  rintro ⟨p,out⟩ ⟨P,h1,h2,h3,h4⟩
  dsimp only at h1 h4
  subst h1
  have hpl:=h4.1
  have hw:IntKind.wrap .i64 ((n:Int) - 1) = (n:Int) - 1:=wrap_id (by omega) (by omega)
  by_cases c1:P.length < n
  ·obtain ⟨r,hr,hr2⟩:=rorder_l2 hn hes hl h4 (ci P)
   rcases hr2 with ⟨rfl,hno⟩ | ⟨i,rfl,hfree,hleast⟩
   ·refine .inr ⟨.inr (ci P),?_,.inr ⟨rfl,P,c1,h3,hno⟩⟩
    simp only [mallongeref06_Order_l3_s,ci_len,hw]
    rw [if_pos (decide_eq_true (by omega)),hr,Option.bind_some,if_pos (by decide)]
   ·have hi:=hfree.lt
    refine .inl ⟨(p.set i true,ci P ++ [(i:Int)]),?_,⟨P ++ [i],ci_snoc P i,by simp; omega,h3.snoc hfree hleast,by simp [hpl],fun a ha=>?_⟩,?_⟩
    ·simp only [mallongeref06_Order_l3_s,ci_len,hw]
     rw [if_pos (decide_eq_true (by omega)),hr,Option.bind_some,if_neg (by simp),Int.toNat_natCast,if_pos ⟨by omega,by omega⟩,get_el p i (by omega),Option.bind_some,if_pos (by omega)]
    ·show el (p.set i true) a = true ↔ _
     rw [el_set _ _ _ _ (by omega)]
     by_cases e:a = i
     ·subst e; simp
     ·rw [if_neg e,h4.2 a ha]; simp [e]
    ·dsimp only
     rw [List.length_append,ci_len,List.length_singleton]
     omega
  ·refine .inr ⟨.inl (ci P),?_,.inl ⟨P,rfl,by omega,h3⟩⟩
   simp only [mallongeref06_Order_l3_s,ci_len]
   rw [if_neg (by simp; omega)]
 obtain ⟨x,q1,q2⟩:=l3
 unfold mallongeref06_Order
 rw [rright_eq,Option.bind_some,decide_eq_true h,if_neg (by simp),if_pos (by omega)]
 simp only [Int.toNat_natCast]
 rw [q1,Option.bind_some]
 cases x with
 | inl z=>exact ⟨_,rfl,q2⟩
 | inr z=>exact ⟨_,rfl,q2⟩
theorem rgroups_l1 {n:Nat} {es:List GArr2I} (h:rightG n es) {a:Nat} (ha:a < n) (p3:List (List Int)) :
  mallongeref06_Groups_l1 (n:Int) es (a:Int) p3 (reachL n es a) true 0 [] = some (leadB es a,ci (grpN n es a)):=by
 have hn:n ≤ 300:=by have:=h.1.2; omega
 have key:∃ z,mallongeref06_Groups_l1 (n:Int) es (a:Int) p3 (reachL n es a) true 0 [] = some z ∧ z = (leadB es a,ci (grpN n es a)):=by
  unfold mallongeref06_Groups_l1
  refine iter_for (step:=fun (w:Bool × Int × (List Int))=>mallongeref06_Groups_l1_s (n:Int) es (a:Int) p3 (reachL n es a) w.1 w.2.1 w.2.2) (fun (k:Nat) (z:Bool × List Int)=>(z.1,(k:Int),z.2)) n
   (fun k z=>z.2 = ci (grpN k es a) ∧ (z.1 = true ↔ ∀ c,c < k→c < a→¬ mutB es a c = true)) _ ?_ ?_ (true,[]) ⟨rfl,fun _ c hc=>absurd hc (Nat.not_lt_zero _),fun _=>rfl⟩
  ·rintro k ⟨b,l⟩ hk ⟨h1,h2⟩
   dsimp only at h1 h2
   subst h1
   refine .inl ?_
   have hlen:=grpN_len k es a
   have hsucc:grpN (k + 1) es a = if mutB es a k = true then grpN k es a ++ [k] else grpN k es a:=by
    unfold grpN
    rw [List.range_succ,List.filter_append]
    by_cases c:mutB es a k = true
    ·rw [if_pos c]; simp only [List.filter_cons,c,if_true,List.filter_nil]
    ·rw [if_neg c]; simp only [List.filter_cons,c,List.filter_nil]; simp
   have hmut:mutB es a k = (rchB es a k && rchB es k a):=rfl
   have hno:mutB es a k = false→(b = true ↔ ∀ c,c < k + 1→c < a→¬ mutB es a c = true):=by
    intro hm
    rw [h2]
    constructor
    ·intro q c hc hca
     by_cases e:c = k
     ·subst e; rw [hm]; decide
     ·exact q c (by omega) hca
    ·intro q c hc hca
     exact q c (by omega) hca
   have hR:mallongeref06_Reach (n:Int) es (k:Int) = some (reachL n es k):=by
    rw [rReach_eq,if_pos ⟨h,by omega,by omega⟩,Int.toNat_natCast,Int.toNat_natCast]
   simp only [mallongeref06_Groups_l1_s,lt_t hk,if_true,at_el _ _ (show k < (reachL n es a).length by rw [reachL_len]; exact hk),Option.bind_some,reachL_el hk,hR,at_el _ _ (show a < (reachL n es k).length by rw [reachL_len]; exact ha),reachL_el ha,ci_len,wrap_succ (show k < 9223372036854775807 by omega)]
   cases c1:rchB es a k with
   | false =>
    have hm:mutB es a k = false:=by rw [hmut,c1]; rfl
    exact ⟨(b,ci (grpN k es a)),rfl,by rw [hsucc,hm,if_neg (by decide)],hno hm⟩
   | true =>
    cases c2:rchB es k a with
    | false =>
     have hm:mutB es a k = false:=by rw [hmut,c1,c2]; rfl
     exact ⟨(b,ci (grpN k es a)),rfl,by rw [hsucc,hm,if_neg (by decide)],hno hm⟩
    | true =>
     have hm:mutB es a k = true:=by rw [hmut,c1,c2]; rfl
     simp only [if_true]
     rw [if_pos (by omega)]
     have hs2:ci (grpN k es a) ++ [(k:Int)] = ci (grpN (k + 1) es a):=by rw [hsucc,if_pos hm,ci_snoc]
     cases b with
     | true =>
      refine ⟨(decide ((k:Int) ≥ (a:Int)),ci (grpN (k + 1) es a)),by simp only [if_true]; rw [hs2],rfl,?_⟩
      rw [decide_eq_true_iff]
      constructor
      ·intro q c hc hca
       by_cases e:c = k
       ·omega
       ·exact h2.1 rfl c (by omega) hca
      ·intro q
       apply Classical.byContradiction
       intro q2
       exact q k (by omega) (by omega) hm
     | false =>
      refine ⟨(false,ci (grpN (k + 1) es a)),by simp only [Bool.false_eq_true,if_false]; rw [hs2],rfl,(fun q=>by cases q),fun q=>?_⟩
      exact h2.2 fun c hc hca=>q c (by omega) hca
  ·rintro ⟨b,l⟩ ⟨h1,h2⟩
   dsimp only at h1 h2
   refine ⟨(b,l),by simp only [mallongeref06_Groups_l1_s,lt_f,if_false],?_⟩
   rw [h1]
   congr 1
   rw [Bool.eq_iff_iff,h2,leadB_iff]
   exact ⟨fun q c hc=>q c (by omega) hc,fun q c _ hca=>q c hca⟩
 obtain ⟨z,h1,rfl⟩:=key
 exact h1
theorem rGroups_eq {n:Nat} {es:List GArr2I} (h:rightG n es):mallongeref06_Groups (n:Int) es = some (gl (groupsN n es)):=by
 have hn:n ≤ 300:=by have:=h.1.2; omega
 have l2:mallongeref06_Groups_l2 (n:Int) es 0 [] = some (gl (groupsN n es)):=by
  unfold mallongeref06_Groups_l2
  refine iter_all (step:=fun (w:Int × (List (List Int)))=>mallongeref06_Groups_l2_s (n:Int) es w.1 w.2) (fun k:Nat=>((k:Int),gl (((List.range k).filter fun a=>leadB es a).map (grpN n es)))) n _ ?_ ?_
  ·intro k hk
   have hR:mallongeref06_Reach (n:Int) es (k:Int) = some (reachL n es k):=by
    rw [rReach_eq,if_pos ⟨h,by omega,by omega⟩,Int.toNat_natCast,Int.toNat_natCast]
   have hlen:(gl (((List.range k).filter fun a=>leadB es a).map (grpN n es))).length ≤ k:=by
    have:=List.length_filter_le (fun a=>leadB es a) (List.range k)
    rw [gl_len,List.length_map]
    simpa using this
   simp only [mallongeref06_Groups_l2_s,lt_t hk,if_true,hR,Option.bind_some,rgroups_l1 h hk,wrap_succ (show k < 9223372036854775807 by omega)]
   cases c:leadB es k with
   | true =>
    simp only [if_true]
    rw [if_pos (by omega),List.range_succ,List.filter_append]
    simp [gl,c]
   | false =>
    rw [List.range_succ,List.filter_append]
    simp [c]
  ·simp only [mallongeref06_Groups_l2_s,lt_f,if_false]; rfl
 unfold mallongeref06_Groups
 rw [rright_eq,Option.bind_some,decide_eq_true h,if_neg (by simp),l2]
 rfl
end Go.Proofs.Ytlpgfmnicomjjaa
