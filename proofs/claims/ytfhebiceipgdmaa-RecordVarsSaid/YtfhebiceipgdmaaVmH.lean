/- A map that is laid and ranged over, each entry written into a row of the call's own: in whatever order. The small machine, read from the front: a range over a map that is laid. -/
import Derived.Test.YtfhebiceipgdmaaVmD
import Derived.Maps.RangeWalk
import Derived.WalkArith
import Derived.Test.YtfhebiceipgdmaaVmF
set_option linter.unusedVariables false
set_option linter.unusedSimpArgs false
namespace Go.Proofs.Ytfhebiceipgdmaa
namespace Vm
open Go.RowKit Go.Maps
def deadS (dead:List Nat) (s:St):List (Nat × V):=dead.map (fun t=>(t,V.any)) ++ s.fr
def setsL (cell:V→Option (List D)) (s:St):List (Nat × Nat)→List (List D)→Option (List (List D))
 | [],rows=>some rows
 | (k,t) :: l,rows=>match cell (s.get t) with
  | some row=>if k < rows.length then setsL cell s l (rows.set k row) else none
  | none=>none
def handG (out:Nat) (cell:V→Option (List D)) (ks:List (Nat × Nat)) (dead:List Nat) (s:St):Option St:=match s.get out with
 | .own id ver=>match s.blk id with
  | some (.rows v e size rows)=>if ver = v ∧ size = 2 then match setsL cell s ks rows with
    | some rows'=>some ⟨deadS dead s,(id,some (.rows v e size rows')) :: s.bl⟩
    | none=>none
   else none
  | _=>none
 | _=>none
def cellI:V→Option (List D)
 | .d (.int .i64 n)=>some [.bool true,.int .i64 n]
 | _=>none
def cellB:V→Option (List D)
 | .d (.bool b)=>some [.bool true,.int .i64 (if b = true then 1 else 0)]
 | _=>none
def anyR (v:Value):Option (DataW Value × List MemPlace):=some (.held v,[])
theorem run_makeMap_plain' {P:Program} (t:TypeId) (w:World):(Instr.makeMap t none).run P w = .ok (.map (some w.heap.size)) (w.alloc (.map #[] 0)):=rfl
section
variable {P:Program} {nt:Nat} {w0:Base} {w w' : World} {h0 h:Hp} {fr:Nat→V} {bl:Nat→Option Blk} {a:Act} {hd:Nat→Value}
structure Side (w0:Base) (h:Hp) (bl:Nat→Option Blk) (hd:Nat→Value) (g:Nat):Prop where
 own:w0.own g
 out:h g = none
 off:∀ id b,bl id = some b→b.live = true→numOf (hd id) ≠ some g
theorem Rl.side (r:Rl nt w0 h0 fr bl a w h hd) {row:Option Nat} (hg:w.grownBy w' row) (hS:∀ g,row = some g→Side w0 h bl hd g):Rl nt w0 h0 fr bl a w' h hd where
 tmps:=r.tmps
 defers:=r.defers
 fixed:=r.fixed
 below:=r.below.trans (Bel.grown hg r.below.size fun k hk=>(hS k hk).own)
 hle:=fun b o e=>by
  have h1:=r.hle b o e
  refine (hg.block b (Array.getElem?_eq_some_iff.1 h1).1 fun q=>?_).trans h1
  rw [(hS b q.symm).out] at e; cases e
 h0le:=r.h0le
 hbase:=r.hbase
 frame:=r.frame
 blk:=fun id b hb=>(r.blk id b hb).keep (Hp.le.refl _) (Kp.refl _ _) rfl fun hl g hg'=>⟨hg.block g ((r.blk id b hb).num hl hg').2.1 fun q=>(hS g q.symm).off id b hb hl hg',fun q=>q⟩
 sep:=r.sep
theorem Side.new (r:Rl nt w0 h0 fr bl a w h hd) {g:Nat} (hg:w.heap.size ≤ g):Side w0 h bl hd g where
 own:=.inl (Nat.le_trans r.below.size hg)
 out:=h_fresh r.hle hg
 off:=fun id b hb hl q=>by have:=((r.blk id b hb).num hl q).2.1; omega
theorem getD_put' (r:Rl nt w0 h0 fr bl a w h hd) {d:Nat} (hd' : d < nt) (cv:Value) (t:Nat):(a.put (some d) cv).tmps.getD t undef = if d = t then cv else a.tmps.getD t undef:=by
 rw [getD_put a (some d) cv t nt r.tmps fun x e=>by cases e; exact hd']
 simp only [Option.some.injEq]
theorem wpOp_plain {ops:Array Oper} {Q:Exit→Act→World→Prop} {K:Act→World→Prop} {i:Nat} {o:Oper} (ho:ops[i]? = some o) (hg:o.guard = none) (h:o.wp P a w K Q):wpOp P ops Q i K a w:=by
 unfold wpOp
 rw [ho]
 simp only
 rw [if_pos (by simp [Region.wanted,hg])]
 exact .inl h
def SOp.pureB:SOp→Bool
 | .move _ | .load _ _ _ | .fieldAddr _ _ | .bin _ _ _ _ | .build _ _=>true
 | _=>false
theorem pure_step {C:Nat→List D→Option D} (r:Rl nt w0 h0 fr bl a w h hd) (o:Oper) {so:SOp} (hlow:lowOp P o = so) (hp:so.pureB = true)
  {site:Nat} {v:V} {wr:List (Nat × Option Blk)} (ha:aop C site (evo fr) bl so = some (v,wr)) {K:Act→World→Prop} {Q:Exit→Act→World→Prop}
  (hK:∀ cv,R3 h hd bl cv v→K (a.put o.dst cv) w):wr = [] ∧ o.wp P a w K Q:=by
 unfold lowOp at hlow
 cases hl:lowOp0 P o with
 | none=>rw [hl] at hlow; subst hlow; cases hp
 | some so' =>
  rw [hl] at hlow
  simp only [Option.getD_some] at hlow
  subst hlow
  unfold lowOp0 at hl
  cases hop:o.op with
  | move x =>
   rw [hop] at hl
   simp only at hl
   rw [Option.map_eq_some_iff] at hl
   obtain ⟨y,h1,rfl⟩:=hl
   simp only [aop] at ha
   cases ha
   exact ⟨rfl,wp_val (s:=pure (a.eval x)) (by simp [execOp,hop]) (by simp) (hK _ (lowX_ok r.frame h1))⟩
  | assign x =>
   rw [hop] at hl
   simp only at hl
   rw [Option.map_eq_some_iff] at hl
   obtain ⟨y,h1,rfl⟩:=hl
   simp only [aop] at ha
   cases ha
   exact ⟨rfl,wp_val (s:=pure (a.eval x)) (by simp [execOp,hop]) (by simp) (hK _ (lowX_ok r.frame h1))⟩
  | load t x =>
   rw [hop] at hl
   simp only at hl
   split at hl
   ·rename_i b i x' h1 h2 h3
    cases hl
    obtain ⟨e1,cv,q1,q2⟩:=load_ok r h1 h2 (lowX_ok r.frame h3) ha
    exact ⟨e1,wp_val (s:=Instr.loadAt t (a.eval x)) (by simp [execOp,hop]) q1 (hK _ q2)⟩
   ·cases hl
  | fieldAddr s x f =>
   rw [hop] at hl
   simp only at hl
   split at hl
   ·rename_i fs x' h1 h2
    split at hl
    ·rename_i fd h3
     split at hl
     ·rename_i i h4
      split at hl
      ·cases hl
      ·rename_i h5
       cases hl
       obtain ⟨e1,cv,q1,q2⟩:=field_run r h1 h3 h4 h5 (lowX_ok r.frame h2) ha
       exact ⟨e1,wp_val (s:=Instr.fieldAt s (a.eval x) f) (by simp [execOp,hop]) q1 (hK _ q2)⟩
     ·cases hl
    ·cases hl
   ·cases hl
  | binOp op t x y l =>
   rw [hop] at hl
   simp only at hl
   obtain ⟨d,rfl,rfl,cv,q1,q2,q3⟩:=bin_pure r hl ha
   exact ⟨rfl,wp_val (s:=do eqGuard op t x y (a.eval x) (a.eval y); binOp op t (a.eval x) (a.eval y)) (by simp [execOp,hop]) q1 (hK _ ⟨q3,q2⟩)⟩
  | build t parts =>
   rw [hop] at hl
   simp only at hl
   split at hl
   ·rename_i i fs hi hu
    split at hl
    ·rename_i z hz
     split at hl
     ·rename_i zs ps h1 h2
      split at hl
      ·rename_i hf
       cases hl
       simp only [aop] at ha
       rw [Option.map_eq_some_iff] at ha
       obtain ⟨cs,q1,q2⟩:=ha
       cases q2
       obtain ⟨cv,q3,q4⟩:=build_run r hi hu hz h1 hf h2 q1
       refine ⟨rfl,wp_val (s:=Instr.build t (parts.map fun (i,x)=>(i,a.eval x))) (by simp [execOp,hop]) (cv:=cv) (w':=w) ?_ (hK _ q4)⟩
       have e:(parts.map fun x=>(x.1,a.eval x.2)) = (parts.toList.map fun x=>(x.1,a.eval x.2)).toArray:=by obtain ⟨l⟩:=parts; simp
       exact (congrArg (fun q=>(Instr.build t q).run P w) e).trans q3
      ·cases hl
     ·cases hl
    ·cases hl
   ·rename_i i n e hi hu
    split at hl
    ·rename_i z ei hz he
     split at hl
     ·rename_i zs ps h1 h2
      cases hl
      simp only [aop] at ha
      rw [Option.map_eq_some_iff] at ha
      obtain ⟨cs,q1,q2⟩:=ha
      cases q2
      obtain ⟨cv,q3,q4⟩:=buildA_run r hi hu hz he h1 h2 q1
      refine ⟨rfl,wp_val (s:=Instr.build t (parts.map fun (i,x)=>(i,a.eval x))) (by simp [execOp,hop]) (cv:=cv) (w':=w) ?_ (hK _ q4)⟩
      have e:(parts.map fun x=>(x.1,a.eval x.2)) = (parts.toList.map fun x=>(x.1,a.eval x.2)).toArray:=by obtain ⟨l⟩:=parts; simp
      exact (congrArg (fun q=>(Instr.build t q).run P w) e).trans q3
     ·cases hl
    ·cases hl
   ·cases hl
  | indexAddr ty x j =>
   rw [hop] at hl
   simp only at hl
   split at hl
   ·rw [Option.map_eq_some_iff] at hl
    obtain ⟨i,hi,rfl⟩:=hl
    cases hp
   ·rename_i n e x' k q ht hx hj
    split at hl
    ·rename_i i hi
     split at hl
     ·rename_i hc
      obtain ⟨c1,c2,c3⟩:=hc
      cases hl
      have hjr:=lowX_ok r.frame hj
      obtain ⟨e1,cv,q1,q2⟩:=elem_run r ht hi c1 c2 (inv_int hjr) (lowX_ok r.frame hx) ha
      exact ⟨e1,wp_val (s:=Instr.indexAt ty (a.eval x) (a.eval j)) (by simp [execOp,hop]) q1 (hK _ q2)⟩
     ·cases hl
    ·cases hl
   ·cases hl
  | _ =>
   rw [hop] at hl
   simp only at hl
   exfalso
   repeat' (first | (cases hl; done) | (rw [Option.map_eq_some_iff] at hl; obtain ⟨_,_,e⟩:=hl; cases e; cases hp; done) | (cases hl; cases hp; done) | split at hl)
inductive MItem where
 | vm (so:SOper)
 | ins (k t:Nat)
def vmsOf:List (Oper × MItem)→List SOper
 | []=>[]
 | (_,.vm so) :: l=>so :: vmsOf l
 | (_,.ins _ _) :: l=>vmsOf l
def inssOf:List (Oper × MItem)→List (Nat × Nat)
 | []=>[]
 | (_,.vm _) :: l=>inssOf l
 | (_,.ins k t) :: l=>(k,t) :: inssOf l
def mapOf (es:List (Nat × Value)):DataW Value:=es.foldl (fun D p=>D.put (.int .i64 (p.1:Int)) (.held p.2)) (.map [])
def ItemOk (P:Program) (nt:Nat) (T tm:Nat) (p:Oper × MItem):Prop:=p.1.guard = none ∧ match p.2 with
 | .vm so=>lowOp P p.1 = so.op ∧ so.dst = p.1.dst ∧ so.guard = none ∧ so.op.pureB = true ∧ ∃ d,p.1.dst = some d ∧ d < nt ∧ d ≠ tm
 | .ins k t=>p.1.op = .insert T (.tmp tm) (.const (.int .i64 (k:Int))) (.tmp t) ∧ p.1.dst = none ∧ k < 1000
theorem get_put_other {s:St} {d t:Nat} {v:V} {wr:List (Nat × Option Blk)} (h:d ≠ t):(s.put (some d) v wr).get t = s.get t:=by
 simp [St.put,St.get,lk,Ne.symm h]
theorem runOps_get {C:Nat→List D→Option D} {t:Nat}:∀ {l:List SOper} {s s' : St},runOps C l s = some s'→(∀ o ∈ l,o.dst ≠ some t)→s'.get t = s.get t
 | [],s,s',e,_=>by cases e; rfl
 | o :: l,s,s',e,h=>by
  simp only [runOps] at e
  split at e
  ·rename_i s1 h1
   rw [runOps_get e fun x hx=>h x (List.mem_cons_of_mem _ hx)]
   have hd:=h o (List.mem_cons_self ..)
   have put:∀ v wr,(s.put o.dst v wr).get t = s.get t:=fun v wr=>by
    cases hq:o.dst with
    | none=>rfl
    | some d=>exact get_put_other fun q=>hd (by rw [hq,q])
   unfold runOp at h1
   split at h1
   ·split at h1
    ·cases h1; exact put _ _
    ·cases h1
   ·cases h1; exact put _ _
   ·cases h1
  ·cases e
theorem mapOf_snoc (es:List (Nat × Value)) (k:Nat) (v:Value):mapOf (es ++ [(k,v)]) = (mapOf es).put (.int .i64 (k:Int)) (.held v):=by simp [mapOf]
def Entered (h:Hp) (hd:Nat→Value) (s:St) (es:List (Nat × Value)) (kt:List (Nat × Nat)):Prop:=es.map (·.1) = kt.map (·.1) ∧ ∀ (j k t:Nat) (v:Value),es[j]? = some (k,v)→kt[j]? = some (k,t)→R3 h hd s.blk v (s.get t)
theorem wf64 {k:Nat} (h:k < 1000):(Lit.int .i64 (k:Int)).wf = true:=WalkArith.wf_i64 (by omega)
theorem region_items {T kT eT tm b:Nat} (hT:P.underlying T = some (.map kT eT)) (hkT:P.underlying kT = some (.int .i64)) (hF:∀ t,w0.F t = none) {C:Nat→List D→Option D} {ops:Array Oper} {Q:Exit→Act→World→Prop} {L' : List Nat} :
  ∀ (items:List (Oper × MItem)) (i n:Nat) (s s' : St) (a:Act) (es:List (Nat × Value)) (w:World),
  (∀ (j:Nat) (p:Oper × MItem),items[j]? = some p→ops[i + j]? = some p.1)→(∀ p ∈ items,ItemOk P nt T tm p)→items.Pairwise (fun p q=>∀ k t,p.2 = .ins k t→q.1.dst ≠ some t)→n + items.length < maxLen →
  runOps C (vmsOf items) s = some s'→Rl nt w0 h0 s.get s.blk a w h hd→w.ownsMap P kT anyR b n (mapOf es)→Side w0 h s.blk hd b→a.tmps.getD tm undef = .map (some b) →
  (∀ (a' : Act) (w' : World) (es' : List (Nat × Value)),Rl nt w0 h0 s'.get s'.blk a' w' h hd→s'.blk = s.blk→w'.ownsMap P kT anyR b (n + items.length) (mapOf (es ++ es'))→a'.tmps.getD tm undef = .map (some b)→Entered h hd s' es' (inssOf items)→wpOps P ops Q L' a' w') →
  wpOps P ops Q (List.range' i items.length ++ L') a w
 | [],i,n,s,s',a,es,w,hops,hit,hpw,hlen,hrun,r,hm,hS,ht,hK=>by
  cases hrun
  exact hK a w [] r rfl (by simpa using hm) ht ⟨rfl,fun j k t v e=>by simp at e⟩
 | (o,it) :: items,i,n,s,s',a,es,w,hops,hit,hpw,hlen,hrun,r,hm,hS,ht,hK=>by
  have ho:ops[i]? = some o:=by simpa using hops 0 (o,it) rfl
  have hops' : ∀ (j:Nat) (p:Oper × MItem),items[j]? = some p→ops[i + 1 + j]? = some p.1:=fun j p hp=>by
   have:=hops (j + 1) p (by simpa using hp)
   rwa [show i + (j + 1) = i + 1 + j by omega] at this
  have hit' : ∀ p ∈ items,ItemOk P nt T tm p:=fun p hp=>hit p (List.mem_cons_of_mem _ hp)
  obtain ⟨hpw1,hpw2⟩:=List.pairwise_cons.1 hpw
  have hlen' : n + (items.length + 1) < maxLen:=by simpa using hlen
  rw [List.length_cons,List.range'_succ,List.cons_append,wpOps_cons]
  obtain ⟨hg,hq⟩:=hit (o,it) (List.mem_cons_self ..)
  refine wpOp_plain ho hg ?_
  cases it with
  | vm so =>
   obtain ⟨q1,q2,q3,q4,d,q5,q6,q7⟩:=hq
   simp only [vmsOf,runOps] at hrun
   split at hrun
   ·rename_i s1 hs1
    unfold runOp at hs1
    rw [show so.wants s.get = .run by simp [SOper.wants,q3]] at hs1
    simp only at hs1
    split at hs1
    ·rename_i v wr ha
     cases hs1
     have hwr:wr = []:=(pure_step (K:=fun _ _=>True) (Q:=fun _ _ _=>True) r o q1 q4 ha fun _ _=>trivial).1
     subst hwr
     refine (pure_step r o q1 q4 ha fun cv hcv=>?_).2
     rw [q2,q5] at hrun
     refine region_items hT hkT hF items (i + 1) n _ s' _ es w hops' hit' hpw2 (by omega) hrun ?_ hm hS ?_ ?_
     ·rw [q5]
      have:=r.put0 (some d) cv v (fun x e=>by cases e; exact ⟨q6,hF d⟩) hcv
      have e1:(s.put (some d) v []).get = updF s.get (some d) v:=by
       funext t; simp only [St.put,St.get,lk,updF,Option.some.injEq]
       by_cases e:t = d
       ·simp [e]
       ·rw [if_neg e,if_neg (Ne.symm e)]
      rw [e1]
      exact this
     ·rw [q5,getD_put' r q6,if_neg q7]; exact ht
     ·intro a' w' es' r' hb' hm' ht' he'
      refine hK a' w' es' r' hb' ?_ ht' he'
      exact hm'.mono (by simp)
    ·cases hs1
   ·cases hrun
  | ins k t =>
   obtain ⟨q1,q2,q3⟩:=hq
   replace q1:o.op = .insert T (.tmp tm) (.const (.int .i64 (k:Int))) (.tmp t):=q1
   replace q2:o.dst = none:=q2
   simp only [vmsOf] at hrun
   have hkey:keyOf P kT (.int .i64 (k:Int)) = some (.int .i64 (k:Int)):=keyOf_int_mk hkT (wf64 q3)
   obtain ⟨w1,g1,g2,g3⟩:=hm.update (int_keyed hkT) hT (by omega) hkey (val:=a.tmps.getD t undef) (d:=.held (a.tmps.getD t undef)) (ps:=[]) rfl
   refine wp_unit (s:=Instr.mapUpdate T (a.tmps.getD tm undef) (.int .i64 (k:Int)) (a.tmps.getD t undef)) (by unfold execOp; rw [q1]; rfl) (by rw [ht]; exact g1) ?_
   have hput:a.put o.dst undef = a:=by rw [q2]; rfl
   rw [hput]
   rw [← mapOf_snoc] at g2
   refine region_items hT hkT hF items (i + 1) (n + 1) s s' a (es ++ [(k,a.tmps.getD t undef)]) w1 hops' hit' hpw2 (by omega) hrun (r.side g3 fun g hg=>by cases hg; exact hS) g2 hS ht ?_
   intro a' w' es' r' hb' hm' ht' he'
   refine hK a' w' ((k,a.tmps.getD t undef) :: es') r' hb' ?_ ht' ?_
   ·rw [List.append_assoc] at hm'
    rw [List.length_cons,show n + (items.length + 1) = n + 1 + items.length by omega]
    exact hm'
   ·obtain ⟨e1,e2⟩:=he'
    refine ⟨by simp [inssOf,e1],fun j k' t' v' f1 f2=>?_⟩
    cases j with
    | zero =>
     simp only [inssOf,List.getElem?_cons_zero,Option.some.injEq,Prod.mk.injEq] at f1 f2
     obtain ⟨rfl,rfl⟩:=f1
     obtain ⟨_,rfl⟩:=f2
     have hsame:s'.get t = s.get t:=by
      refine runOps_get hrun fun so hso=>?_
      have key:∀ (l:List (Oper × MItem)),(∀ p ∈ l,ItemOk P nt T tm p)→(∀ p ∈ l,p.1.dst ≠ some t)→∀ so ∈ vmsOf l,so.dst ≠ some t:=by
       intro l
       induction l with
       | nil=>intro _ _ so h; simp [vmsOf] at h
       | cons p l ih =>
        intro h1 h2 so h
        obtain ⟨o,it⟩:=p
        cases it with
        | vm so' =>
         simp only [vmsOf,List.mem_cons] at h
         rcases h with rfl | h
         ·have:=(h1 (o,.vm so) (List.mem_cons_self ..)).2
          rw [this.2.1]
          exact h2 (o,.vm so) (List.mem_cons_self ..)
         ·exact ih (fun p hp=>h1 p (List.mem_cons_of_mem _ hp)) (fun p hp=>h2 p (List.mem_cons_of_mem _ hp)) so h
        | ins _ _=>exact ih (fun p hp=>h1 p (List.mem_cons_of_mem _ hp)) (fun p hp=>h2 p (List.mem_cons_of_mem _ hp)) so h
      exact key items hit' (fun p hp=>hpw1 p hp k t rfl) so hso
     rw [hb',hsame]
     exact r.frame t
    | succ j=>exact e2 j k' t' v' (by simpa using f1) (by simpa [inssOf] using f2)
theorem execOp_next {o:Oper} {ρ:Operand→Value} {x:Operand} (h:o.op = .next x false):execOp ρ o = (do pure (.value (← Instr.next (ρ x) false o.type))):=by simp [execOp,h]
theorem execOp_entry {o:Oper} {ρ:Operand→Value} {x:Operand} (h:o.op = .entry x):execOp ρ o = (do pure (.value (← Instr.entry (ρ x)))):=by simp [execOp,h]
theorem execOp_extract {o:Oper} {ρ:Operand→Value} {x:Operand} {i:Nat} (h:o.op = .extract x i):execOp ρ o = (do pure (.value (← Instr.extract (ρ x) i))):=by simp [execOp,h]
theorem execOp_assign {o:Oper} {ρ:Operand→Value} {x:Operand} (h:o.op = .assign x ∨ o.op = .move x):execOp ρ o = (do pure (.value (← (pure (ρ x):Sem Value)))):=by rcases h with h | h <;> simp [execOp,h]
def RowsAt (c:Nat→Option (List D)) (rows0:List (List D)) (left:Lit→Bool) (rows:List (List D)):Prop :=
 rows.length = rows0.length ∧ ∀ i,i < rows0.length→rows[i]? = match c i with
  | some row=>if left (.int .i64 (i:Int)) = true then rows0[i]? else some row
  | none=>rows0[i]?
def AgreeF (dead:List Nat) (fr0 fr:Nat→V):Prop:=∀ t,t ∉ dead→fr t = fr0 t
theorem AgreeF.upd {dead:List Nat} {fr0 fr:Nat→V} (h:AgreeF dead fr0 fr) {d:Nat} (hd:d ∈ dead) (v:V):AgreeF dead fr0 (updF fr (some d) v):=fun t ht=>by
 have:d ≠ t:=fun e=>ht (e ▸ hd)
 simp only [updF,Option.some.injEq,if_neg this]
 exact h t ht
structure LoopC where
 it:Nat
 nx:Nat
 ok:Nat
 en:Nat
 k1:Nat
 v1:Nat
 kk:Nat
 vv:Nat
 d1:Nat
 d2:Nat
 d3:Nat
 dc:Nat
 da:Nat
 out:Nat
def LoopC.slots (L:LoopC):List Nat:=[L.nx,L.ok,L.en,L.k1,L.v1,L.kk,L.vv,L.d1,L.d2,L.d3,L.dc,L.da]
theorem putStep (r:Rl nt w0 h0 fr bl a w h hd) (hF:∀ t,w0.F t = none) {d:Nat} (hd' : d < nt) (cv:Value) (v:V) (hv:R3 h hd bl cv v) :
  ∃ a',a.put (some d) cv = a' ∧ Rl nt w0 h0 (updF fr (some d) v) bl a' w h hd ∧ a'.tmps.getD d undef = cv ∧ ∀ t,t ≠ d→a'.tmps.getD t undef = a.tmps.getD t undef :=
 ⟨_,rfl,r.put0 (some d) cv v (fun x e=>by cases e; exact ⟨hd',hF d⟩) hv,by rw [getD_put' r hd',if_pos rfl],fun t ht=>by rw [getD_put' r hd',if_neg (Ne.symm ht)]⟩
def CellOk (P:Program) (nt:Nat) (cell:V→Option (List D)) (o:Oper) (d3 dc:Nat):Prop :=
 ∀ (w0:Base) (w:World) (h0 h:Hp) (fr:Nat→V) (bl:Nat→Option Blk) (a:Act) (hd:Nat→Value) (row:List D) (K:Act→World→Prop) (Q:Exit→Act→World→Prop),(∀ t,w0.F t = none)→Rl nt w0 h0 fr bl a w h hd→cell (fr d3) = some row →
  (∀ cv w',Rl nt w0 h0 (updF fr (some dc) (.agg (row.map .d))) bl (a.put (some dc) cv) w' h hd→w.grownBy w' none→K (a.put (some dc) cv) w')→o.wp P a w K Q
theorem map_loop {kT b rr n:Nat} (K:Keyed P kT) (hkT:P.underlying kT = some (.int .i64)) (hF:∀ t,w0.F t = none) {cell:V→Option (List D)} (L:LoopC) (dead:List Nat) (hdead:∀ t ∈ L.slots,t ∈ dead ∧ t < nt) (hnd:(L.it :: L.out :: L.slots).Nodup) (hout:L.out ∉ dead)
  {r1 r2 r3 b0 b1 S E:Nat} {oN oX e0 e1' e2' e3 e4 m1 m2 m3 oc oa os:Oper} {ei:TypeInfo}
  (hN:oN.guard = none ∧ oN.op = .next (.tmp L.it) false ∧ oN.dst = some L.nx) (hX:oX.guard = none ∧ oX.op = .extract (.tmp L.nx) 0 ∧ oX.dst = some L.ok)
  (h0e:e0.guard = none ∧ e0.op = .entry (.tmp L.it) ∧ e0.dst = some L.en) (h1e:e1'.guard = none ∧ e1'.op = .extract (.tmp L.en) 0 ∧ e1'.dst = some L.k1) (h2e:e2'.guard = none ∧ e2'.op = .extract (.tmp L.en) 1 ∧ e2'.dst = some L.v1)
  (h3e:e3.guard = none ∧ (e3.op = .assign (.tmp L.k1) ∨ e3.op = .move (.tmp L.k1)) ∧ e3.dst = some L.kk) (h4e:e4.guard = none ∧ (e4.op = .assign (.tmp L.v1) ∨ e4.op = .move (.tmp L.v1)) ∧ e4.dst = some L.vv)
  (h1m:m1.guard = none ∧ (m1.op = .assign (.tmp L.out) ∨ m1.op = .move (.tmp L.out)) ∧ m1.dst = some L.d1) (h2m:m2.guard = none ∧ (m2.op = .assign (.tmp L.kk) ∨ m2.op = .move (.tmp L.kk)) ∧ m2.dst = some L.d2) (h3m:m3.guard = none ∧ (m3.op = .assign (.tmp L.vv) ∨ m3.op = .move (.tmp L.vv)) ∧ m3.dst = some L.d3)
  (hc:oc.guard = none ∧ CellOk P nt cell oc L.d3 L.dc) (ha:oa.guard = none ∧ oa.op = .indexAddr S (.tmp L.d1) (.tmp L.d2) ∧ oa.dst = some L.da) (hs:os.guard = none ∧ os.op = .store E (.tmp L.da) (.tmp L.dc) ∧ os.dst = none)
  (hS:P.underlying S = some (.slice E)) (hE:P.info? E = some ei) (hE2:ei.size = 2)
  {fr0:Nat→V} {blk0:Nat→Option Blk} {id ver e:Nat} (hfo:fr0 L.out = .own id ver) {rows0:List (List D)} (hb0:blk0 id = some (.rows ver e 2 rows0)) {M:DataW Value} {c:Nat→Option (List D)}
  (hM:∀ (kl:Lit) (v:Value),Maps.has M kl = true→(∀ zd,M.atKey kl zd = .held v)→∃ (k:Nat) (d:V) (row:List D),kl = .int .i64 (k:Int) ∧ k < rows0.length ∧ R1 h hd blk0 v d ∧ (∀ x,d = .d x→(∃ k m,x = .int k m) ∨ ∃ q,x = .bool q) ∧ (∃ x,d = .d x) ∧ cell d = some row ∧ c k = some row ∧ row.length = 2 ∧ ∀ (j:Nat) (x:D),row[j]? = some x→flat1 x = true)
  (hin:∀ kl,Maps.has M kl = true→∃ k:Nat,kl = .int .i64 (k:Int)) {Q:Exit→Act→World→Prop} :
  ∀ (a:Act) (w:World) (fr:Nat→V) (left:Lit→Bool) (cnt:Nat) (rows:List (List D)),Rl nt w0 h0 fr (updB blk0 [(id,some (.rows ver e 2 rows))]) a w h hd→AgreeF dead fr0 fr→RowsAt c rows0 left rows→(∀ kl,left kl = true→Maps.has M kl = true) →
  w.ranges P kT anyR b rr n M left cnt→Side w0 h (updB blk0 [(id,some (.rows ver e 2 rows))]) hd rr→Side w0 h (updB blk0 [(id,some (.rows ver e 2 rows))]) hd b→a.tmps.getD L.it undef = .pointer (some ⟨rr,0,none⟩) →
  (∀ (a' : Act) (w' : World) (fr' : Nat→V) (rows' : List (List D)),Rl nt w0 h0 fr' (updB blk0 [(id,some (.rows ver e 2 rows'))]) a' w' h hd→AgreeF dead fr0 fr'→RowsAt c rows0 (fun _=>false) rows'→Q .normal a' w') →
  (Code.block b0 (.loop (.seq (.region r1 #[oN,oX] false) (.seq (.cond (.tmp L.ok) .skip (.exit b0)) (.block b1 (.seq (.region r2 #[e0,e1',e2',e3,e4] false) (.region r3 #[m1,m2,m3,oc,oa,os] false))))))).wp P Q a w:=by
 intro a w fr left cnt rows r hag hrows hleft hrg hsr hsb hit hQ
 simp only [LoopC.slots,List.nodup_cons,List.mem_cons,List.not_mem_nil,or_false,not_or,List.nodup_nil,not_false_eq_true,and_true] at hnd
 obtain ⟨⟨i_o,i_nx,i_ok,i_en,i_k1,i_v1,i_kk,i_vv,i_d1,i_d2,i_d3,i_dc,i_da⟩,⟨o_nx,o_ok,o_en,o_k1,o_v1,o_kk,o_vv,o_d1,o_d2,o_d3,o_dc,o_da⟩,⟨nx_ok,nx_en,nx_k1,nx_v1,nx_kk,nx_vv,nx_d1,nx_d2,nx_d3,nx_dc,nx_da⟩,⟨ok_en,ok_k1,ok_v1,ok_kk,ok_vv,ok_d1,ok_d2,ok_d3,ok_dc,ok_da⟩,⟨en_k1,en_v1,en_kk,en_vv,en_d1,en_d2,en_d3,en_dc,en_da⟩,⟨k1_v1,k1_kk,k1_vv,k1_d1,k1_d2,k1_d3,k1_dc,k1_da⟩,⟨v1_kk,v1_vv,v1_d1,v1_d2,v1_d3,v1_dc,v1_da⟩,⟨kk_vv,kk_d1,kk_d2,kk_d3,kk_dc,kk_da⟩,⟨vv_d1,vv_d2,vv_d3,vv_dc,vv_da⟩,⟨d1_d2,d1_d3,d1_dc,d1_da⟩,⟨d2_d3,d2_dc,d2_da⟩,⟨d3_dc,d3_da⟩,dc_da⟩:=hnd
 have hdl:∀ t ∈ L.slots,t ∈ dead ∧ t < nt:=hdead
 simp only [LoopC.slots,List.mem_cons,List.not_mem_nil,or_false,forall_eq_or_imp,forall_eq] at hdead
 obtain ⟨⟨p1,q1⟩,⟨p2,q2⟩,⟨p3,q3⟩,⟨p4,q4⟩,⟨p5,q5⟩,⟨p6,q6⟩,⟨p7,q7⟩,⟨p8,q8⟩,⟨p9,q9⟩,⟨p10,q10⟩,⟨p11,q11⟩,⟨p12,q12⟩⟩:=hdead
 refine wp_block ?_
 refine wp_loopN (fun k a w=>∃ (fr:Nat→V) (left:Lit→Bool) (cnt:Nat) (rows:List (List D)),cnt < k ∧ Rl nt w0 h0 fr (updB blk0 [(id,some (.rows ver e 2 rows))]) a w h hd ∧ AgreeF dead fr0 fr ∧ RowsAt c rows0 left rows ∧ (∀ kl,left kl = true→Maps.has M kl = true) ∧
  w.ranges P kT anyR b rr n M left cnt ∧ Side w0 h (updB blk0 [(id,some (.rows ver e 2 rows))]) hd rr ∧ Side w0 h (updB blk0 [(id,some (.rows ver e 2 rows))]) hd b ∧ a.tmps.getD L.it undef = .pointer (some ⟨rr,0,none⟩)) (fun a w ⟨_,_,_,_,q,_⟩=>by omega) ?_ (cnt + 1) a w ⟨fr,left,cnt,rows,by omega,r,hag,hrows,hleft,hrg,hsr,hsb,hit⟩
 clear hit hsb hsr hrg hleft hrows hag r rows cnt left fr w a
 rintro k a w ⟨fr,left,cnt,rows,hck,r,hag,hrows,hleft,hrg,hsr,hsb,hit⟩
 refine wp_seq (wp_region ?_)
 rw [show List.range (#[oN,oX]:Array Oper).size = [0,1] from rfl,wpOps_cons]
 refine wpOp_plain (o:=oN) rfl hN.1 ?_
 have hnext:=hrg.next K oN.type
 rw [← hit] at hnext
 rcases hnext with ⟨h0c,hl0,hrun⟩ | ⟨key,v,kl,y,w1,cnt',hkey,hlk,hv,hat,hrun,hrg1,hlt,hgr,hsz,hen⟩
 ·-- nothing is left
  refine wp_val (execOp_next hN.2.1) hrun ?_
  rw [hN.2.2]
  obtain ⟨aa,e1,ra,ga,oa'⟩:=putStep r hF q1 (.tuple #[.bool false]) .any trivial
  rw [e1,wpOps_cons]
  refine wpOp_plain (o:=oX) rfl hX.1 ?_
  refine wp_val (execOp_extract hX.2.1) (cv:=.bool false) (w':=w) (by rw [show aa.eval (.tmp L.nx) = .tuple #[.bool false] from ga]; simp [Instr.extract]) ?_
  rw [hX.2.2]
  obtain ⟨ab,e2,rb,gb,ob⟩:=putStep ra hF q2 (.bool false) .any trivial
  rw [e2]
  refine wp_seq (wp_cond_false gb (wp_exit ?_))
  simp only [Exit.then,Exit.inBlock,if_true]
  refine hQ _ _ _ rows rb ((hag.upd p1 _).upd p2 _) ?_
  obtain ⟨z1,z2⟩:=hrows
  refine ⟨z1,fun i hi=>?_⟩
  rw [z2 i hi]
  cases c i with
  | none=>rfl
  | some row=>simp [hl0]
 ·-- an entry has come
  obtain ⟨kn,dv,row,rfl,hklt,hRv,hdk,⟨xv,rfl⟩,hcell,hck',hrow2,hrowf⟩:=hM kl v (hleft kl hlk) (fun zd=>by
   have:=hat zd
   rw [this]
   simp only [anyR,Option.some.injEq] at hv
   rw [← hv])
  have hkeyv:key = .int .i64 (kn:Int):=by
   obtain ⟨z,z1,z2,_⟩:=keyOf_int_inv hkT hkey
   rw [z1]; cases z2; rfl
  refine wp_val (execOp_next hN.2.1) hrun ?_
  rw [hN.2.2]
  have rw1:=r.side hgr (fun g hg=>by cases hg; exact hsr)
  obtain ⟨aa,e1,ra,ga,oa'⟩:=putStep rw1 hF q1 (.tuple #[.bool true,key,v]) .any trivial
  rw [e1,wpOps_cons]
  refine wpOp_plain (o:=oX) rfl hX.1 ?_
  refine wp_val (execOp_extract hX.2.1) (cv:=.bool true) (w':=w1) (by rw [show aa.eval (.tmp L.nx) = .tuple #[.bool true,key,v] from ga]; simp [Instr.extract]) ?_
  rw [hX.2.2]
  obtain ⟨ab,e2,rb,gb,ob⟩:=putStep ra hF q2 (.bool true) .any trivial
  rw [e2]
  have itb:ab.tmps.getD L.it undef = .pointer (some ⟨rr,0,none⟩):=by rw [ob _ i_ok,oa' _ i_nx]; exact hit
  refine wp_seq (wp_cond_true gb (wp_skip ?_))
  simp only [Exit.then]
  refine wp_block (wp_seq (wp_region ?_))
  rw [show List.range (#[e0,e1',e2',e3,e4]:Array Oper).size = [0,1,2,3,4] from rfl,wpOps_cons]
  refine wpOp_plain (o:=e0) rfl h0e.1 ?_
  refine wp_val (execOp_entry h0e.2.1) (cv:=.tuple #[key,v]) (w':=w1) (by rw [show ab.eval (.tmp L.it) = .pointer (some ⟨rr,0,none⟩) from itb,← hit]; exact hen) ?_
  rw [h0e.2.2]
  obtain ⟨ac,e3x,rc,gc,oc'⟩:=putStep rb hF q3 (.tuple #[key,v]) .any trivial
  rw [e3x,wpOps_cons]
  refine wpOp_plain (o:=e1') rfl h1e.1 ?_
  refine wp_val (execOp_extract h1e.2.1) (cv:=key) (w':=w1) (by rw [show ac.eval (.tmp L.en) = .tuple #[key,v] from gc]; simp [Instr.extract]) ?_
  rw [h1e.2.2]
  obtain ⟨ad,e4x,rd,gd,od⟩:=putStep rc hF q4 key .any trivial
  have end' : ad.tmps.getD L.en undef = .tuple #[key,v]:=by rw [od _ en_k1]; exact gc
  rw [e4x,wpOps_cons]
  refine wpOp_plain (o:=e2') rfl h2e.1 ?_
  refine wp_val (execOp_extract h2e.2.1) (cv:=v) (w':=w1) (by rw [show ad.eval (.tmp L.en) = .tuple #[key,v] from end']; simp [Instr.extract]) ?_
  rw [h2e.2.2]
  obtain ⟨ae,e5x,re,ge,oe⟩:=putStep rd hF q5 v .any trivial
  rw [e5x,wpOps_cons]
  have k1e:ae.tmps.getD L.k1 undef = key:=by rw [oe _ k1_v1]; exact gd
  refine wpOp_plain (o:=e3) rfl h3e.1 ?_
  refine wp_val (execOp_assign h3e.2.1) (cv:=key) (w':=w1) (by rw [show ae.eval (.tmp L.k1) = key from k1e]; rfl) ?_
  rw [h3e.2.2]
  obtain ⟨af,e6x,rf,gf,of'⟩:=putStep re hF q6 key (.d (.int .i64 (kn:Int))) ⟨rfl,by rw [hkeyv]; exact .int _ _⟩
  rw [e6x,wpOps_cons]
  have v1f:af.tmps.getD L.v1 undef = v:=by rw [of' _ v1_kk]; exact ge
  refine wpOp_plain (o:=e4) rfl h4e.1 ?_
  refine wp_val (execOp_assign h4e.2.1) (cv:=v) (w':=w1) (by rw [show af.eval (.tmp L.v1) = v from v1f]; rfl) ?_
  rw [h4e.2.2]
  have hRv' : ∀ bl',R3 h hd bl' v (.d xv):=fun _=>hRv
  obtain ⟨ag,e7x,rg,gg,og⟩:=putStep rf hF q7 v (.d xv) (hRv' _)
  rw [e7x]
  refine wp_region ?_
  rw [show List.range (#[m1,m2,m3,oc,oa,os]:Array Oper).size = [0,1,2,3,4,5] from rfl,wpOps_cons]
  -- out
  have foa:updF (updF (updF (updF (updF (updF (updF fr (some L.nx) .any) (some L.ok) .any) (some L.en) .any) (some L.k1) .any) (some L.v1) .any) (some L.kk) (.d (.int .i64 (kn:Int)))) (some L.vv) (.d xv) L.out = .own id ver:=by
   have:AgreeF dead fr0 (updF (updF (updF (updF (updF (updF (updF fr (some L.nx) .any) (some L.ok) .any) (some L.en) .any) (some L.k1) .any) (some L.v1) .any) (some L.kk) (.d (.int .i64 (kn:Int)))) (some L.vv) (.d xv)):=((((((hag.upd p1 _).upd p2 _).upd p3 _).upd p4 _).upd p5 _).upd p6 _).upd p7 _
   rw [this _ hout]; exact hfo
  have agg:AgreeF dead fr0 (updF (updF (updF (updF (updF (updF (updF fr (some L.nx) .any) (some L.ok) .any) (some L.en) .any) (some L.k1) .any) (some L.v1) .any) (some L.kk) (.d (.int .i64 (kn:Int)))) (some L.vv) (.d xv)):=((((((hag.upd p1 _).upd p2 _).upd p3 _).upd p4 _).upd p5 _).upd p6 _).upd p7 _
  have kkg:ag.tmps.getD L.kk undef = key:=by rw [og _ kk_vv]; exact gf
  generalize updF (updF (updF (updF (updF (updF (updF fr (some L.nx) .any) (some L.ok) .any) (some L.en) .any) (some L.k1) .any) (some L.v1) .any) (some L.kk) (.d (.int .i64 (kn:Int)))) (some L.vv) (.d xv) = frg at rg foa agg
  have houtv:=rg.frame L.out
  rw [foa] at houtv
  refine wpOp_plain (o:=m1) rfl h1m.1 ?_
  refine wp_val (execOp_assign h1m.2.1) (cv:=ag.tmps.getD L.out undef) (w':=w1) rfl ?_
  rw [h1m.2.2]
  obtain ⟨ah,e8x,rh,gh,oh⟩:=putStep rg hF q8 (ag.tmps.getD L.out undef) (.own id ver) houtv
  rw [e8x,wpOps_cons]
  have kkh:ah.tmps.getD L.kk undef = key:=by rw [oh _ kk_d1]; exact kkg
  refine wpOp_plain (o:=m2) rfl h2m.1 ?_
  refine wp_val (execOp_assign h2m.2.1) (cv:=key) (w':=w1) (by rw [show ah.eval (.tmp L.kk) = key from kkh]; rfl) ?_
  rw [h2m.2.2]
  obtain ⟨ai,e9x,ri,gi,oi⟩:=putStep rh hF q9 key (.d (.int .i64 (kn:Int))) ⟨rfl,by rw [hkeyv]; exact .int _ _⟩
  rw [e9x,wpOps_cons]
  have vvi:ai.tmps.getD L.vv undef = v:=by rw [oi _ vv_d2,oh _ vv_d1]; exact gg
  refine wpOp_plain (o:=m3) rfl h3m.1 ?_
  refine wp_val (execOp_assign h3m.2.1) (cv:=v) (w':=w1) (by rw [show ai.eval (.tmp L.vv) = v from vvi]; rfl) ?_
  rw [h3m.2.2]
  obtain ⟨aj,e10x,rj,gj,oj⟩:=putStep ri hF q10 v (.d xv) (hRv' _)
  rw [e10x,wpOps_cons]
  refine wpOp_plain (o:=oc) rfl hc.1 ?_
  have agj:AgreeF dead fr0 (updF (updF (updF frg (some L.d1) (.own id ver)) (some L.d2) (.d (.int .i64 (kn:Int)))) (some L.d3) (.d xv)):=((agg.upd p8 _).upd p9 _).upd p10 _
  have f1:updF (updF (updF frg (some L.d1) (.own id ver)) (some L.d2) (.d (.int .i64 (kn:Int)))) (some L.d3) (.d xv) L.d1 = .own id ver:=by
   simp only [updF,Option.some.injEq]; rw [if_neg (Ne.symm d1_d3),if_neg (Ne.symm d1_d2),if_pos trivial]
  have f2:updF (updF (updF frg (some L.d1) (.own id ver)) (some L.d2) (.d (.int .i64 (kn:Int)))) (some L.d3) (.d xv) L.d2 = .d (.int .i64 (kn:Int)):=by
   simp only [updF,Option.some.injEq]; rw [if_neg (Ne.symm d2_d3),if_pos trivial]
  have f3:updF (updF (updF frg (some L.d1) (.own id ver)) (some L.d2) (.d (.int .i64 (kn:Int)))) (some L.d3) (.d xv) L.d3 = .d xv:=by
   simp only [updF,Option.some.injEq]; rw [if_pos trivial]
  have itj:aj.tmps.getD L.it undef = .pointer (some ⟨rr,0,none⟩):=by
   rw [oj _ i_d3,oi _ i_d2,oh _ i_d1,og _ i_vv,of' _ i_kk,oe _ i_v1,od _ i_k1,oc' _ i_en]; exact itb
  generalize updF (updF (updF frg (some L.d1) (.own id ver)) (some L.d2) (.d (.int .i64 (kn:Int)))) (some L.d3) (.d xv) = frj at rj agj f1 f2 f3
  refine hc.2 w0 w1 h0 h frj _ aj hd row _ _ hF rj (by rw [f3]; exact hcell) fun cv w2 rk gr2=>?_
  have hokk:=getD_put' rj q11 cv
  rw [wpOps_cons]
  refine wpOp_plain (o:=oa) rfl ha.1 ?_
  have x1:updF frj (some L.dc) (.agg (row.map .d)) L.d1 = .own id ver:=by simp only [updF,Option.some.injEq]; rw [if_neg (Ne.symm d1_dc)]; exact f1
  have x2:updF frj (some L.dc) (.agg (row.map .d)) L.d2 = .d (.int .i64 (kn:Int)):=by simp only [updF,Option.some.injEq]; rw [if_neg (Ne.symm d2_dc)]; exact f2
  have x3:updF frj (some L.dc) (.agg (row.map .d)) L.dc = .agg (row.map .d):=by simp only [updF,Option.some.injEq]; rw [if_pos trivial]
  have x4:AgreeF dead fr0 (updF frj (some L.dc) (.agg (row.map .d))):=agj.upd p11 _
  have itk:(aj.put (some L.dc) cv).tmps.getD L.it undef = .pointer (some ⟨rr,0,none⟩):=by rw [hokk,if_neg (Ne.symm i_dc)]; exact itj
  generalize updF frj (some L.dc) (.agg (row.map .d)) = frk at rk x1 x2 x3 x4
  generalize aj.put (some L.dc) cv = ak at rk itk
  obtain ⟨z1,z2⟩:=hrows
  have hz1:=rk.frame L.d1
  have hz2:=rk.frame L.d2
  rw [x1] at hz1
  rw [x2] at hz2
  have hidx:aop (fun _ _=>none) 0 (evo frk) (updB blk0 [(id,some (.rows ver e 2 rows))]) (.indexAddr ei.size (.t L.d1) (.t L.d2)) = some (.orow id ver kn 0,[]):=by
   simp only [aop,evo,x1,x2,updB_self]
   rw [if_pos ⟨trivial,hE2.symm,by omega,by simp; omega⟩]
   simp
  obtain ⟨_,pv,hpr,hpv⟩:=index_run (P:=P) hS hE rk (x:=.t L.d1) (j:=.t L.d2) (rk.frame L.d1) (rk.frame L.d2) hidx
  refine wp_val (s:=Instr.indexAt S (ak.eval (.tmp L.d1)) (ak.eval (.tmp L.d2))) (by simp [execOp,ha.2.1]) hpr ?_
  rw [ha.2.2]
  obtain ⟨al,e12x,rl,gl,ol⟩:=putStep rk hF q12 pv (.orow id ver kn 0) hpv
  rw [e12x,wpOps_cons]
  refine wpOp_plain (o:=os) rfl hs.1 ?_
  have hrowk:∃ row0,rows[kn]? = some row0 ∧ row0.length = 2:=by
   have hlt:kn < rows.length:=by omega
   obtain ⟨_,_,⟨xs,_,hri⟩,_⟩:=rk.blk id _ (updB_self _ _ _)
   exact ⟨rows[kn],by simp [hlt],(hri kn rows[kn] (by simp [hlt])).1⟩
  obtain ⟨row0,hr0,hr02⟩:=hrowk
  have hcvk:R3 h hd (updB blk0 [(id,some (.rows ver e 2 rows))]) (ak.tmps.getD L.dc undef) (.agg (row.map .d)):=by
   have:=rk.frame L.dc
   rw [x3] at this
   exact this
  have hdcl:al.tmps.getD L.dc undef = ak.tmps.getD L.dc undef:=ol _ dc_da
  obtain ⟨arr,harr,hasz,hac⟩:=hcvk
  obtain ⟨w3,hst,hgr3,rm⟩:=storeRow_ok0 rl hE (xv:=pv) (vv:=.agg arr) (by
    have:=rl.frame L.da
    rw [gl] at this
    simpa [updF] using this) (updB_self _ _ _) hr0 (ds:=row) (off:=0) (by
    intro j x hx
    have hxx:(row.map V.d)[j]? = some (.d x):=by simp [hx]
    obtain ⟨y1,y2⟩:=hac j (.d x) hxx
    exact ⟨y1.1,y1.2,y2⟩) (by have:=hasz; rw [List.length_map] at this; exact this) (by rw [hrow2,hE2]) (by omega) none (fun x e=>by cases e) undef
  refine wp_unit (s:=Instr.storeAt E (al.eval (.tmp L.da)) (al.eval (.tmp L.dc))) (by simp [execOp,hs.2.1]) (by rw [show al.eval (.tmp L.da) = pv from gl,show al.eval (.tmp L.dc) = .agg arr from hdcl.trans harr]; exact hst) ?_
  rw [hs.2.2]
  have hset:setAt row0 0 row = row:=by
   match row0,row,hr02,hrow2 with
   | [_,_],[_,_],_,_=>rfl
  rw [hset] at rm
  have hbb:updB (updB blk0 [(id,some (.rows ver e 2 rows))]) [(id,some (.rows ver e 2 (rows.set kn row)))] = updB blk0 [(id,some (.rows ver e 2 (rows.set kn row)))]:=by
   funext q; simp only [updB,lk]; split <;> rfl
  rw [hbb] at rm
  have hside:∀ g,Side w0 h (updB blk0 [(id,some (.rows ver e 2 rows))]) hd g→Side w0 h (updB blk0 [(id,some (.rows ver e 2 (rows.set kn row)))]) hd g:=fun g hg=>⟨hg.own,hg.out,fun q bq hq hlq=>by
   by_cases eq:q = id
   ·subst eq; exact hg.off _ _ (updB_self _ _ _) rfl
   ·rw [updB_ne _ _ eq] at hq; exact hg.off q bq (by rw [updB_ne _ _ eq]; exact hq) hlq⟩
  have hng:∀ g,Side w0 h (updB blk0 [(id,some (.rows ver e 2 rows))]) hd g→some g ≠ (hd id).ownBlock:=fun g hg q=>by
   obtain ⟨_,_,⟨xs,ho,_⟩,_⟩:=rk.blk id _ (updB_self _ _ _)
   exact hg.off _ _ (updB_self _ _ _) rfl (ho.num.trans q.symm)
  have hrg2:=(hrg1.kept gr2 (by simp) (by simp)).kept hgr3 (hng b hsb) (hng rr hsr)
  refine ⟨_,_,cnt',rows.set kn row,by omega,rm,?_,?_,?_,hrg2,hside _ hsr,hside _ hsb,?_⟩
  ·have:=x4.upd p12 (.orow id ver kn 0)
   intro t ht
   simp only [updF] at this ⊢
   exact this t ht
  ·refine ⟨by simp [z1],fun i hi=>?_⟩
   rw [List.getElem?_set]
   by_cases hik:kn = i
   ·subst hik
    rw [if_pos rfl,if_pos (by omega),hck']
    simp [Lit.sameKey]
   ·rw [if_neg hik,z2 i hi]
    have:Lit.sameKey (.int .i64 (i:Int)) (.int .i64 (kn:Int)) = false:=by
     simp [Lit.sameKey]; omega
    simp [this]
  ·intro kl hkl
   simp only [Bool.and_eq_true] at hkl
   exact hleft kl hkl.1
  ·show (al.put none undef).tmps.getD L.it undef = _
   rw [show al.put none undef = al from rfl,ol _ i_da]
   exact itk
theorem isKey_int (k:Nat):WideAt.IsKeyLit (.int .i64 (k:Int)):=by simp [WideAt.IsKeyLit]
theorem nodup_at {l:List Nat} (h:l.Nodup) {i j x:Nat} (hi:l[i]? = some x) (hj:l[j]? = some x):i = j:=by
 obtain ⟨i1,i2⟩:=List.getElem?_eq_some_iff.1 hi
 obtain ⟨j1,j2⟩:=List.getElem?_eq_some_iff.1 hj
 have H:=List.pairwise_iff_getElem.1 h
 rcases Nat.lt_trichotomy i j with q | q | q
 ·exact absurd (i2.trans j2.symm) (H i j i1 j1 q)
 ·exact q
 ·exact absurd (j2.trans i2.symm) (H j i j1 i1 q)
theorem snocInd {α:Type} {M:List α→Prop} (h0:M []) (h1:∀ l x,M l→M (l ++ [x])) (l:List α):M l:=by
 have key:∀ l:List α,M l.reverse:=by
  intro l
  induction l with
  | nil=>exact h0
  | cons x l ih=>rw [List.reverse_cons]; exact h1 _ x ih
 rw [← List.reverse_reverse l]
 exact key _
theorem mapOf_spec (es:List (Nat × Value)):Maps.IsMap (mapOf es) ∧ (∀ kl,Maps.has (mapOf es) kl = true→∃ k:Nat,kl = .int .i64 (k:Int) ∧ k ∈ es.map (·.1)) ∧
  ((es.map (·.1)).Nodup→∀ k v,(k,v) ∈ es→∀ zd,(mapOf es).atKey (.int .i64 (k:Int)) zd = .held v):=by
 refine snocInd (M:=fun es=>Maps.IsMap (mapOf es) ∧ (∀ kl,Maps.has (mapOf es) kl = true→∃ k:Nat,kl = .int .i64 (k:Int) ∧ k ∈ es.map (·.1)) ∧
  ((es.map (·.1)).Nodup→∀ k v,(k,v) ∈ es→∀ zd,(mapOf es).atKey (.int .i64 (k:Int)) zd = .held v)) ?_ ?_ es
 ·exact ⟨Maps.isMap_empty,fun kl h=>by simp [mapOf,Maps.has_eq] at h,fun _ k v h=>by simp at h⟩
 ·rintro es ⟨k0,v0⟩ ih
  obtain ⟨h1,h2,h3⟩:=ih
  rw [mapOf_snoc]
  refine ⟨h1.put _ _,fun kl h=>?_,fun hn k v hm zd=>?_⟩
  ·by_cases e:kl = .int .i64 (k0:Int)
   ·exact ⟨k0,e,by simp⟩
   ·rw [Maps.has_put_other e] at h
    obtain ⟨k,q1,q2⟩:=h2 kl h
    exact ⟨k,q1,by simp at q2 ⊢; exact .inl q2⟩
  ·rw [List.map_append,List.nodup_append] at hn
   obtain ⟨n1,_,n3⟩:=hn
   rcases List.mem_append.1 hm with q | q
   ·have hne:k ≠ k0:=n3 k (List.mem_map.2 ⟨_,q,rfl⟩) k0 (by simp)
    rw [Maps.atKey_put_other (by intro e; cases e; exact hne (by omega))]
    exact h3 n1 k v q zd
   ·simp only [List.mem_singleton,Prod.mk.injEq] at q
    obtain ⟨rfl,rfl⟩:=q
    exact Maps.atKey_put_same h1 (isKey_int _) _ _
def cOf (cell:V→Option (List D)) (s:St) (ks:List (Nat × Nat)) (i:Nat):Option (List D):=(ks.find? fun p=>p.1 == i).bind fun p=>cell (s.get p.2)
theorem setsL_spec {cell:V→Option (List D)} {s:St}:∀ {ks:List (Nat × Nat)} {rows rows' : List (List D)},setsL cell s ks rows = some rows'→(ks.map (·.1)).Nodup→rows'.length = rows.length ∧ (∀ p ∈ ks,p.1 < rows.length ∧ ∃ row,cell (s.get p.2) = some row) ∧
  ∀ i,i < rows.length→rows'[i]? = match cOf cell s ks i with | some row=>some row | none=>rows[i]?
 | [],rows,rows',e,_=>by cases e; exact ⟨rfl,fun p hp=>by simp at hp,fun i _=>rfl⟩
 | (k,t) :: ks,rows,rows',e,hn=>by
  simp only [setsL] at e
  split at e
  ·rename_i row hrow
   split at e
   ·rename_i hk
    simp only [List.map_cons,List.nodup_cons] at hn
    obtain ⟨h1,h2,h3⟩:=setsL_spec e hn.2
    rw [List.length_set] at h1 h2 h3
    refine ⟨h1,fun p hp=>?_,fun i hi=>?_⟩
    ·rcases List.mem_cons.1 hp with rfl | hp
     ·exact ⟨hk,row,hrow⟩
     ·exact h2 p hp
    ·rw [h3 i hi]
     by_cases e2:k = i
     ·subst e2
      have hnone:cOf cell s ks k = none:=by
       unfold cOf
       have:ks.find? (fun p=>p.1 == k) = none:=by
        rw [List.find?_eq_none]
        intro p hp hpk
        simp only [beq_iff_eq] at hpk
        exact hn.1 (List.mem_map.2 ⟨p,hp,hpk⟩)
       rw [this]; rfl
      rw [hnone]
      simp [cOf,hrow,hk]
     ·have:cOf cell s ((k,t) :: ks) i = cOf cell s ks i:=by
       unfold cOf
       rw [List.find?_cons_of_neg (by simpa using e2)]
      rw [this,List.getElem?_set_ne e2]
   ·cases e
  ·cases e
theorem Rl.forget (r:Rl nt w0 h0 fr bl a w h hd) {dead:List Nat} {s:St} (hag:AgreeF dead s.get fr) (b:List (Nat × Option Blk)) (hbl:bl = (⟨deadS dead s,b⟩ : St).blk):Rl nt w0 h0 (⟨deadS dead s,b⟩ : St).get (⟨deadS dead s,b⟩ : St).blk a w h hd:=by
 have hget:∀ t,(⟨deadS dead s,b⟩ : St).get t = if t ∈ dead then .any else s.get t:=by
  intro t
  simp only [St.get,deadS]
  rw [lk_app,lk_map (fun _=>V.any)]
 have hf:∀ t,R3 h hd bl (a.tmps.getD t undef) ((⟨deadS dead s,b⟩ : St).get t):=by
  intro t
  rw [hget]
  split
  ·trivial
  ·rename_i hn
   rw [← hag t hn]
   exact r.frame t
 rw [← hbl]
 exact { r with frame:=hf }
def cFst:Code→Code
 | .seq a _=>a
 | c=>c
def cSnd:Code→Code
 | .seq _ b=>b
 | c=>c
def opsOf:Code→Array Oper
 | .region _ ops _=>ops
 | _=>#[]
theorem info_parts {P:Program} {e:TypeId} {z:Value} {s b:Nat} (h:(P.info? e).map (fun i=>(i.zero,i.size,i.bytes)) = some (some z,s,b)):∃ i,P.info? e = some i ∧ i.zero = some z ∧ i.size = s ∧ i.bytes = b:=by
 cases hi:P.info? e with
 | none=>rw [hi] at h; cases h
 | some i=>rw [hi] at h; simp only [Option.map_some,Option.some.injEq,Prod.mk.injEq] at h; exact ⟨i,rfl,h.1,h.2.1,h.2.2⟩
def AllP {α:Type} (Q:α→Prop):List α→Prop
 | []=>True
 | x :: l=>Q x ∧ AllP Q l
theorem AllP.all {α:Type} {Q:α→Prop}:∀ {l:List α},AllP Q l→∀ x ∈ l,Q x
 | [],_,x,h=>by simp at h
 | y :: l,q,x,h=>by
  rcases List.mem_cons.1 h with rfl | h
  ·exact q.1
  ·exact AllP.all q.2 x h
def okLater:List (Oper × MItem)→Bool
 | []=>true
 | (_,.vm _) :: l=>okLater l
 | (_,.ins _ t) :: l=>(l.all fun q=>q.1.dst != some t) && okLater l
theorem later_pw:∀ {l:List (Oper × MItem)},okLater l = true→l.Pairwise (fun p q=>∀ k t,p.2 = .ins k t→q.1.dst ≠ some t)
 | [],_=>List.Pairwise.nil
 | (_,.vm _) :: l,h=>List.pairwise_cons.2 ⟨fun q _ k t e=>(by cases e),later_pw (l:=l) h⟩
 | (_,.ins k t) :: l,h=>by
  simp only [okLater,Bool.and_eq_true] at h
  refine List.pairwise_cons.2 ⟨fun q hq k' t' e=>?_,later_pw h.2⟩
  cases e
  have:=List.all_eq_true.1 h.1 q hq
  simpa using this
theorem map_piece {T kT eT tm mv:Nat} (hT:P.underlying T = some (.map kT eT)) (hkT:P.underlying kT = some (.int .i64)) {cell:V→Option (List D)} (hcf:∀ d row,cell d = some row→(∃ x,d = .d x ∧ ((∃ k m,x = .int k m) ∨ ∃ q,x = .bool q)) ∧ row.length = 2 ∧ ∀ (j:Nat) (x:D),row[j]? = some x→flat1 x = true)
  (L:LoopC) (dead:List Nat) (hdead:∀ t ∈ L.slots,t ∈ dead ∧ t < nt) (hnd:(L.it :: L.out :: L.slots).Nodup) (hout:L.out ∉ dead) (htm:tm ∈ dead ∧ tm < nt) (hmvd:mv ∈ dead ∧ mv < nt) (hitd:L.it ∈ dead ∧ L.it < nt) (hmi:mv ≠ L.it)
  {items:List (Oper × MItem)} {oMake oMv oRg:Oper} (hmk:oMake.guard = none ∧ oMake.op = .makeMap T none ∧ oMake.dst = some tm) (hmv:oMv.guard = none ∧ oMv.op = .move (.tmp tm) ∧ oMv.dst = some mv) (hrg:oRg.guard = none ∧ oRg.op = .range T (.tmp mv) ∧ oRg.dst = some L.it)
  (hitems' : AllP (ItemOk P nt T tm) items) (hpw' : okLater items = true) (hlen:items.length < 1000) (hkn:((inssOf items).map (·.1)).Nodup)
  {rid r1 r2 r3 b0 b1 S E:Nat} {oN oX e0 e1' e2' e3 e4 m1 m2 m3 oc oa os:Oper} {ei:TypeInfo}
  (hN:oN.guard = none ∧ oN.op = .next (.tmp L.it) false ∧ oN.dst = some L.nx) (hX:oX.guard = none ∧ oX.op = .extract (.tmp L.nx) 0 ∧ oX.dst = some L.ok)
  (h0e:e0.guard = none ∧ e0.op = .entry (.tmp L.it) ∧ e0.dst = some L.en) (h1e:e1'.guard = none ∧ e1'.op = .extract (.tmp L.en) 0 ∧ e1'.dst = some L.k1) (h2e:e2'.guard = none ∧ e2'.op = .extract (.tmp L.en) 1 ∧ e2'.dst = some L.v1)
  (h3e:e3.guard = none ∧ (e3.op = .assign (.tmp L.k1) ∨ e3.op = .move (.tmp L.k1)) ∧ e3.dst = some L.kk) (h4e:e4.guard = none ∧ (e4.op = .assign (.tmp L.v1) ∨ e4.op = .move (.tmp L.v1)) ∧ e4.dst = some L.vv)
  (h1m:m1.guard = none ∧ (m1.op = .assign (.tmp L.out) ∨ m1.op = .move (.tmp L.out)) ∧ m1.dst = some L.d1) (h2m:m2.guard = none ∧ (m2.op = .assign (.tmp L.kk) ∨ m2.op = .move (.tmp L.kk)) ∧ m2.dst = some L.d2) (h3m:m3.guard = none ∧ (m3.op = .assign (.tmp L.vv) ∨ m3.op = .move (.tmp L.vv)) ∧ m3.dst = some L.d3)
  (hc:oc.guard = none ∧ CellOk P nt cell oc L.d3 L.dc) (ha:oa.guard = none ∧ oa.op = .indexAddr S (.tmp L.d1) (.tmp L.d2) ∧ oa.dst = some L.da) (hs:os.guard = none ∧ os.op = .store E (.tmp L.da) (.tmp L.dc) ∧ os.dst = none)
  (hS:P.underlying S = some (.slice E)) (hE:P.info? E = some ei) (hE2:ei.size = 2) {ops:Array Oper} (hops:ops = (oMake :: (items.map (·.1) ++ [oMv,oRg])).toArray) :
  BodyOk P nt (.seq (.region rid ops false) (.block b0 (.loop (.seq (.region r1 #[oN,oX] false) (.seq (.cond (.tmp L.ok) .skip (.exit b0)) (.block b1 (.seq (.region r2 #[e0,e1',e2',e3,e4] false) (.region r3 #[m1,m2,m3,oc,oa,os] false))))))))
   (.seq (.region (⟨some tm,.move (.c .any),none⟩ :: vmsOf items) none) (.hand (handG L.out cell (inssOf items) dead))):=by
 have hitems:=hitems'.all
 have hpw:=later_pw hpw'
 intro C hC n w0 h0 s s' ex a w h hd Q hF he r hQ
 simp only [evalN,runRegion,runOps] at he
 have h1:runOp C ⟨some tm,.move (.c .any),none⟩ s = some (s.put (some tm) .any []):=rfl
 rw [h1] at he
 simp only at he
 cases hrun:runOps C (vmsOf items) (s.put (some tm) .any []) with
 | none=>rw [hrun] at he; cases he
 | some s0 =>
  rw [hrun] at he
  simp only at he
  cases hg:handG L.out cell (inssOf items) dead s0 with
  | none=>rw [hg] at he; cases he
  | some s1 =>
   rw [hg] at he
   cases he
   unfold handG at hg
   split at hg
   ·rename_i id ver hfo
    split at hg
    ·rename_i v e size rows hb
     split at hg
     ·rename_i hvs
      obtain ⟨rfl,rfl⟩:=hvs
      split at hg
      ·rename_i rows' hsl
       cases hg
       subst hops
       obtain ⟨z1,z2,z3⟩:=setsL_spec hsl hkn
       refine wp_seq (wp_region ?_)
       have hrange:List.range ((oMake :: (items.map (·.1) ++ [oMv,oRg])).toArray).size = 0 :: (List.range' 1 items.length ++ [items.length + 1,items.length + 2]):=by
        rw [List.range_eq_range']
        simp only [List.size_toArray,List.length_cons,List.length_append,List.length_map,List.length_nil]
        rw [show items.length + (0 + 1 + 1) + 1 = (items.length + 2) + 1 by omega,List.range'_succ]
        congr 1
        rw [show (0:Nat) + 1 = 1 by rfl,← List.range'_append_1]
        congr 1
        simp [List.range'_succ]
        omega
       rw [hrange,wpOps_cons]
       refine wpOp_plain (o:=oMake) (by simp) hmk.1 ?_
       refine wp_val (s:=Instr.makeMap T none) (by simp [execOp,hmk.2.1]) (run_makeMap_plain' T w) ?_
       rw [hmk.2.2]
       have r1:=r.side (World.grownBy_alloc w (.map #[] 0) none) (fun g hg=>by cases hg)
       obtain ⟨a1,e1,ra,ga,oa1⟩:=putStep r1 hF htm.2 (.map (some w.heap.size)) .any trivial
       rw [e1]
       have hS1:Side w0 h s.blk hd w.heap.size:=Side.new r (Nat.le_refl _)
       have hupd:updF s.get (some tm) .any = (s.put (some tm) .any []).get:=by
        funext t; simp only [St.put,St.get,lk,updF,Option.some.injEq]
        by_cases e:t = tm
        ·simp [e]
        ·rw [if_neg e,if_neg (Ne.symm e)]
       rw [hupd] at ra
       refine region_items hT hkT hF items 1 0 (s.put (some tm) .any []) s0 a1 [] _ (fun j p hp=>?_) hitems hpw (by unfold maxLen; omega) hrun ra (World.ownsMap_made w P kT anyR) hS1 ga ?_
       ·have hj:=(List.getElem?_eq_some_iff.1 hp).1
        simp only [List.getElem?_toArray]
        rw [show 1 + j = j + 1 by omega,List.getElem?_cons_succ,List.getElem?_append_left (by simpa using hj),List.getElem?_map,hp]
        rfl
       ·intro a2 w2 es r2 hbl2 hm2 ht2 hent
        have hblk:s0.blk = s.blk:=hbl2
        rw [wpOps_cons]
        have q1:((oMake :: (items.map (·.1) ++ [oMv,oRg])).toArray)[items.length + 1]? = some oMv:=by
         simp only [List.getElem?_toArray,List.getElem?_cons_succ]
         rw [List.getElem?_append_right (by simp)]
         simp
        have q2:((oMake :: (items.map (·.1) ++ [oMv,oRg])).toArray)[items.length + 2]? = some oRg:=by
         simp only [List.getElem?_toArray,List.getElem?_cons_succ]
         rw [List.getElem?_append_right (by simp)]
         simp
        refine wpOp_plain (o:=oMv) q1 hmv.1 ?_
        refine wp_val (execOp_assign (.inr hmv.2.1)) (cv:=.map (some w.heap.size)) (w':=w2) (by rw [show a2.eval (.tmp tm) = .map (some w.heap.size) from ht2]; rfl) ?_
        rw [hmv.2.2]
        obtain ⟨a3,e3x,r3,g3,o3⟩:=putStep r2 hF hmvd.2 (.map (some w.heap.size)) .any trivial
        rw [e3x,wpOps_cons]
        refine wpOp_plain (o:=oRg) q2 hrg.1 ?_
        obtain ⟨w4,g4,g5,g6,g7⟩:=hm2.range (int_keyed hkT) hT
        refine wp_val (s:=Instr.range T (a3.eval (.tmp mv))) (by simp [execOp,hrg.2.1]) (by rw [show a3.eval (.tmp mv) = .map (some w.heap.size) from g3]; exact g4) ?_
        rw [hrg.2.2]
        have r4:=r3.side g6 (fun g hg=>by cases hg)
        obtain ⟨a5,e5x,r5,g8,o5⟩:=putStep r4 hF hitd.2 (.pointer (some ⟨w2.heap.size,0,none⟩)) .any trivial
        rw [e5x]
        simp only [List.nil_append,Nat.zero_add] at g5 hm2
        have hS2:Side w0 h s0.blk hd w2.heap.size:=Side.new r2 (Nat.le_refl _)
        have hself:updB s0.blk [(id,some (.rows ver e 2 rows))] = s0.blk:=by
         funext q
         by_cases eq:q = id
         ·subst eq; rw [updB_self,hb]
         ·rw [updB_ne _ _ eq]
        have hag:AgreeF dead s0.get (updF (updF s0.get (some mv) .any) (some L.it) .any):=((show AgreeF dead s0.get s0.get from fun _ _=>rfl).upd hmvd.1 _).upd hitd.1 _
        obtain ⟨m1s,m2s,m3s⟩:=mapOf_spec es
        have hkeys:es.map (·.1) = (inssOf items).map (·.1):=hent.1
        show (Code.block b0 _).wp P Q a5 w4
        refine map_loop (int_keyed hkT) hkT hF L dead hdead hnd hout hN hX h0e h1e h2e h3e h4e h1m h2m h3m hc ha hs hS hE hE2 (fr0:=s0.get) (blk0:=s0.blk) hfo hb (M:=mapOf es) (c:=cOf cell s0 (inssOf items)) ?_ (fun kl hkl=>?_) a5 w4 _ (Maps.has (mapOf es)) _ rows (by rw [hself]; exact r5) hag ⟨rfl,fun i hi=>?_⟩ (fun kl h=>h) g5 (by rw [hself]; exact hS2) (by rw [hself,hblk]; exact hS1) g8 ?_
        ·intro kl v hkl hat
         obtain ⟨k,rfl,hk⟩:=m2s kl hkl
         obtain ⟨⟨k',v'⟩,hp,rfl⟩:=List.mem_map.1 hk
         have hv':=m3s (by rw [hkeys]; exact hkn) k' v' hp .nil
         rw [hat .nil] at hv'
         cases hv'
         obtain ⟨j,hj⟩:=List.mem_iff_getElem?.1 hp
         have hj2:((inssOf items).map (·.1))[j]? = some k':=by rw [← hkeys,List.getElem?_map,hj]; rfl
         rw [List.getElem?_map,Option.map_eq_some_iff] at hj2
         obtain ⟨⟨k2,t⟩,hj3,rfl⟩:=hj2
         have hR:=hent.2 j k2 t v hj hj3
         obtain ⟨zk,row,hrow⟩:=z2 (k2,t) (List.mem_of_getElem? hj3)
         obtain ⟨⟨x,hx,hxx⟩,hl2,hfl⟩:=hcf _ row hrow
         refine ⟨k2,.d x,row,rfl,zk,?_,fun y hy=>?_,⟨x,rfl⟩,by rw [← hx]; exact hrow,?_,hl2,hfl⟩
         ·simp only at hx
          rw [hx] at hR
          exact hR
         ·cases hy; exact hxx
         ·unfold cOf
          have hfind:(inssOf items).find? (fun p=>p.1 == k2) = some (k2,t):=by
           cases hf:(inssOf items).find? (fun p=>p.1 == k2) with
           | none =>
            rw [List.find?_eq_none] at hf
            have:=hf _ (List.mem_of_getElem? hj3)
            simp at this
           | some p =>
            have h1:=List.mem_of_find?_eq_some hf
            have h2:=List.find?_some hf
            simp only [beq_iff_eq] at h2
            obtain ⟨i,hi⟩:=List.mem_iff_getElem?.1 h1
            have:i = j:=by
             have a1:((inssOf items).map (·.1))[i]? = some k2:=by rw [List.getElem?_map,hi,← h2]; rfl
             have a2:((inssOf items).map (·.1))[j]? = some k2:=by rw [List.getElem?_map,hj3]; rfl
             exact nodup_at hkn a1 a2
            subst this
            rw [hj3] at hi
            exact hi ▸ rfl
          rw [hfind]
          exact hrow
        ·obtain ⟨k,q,_⟩:=m2s kl hkl
         exact ⟨k,q⟩
        ·cases hci:cOf cell s0 (inssOf items) i with
         | none=>rfl
         | some row =>
          simp only
          have hmem:∃ v,(i,v) ∈ es:=by
           unfold cOf at hci
           cases hf:(inssOf items).find? (fun p=>p.1 == i) with
           | none=>rw [hf] at hci; cases hci
           | some p =>
            have h1:=List.mem_of_find?_eq_some hf
            have h2:=List.find?_some hf
            simp only [beq_iff_eq] at h2
            have:i ∈ es.map (·.1):=by rw [hkeys,← h2]; exact List.mem_map.2 ⟨p,h1,rfl⟩
            obtain ⟨⟨k,v⟩,q,rfl⟩:=List.mem_map.1 this
            exact ⟨v,q⟩
          obtain ⟨v,hv⟩:=hmem
          rw [if_pos]
          exact Maps.has_true_of_atKey (fun z=>m3s (by rw [hkeys]; exact hkn) i v hv z)
        ·intro a6 w6 fr6 rows6 r6 hag6 hrows6
         have hrr:rows6 = rows':=by
          apply List.ext_getElem?
          intro i
          by_cases hi:i < rows.length
          ·rw [hrows6.2 i hi,z3 i hi]
           cases cOf cell s0 (inssOf items) i <;> simp
          ·rw [List.getElem?_eq_none (by rw [hrows6.1]; omega),List.getElem?_eq_none (by omega)]
         subst hrr
         refine hQ _ _ h hd (r6.forget hag6 _ ?_)
         funext q
         simp only [updB,St.blk,lk]
      ·cases hg
     ·cases hg
    ·cases hg
   ·cases hg
theorem cellI_some {v:V} {row:List D} (h:cellI v = some row):∃ n,v = .d (.int .i64 n) ∧ row = [.bool true,.int .i64 n]:=by
 unfold cellI at h
 split at h
 ·cases h; exact ⟨_,rfl,rfl⟩
 ·cases h
theorem cellB_some {v:V} {row:List D} (h:cellB v = some row):∃ b,v = .d (.bool b) ∧ row = [.bool true,.int .i64 (if b = true then 1 else 0)]:=by
 unfold cellB at h
 split at h
 ·cases h; exact ⟨_,rfl,rfl⟩
 ·cases h
theorem cell2 {x y:D} (hx:flat1 x = true) (hy:flat1 y = true):∀ (j:Nat) (z:D),[x,y][j]? = some z→flat1 z = true:=fun j z h=>by
 have:=List.mem_of_getElem? h
 simp at this
 rcases this with rfl | rfl
 ·exact hx
 ·exact hy
theorem cellI_f:∀ d row,cellI d = some row→(∃ x,d = .d x ∧ ((∃ k m,x = .int k m) ∨ ∃ q,x = .bool q)) ∧ row.length = 2 ∧ ∀ (j:Nat) (x:D),row[j]? = some x→flat1 x = true:=fun d row h=>by
 obtain ⟨n,rfl,rfl⟩:=cellI_some h
 exact ⟨⟨_,rfl,.inl ⟨_,_,rfl⟩⟩,rfl,cell2 rfl rfl⟩
theorem cellB_f:∀ d row,cellB d = some row→(∃ x,d = .d x ∧ ((∃ k m,x = .int k m) ∨ ∃ q,x = .bool q)) ∧ row.length = 2 ∧ ∀ (j:Nat) (x:D),row[j]? = some x→flat1 x = true:=fun d row h=>by
 obtain ⟨n,rfl,rfl⟩:=cellB_some h
 exact ⟨⟨_,rfl,.inr ⟨_,rfl⟩⟩,rfl,cell2 rfl rfl⟩
theorem cellI_build {o:Oper} {t d3 dc:Nat} (hop:o.op = .build t #[(0,.const (.bool true)),(1,.tmp d3)]) (hdst:o.dst = some dc) (hdc:dc < nt)
  (hlow:lowOp P o = .build [.d (.bool false),.d (.int .i64 0)] [(0,1,.c (.d (.bool true))),(1,1,.t d3)]):CellOk P nt cellI o d3 dc:=by
 intro w0 w h0 h fr bl a hd row K Q hF r hc hK
 obtain ⟨n,hn,rfl⟩:=cellI_some hc
 have ha:aop (fun _ _=>none) 0 (evo fr) bl (.build [.d (.bool false),.d (.int .i64 0)] [(0,1,.c (.d (.bool true))),(1,1,.t d3)]) = some (.agg [.d (.bool true),.d (.int .i64 n)],[]):=by
  simp only [aop,List.map_cons,List.map_nil,evo,hn]
  rfl
 refine (pure_step r o hlow rfl ha fun cv hcv=>?_).2
 rw [hdst]
 refine hK cv w ?_ ⟨rfl,rfl,rfl,Nat.le_refl _,fun _ _ _=>rfl⟩
 exact r.put0 (some dc) cv _ (fun x e=>by cases e; exact ⟨hdc,hF dc⟩) hcv
theorem cellB_call {o:Oper} {f d3 dc:Nat} (hlow:lowOp P o = .call f [.t d3]) (hdst:o.dst = some dc) (hdc:dc < nt) (hS:∀ b,Sound P f [.bool b] (.agg [.bool true,.int .i64 (if b = true then 1 else 0)])):CellOk P nt cellB o d3 dc:=by
 intro w0 w h0 h fr bl a hd row K Q hF r hc hK
 obtain ⟨b,hb,rfl⟩:=cellB_some hc
 obtain ⟨c,fn,hop,hcal,hfn,hl,c1,c2⟩:=lowOp_call hlow
 have hexec:(execOp a.eval o).run P w = .ok (.enter f (c.args.map a.eval)) w:=by
  obtain ⟨bd,hbd⟩:=Option.isSome_iff_exists.1 c2
  simp [execOp,hop,resolve,hcal,Act.eval,Deferred.ofValue,invoke,callFunc,hfn,c1,hbd]
 obtain ⟨m1,m2⟩:=mapM'_some hl
 have hargs:(c.args.map a.eval).size = 1:=by simpa using m1
 obtain ⟨x,x1,x2⟩:=mapM'_back hl (show [Opd.t d3][0]? = some (.t d3) from rfl)
 have hx:a.eval x = .bool b:=by
  have h3:=lowX_ok r.frame x2
  rw [show evo fr (.t d3) = .d (.bool b) from hb] at h3
  exact inv_bool h3
 have hcalls:=(hS b).2 w h (c.args.map a.eval) r.hle hargs (fun i d hi=>by
  cases i with
  | zero =>
   simp only [List.getElem?_cons_zero,Option.some.injEq] at hi
   subst hi
   have x1' : c.args[0]? = some x:=by simpa using x1
   have:(c.args.map a.eval).getD 0 undef = a.eval x:=by simp [x1']
   rw [this,hx]
   exact .bool b
  | succ i=>simp at hi)
 unfold Oper.wp
 rw [hexec]
 simp only [Oper.upon]
 refine hcalls.mono ?_
 rintro en w' ⟨cv,h',rfl,g1,g2,g3,g4,g5⟩
 simp only
 rw [hdst]
 have hfl:flat (.agg [.bool true,.int .i64 (if b = true then 1 else 0)]) = true:=rfl
 have hrd:Reads h cv (.agg [.bool true,.int .i64 (if b = true then 1 else 0)]):=flat_reads g1 hfl h
 refine hK cv w' (r.call (some dc) (fun x e=>by cases e; exact ⟨hdc,hF dc⟩) cv _ (Hp.le.refl _) (fun q ob hq=>?_) (fun _ _=>rfl) g5 (toV_ok hrd)) ⟨g5.os,g5.tape,g5.output,g5.size,fun k hk _=>g5.block k hk⟩
 exact (g5.block q (Array.getElem?_eq_some_iff.1 (r.hle q ob hq)).1).trans (r.hle q ob hq)
end
end Vm
end Go.Proofs.Ytfhebiceipgdmaa
set_option linter.unusedVariables false
set_option linter.unusedSimpArgs false
namespace Go.Proofs.Ytfhebiceipgdmaa
namespace Vm
open Go.RowKit
section
variable {β:Type} {T:Tbl} {fr:List (Nat × V)} {bl:List (Nat × Option Blk)}
def handBK (ver:Nat) (b:Option Blk) (g:Nat→List (List D)→Option β):Option β:=match b with
 | some (.rows v e size rows)=>if ver = v ∧ size = 2 then g e rows else none
 | _=>none
theorem handBK_rows (v e:Nat) (rows:List (List D)) (g:Nat→List (List D)→Option β):handBK v (some (.rows v e 2 rows)) g = g e rows:=if_pos ⟨rfl,rfl⟩
def setsK (cell:V→Option (List D)) (fr:List (Nat × V)):List (Nat × Nat)→List (List D)→(List (List D)→Option β)→Option β
 | [],rows,g=>g rows
 | (k,t) :: l,rows,g=>getK fr t fun v=>(cell v).bind fun row=>if k < rows.length then setsK cell fr l (rows.set k row) g else none
theorem setsK_nil (cell:V→Option (List D)) (rows:List (List D)) (g:List (List D)→Option β):setsK cell fr [] rows g = g rows:=rfl
theorem setsK_eq (cell:V→Option (List D)) (b:List (Nat × Option Blk)) (g:List (List D)→Option β):∀ (l:List (Nat × Nat)) (rows:List (List D)),setsK cell fr l rows g = (setsL cell ⟨fr,b⟩ l rows).bind g
 | [],rows=>rfl
 | (k,t) :: l,rows=>by
  simp only [setsK,setsL,getK]
  rw [get_mk]
  cases cell (lk fr .any t) with
  | none=>rfl
  | some row =>
   simp only [Option.bind_some,setsK_eq cell b g l]
   split <;> rfl
def deadF:List Nat→List (Nat × V)→List (Nat × V)
 | [],fr=>fr
 | t :: l,fr=>(t,.any) :: deadF l fr
theorem deadF_nil:deadF [] fr = fr:=rfl
theorem deadF_cons (t:Nat) (l:List Nat):deadF (t :: l) fr = (t,.any) :: deadF l fr:=rfl
theorem deadF_eq (b:List (Nat × Option Blk)):∀ l:List Nat,deadS l ⟨fr,b⟩ = deadF l fr
 | []=>rfl
 | t :: l=>by
  show (t,V.any) :: (deadS l ⟨fr,b⟩) = _
  rw [deadF_eq b l]
  rfl
theorem evK_hand (out:Nat) (cell:V→Option (List D)) (ks:List (Nat × Nat)) (dead:List Nat) (k:Ex→St→Option β):evK T (.hand (handG out cell ks dead)) ⟨fr,bl⟩ k = getK fr out fun v=>ownK v fun id ver=>blkK bl id fun b=>handBK ver b fun e rows=>setsK cell fr ks rows fun rows'=>k .normal ⟨deadF dead fr,(id,some (.rows ver e 2 rows')) :: bl⟩:=by
 unfold evK
 rw [ev_hand]
 unfold handG getK
 rw [get_mk]
 cases lk fr .any out with
 | own id ver =>
  simp only [ownK,blkK,handBK]
  rw [blk_fn]
  cases lk bl none id with
  | none=>rfl
  | some b =>
   cases b with
   | rows v e size rows =>
    simp only
    split
    ·rename_i hc
     obtain ⟨rfl,rfl⟩:=hc
     rw [setsK_eq cell bl]
     cases setsL cell ⟨fr,bl⟩ ks rows with
     | none=>rfl
     | some rows'=>simp only [Option.map_some,Option.bind_some,deadF_eq]
    ·rfl
   | _=>rfl
 | _=>rfl
def setI (v:V) (g:Int→Option β):Option β:=match v with
 | .d (.int .i64 n)=>g n
 | _=>none
def setB (v:V) (g:Bool→Option β):Option β:=match v with
 | .d (.bool b)=>g b
 | _=>none
theorem setsI {α:Type} (c:α→List D) (mk:Int→α) (hmk:∀ n,c (mk n) = [.bool true,.int .i64 n]) (k t:Nat) (l:List (Nat × Nat)) (xs:List α) (g:List (List D)→Option β) :
  setsK cellI fr ((k,t) :: l) (cM c xs) g = getK fr t fun v=>setI v fun n=>if k < xs.length then setsK cellI fr l (cM c (xs.set k (mk n))) g else none:=by
 simp only [setsK,getK,setI]
 have h1:(cM c xs).length = xs.length:=List.length_map ..
 cases lk fr .any t with
 | d x =>
  cases x with
  | int kd n =>
   cases kd <;> first | rfl | skip
   simp only [cellI,Option.bind_some,h1]
   have h2:(cM c xs).set k [.bool true,.int .i64 n] = cM c (xs.set k (mk n)):=by rw [← hmk]; simp [cM,List.map_set]
   rw [h2]
  | _=>rfl
 | _=>rfl
theorem setsB {α:Type} (c:α→List D) (mk:Int→α) (hmk:∀ n,c (mk n) = [.bool true,.int .i64 n]) (k t:Nat) (l:List (Nat × Nat)) (xs:List α) (g:List (List D)→Option β) :
  setsK cellB fr ((k,t) :: l) (cM c xs) g = getK fr t fun v=>setB v fun b=>if k < xs.length then setsK cellB fr l (cM c (xs.set k (mk (if b = true then 1 else 0)))) g else none:=by
 simp only [setsK,getK,setB]
 have h1:(cM c xs).length = xs.length:=List.length_map ..
 cases lk fr .any t with
 | d x =>
  cases x with
  | bool b =>
   simp only [cellB,Option.bind_some,h1]
   have h2:(cM c xs).set k [.bool true,.int .i64 (if b = true then 1 else 0)] = cM c (xs.set k (mk (if b = true then 1 else 0))):=by rw [← hmk]; simp [cM,List.map_set]
   rw [h2]
  | _=>rfl
 | _=>rfl
theorem setI_i (n:Int) (g:Int→Option β):setI (.d (.int .i64 n)) g = g n:=rfl
theorem setB_b (b:Bool) (g:Bool→Option β):setB (.d (.bool b)) g = g b:=rfl
end
end Vm
end Go.Proofs.Ytfhebiceipgdmaa
