/- A map that is laid and ranged over, each entry written into a row of the call's own: in whatever order. The small machine, read from the front: a range over a map that is laid. -/
import Derived.Test.YtfhebiceipgdmaaVmD
import Derived.Maps.RangeWalk
import Derived.WalkArith
import Derived.Test.YtfhebiceipgdmaaVmF
set_option linter.unusedVariables false
set_option linter.unusedSimpArgs false
namespace Go.Proofs.Ytfhebiceipgdmaa
namespace Vm
open Go.RowKit Go.Maps
def FZ (dead:List Nat) (s:St):List (Nat × V):=dead.map (fun t=>(t,V.any)) ++ s.fr
def K4 (cell:V→Option (List D)) (s:St):List (Nat × Nat)→List (List D)→Option (List (List D))
 | [],rows=>some rows
 | (k,t) :: l,rows=>match cell (s.get t) with
  | some row=>if k < rows.length then K4 cell s l (rows.set k row) else none
  | none=>none
def E3 (out:Nat) (cell:V→Option (List D)) (ks:List (Nat × Nat)) (dead:List Nat) (s:St):Option St:=match s.get out with
 | .own id ver=>match s.blk id with
  | some (.rows v e size rows)=>if ver = v ∧ size = 2 then match K4 cell s ks rows with
    | some rows'=>some ⟨FZ dead s,(id,some (.rows v e size rows')) :: s.bl⟩
    | none=>none
   else none
  | _=>none
 | _=>none
def CK:V→Option (List D)
 | .d (.int .i64 n)=>some [.bool true,.int .i64 n]
 | _=>none
def B3:V→Option (List D)
 | .d (.bool b)=>some [.bool true,.int .i64 (if b = true then 1 else 0)]
 | _=>none
def Z0 (v:Value):Option (DataW Value × List MemPlace):=some (.held v,[])
theorem EE {P:Program} (t:TypeId) (w:World):(Instr.makeMap t none).run P w = .ok (.map (some w.heap.size)) (w.alloc (.map #[] 0)):=rfl
section
variable {P:Program} {nt:Nat} {w0:fL} {w w' : World} {h0 h:Hp} {fr:Nat→V} {bl:Nat→Option aX} {a:Act} {hd:Nat→Value}
structure D3 (w0:fL) (h:Hp) (bl:Nat→Option aX) (hd:Nat→Value) (g:Nat):Prop where
 own:w0.own g
 out:h g = none
 off:∀ id b,bl id = some b→b.live = true→gJ (hd id) ≠ some g
theorem Rl.side (r:Rl nt w0 h0 fr bl a w h hd) {row:Option Nat} (hg:w.grownBy w' row) (hS:∀ g,row = some g→D3 w0 h bl hd g):Rl nt w0 h0 fr bl a w' h hd where
 tmps:=r.tmps
 defers:=r.defers
 fixed:=r.fixed
 below:=r.below.trans (AM.grown hg r.below.size fun k hk=>(hS k hk).own)
 hle:=fun b o e=>by
  have h1:=r.hle b o e
  refine (hg.block b (Array.getElem?_eq_some_iff.1 h1).1 fun q=>?_).trans h1
  rw [(hS b q.symm).out] at e; cases e
 h0le:=r.h0le
 hbase:=r.hbase
 frame:=r.frame
 blk:=fun id b hb=>(r.blk id b hb).keep (Hp.le.refl _) (Kp.refl _ _) rfl fun hl g hg'=>⟨hg.block g ((r.blk id b hb).num hl hg').2.1 fun q=>(hS g q.symm).off id b hb hl hg',fun q=>q⟩
 sep:=r.sep
theorem D3.new (r:Rl nt w0 h0 fr bl a w h hd) {g:Nat} (hg:w.heap.size ≤ g):D3 w0 h bl hd g where
 own:=.inl (Nat.le_trans r.below.size hg)
 out:=ET r.hle hg
 off:=fun id b hb hl q=>by have:=((r.blk id b hb).num hl q).2.1; omega
theorem CY (r:Rl nt w0 h0 fr bl a w h hd) {d:Nat} (hd' : d < nt) (cv:Value) (t:Nat):(a.put (some d) cv).tmps.getD t undef = if d = t then cv else a.tmps.getD t undef:=by
 rw [JW a (some d) cv t nt r.tmps fun x e=>by cases e; exact hd']
 simp only [Option.some.injEq]
theorem fE {ops:Array Oper} {Q:Exit→Act→World→Prop} {K:Act→World→Prop} {i:Nat} {o:Oper} (ho:ops[i]? = some o) (hg:o.guard = none) (h:o.wp P a w K Q):wpOp P ops Q i K a w:=by
 unfold wpOp
 rw [ho]
 simp only
 rw [if_pos (by simp [Region.wanted,hg])]
 exact .inl h
def jA.pureB:jA→Bool
 | .move _ | .load _ _ _ | .fieldAddr _ _ | .bin _ _ _ _ | .build _ _=>true
 | _=>false
theorem GJ {C:Nat→List D→Option D} (r:Rl nt w0 h0 fr bl a w h hd) (o:Oper) {so:jA} (hlow:uB P o = so) (hp:so.pureB = true)
  {site:Nat} {v:V} {wr:List (Nat × Option aX)} (ha:dW C site (cQ fr) bl so = some (v,wr)) {K:Act→World→Prop} {Q:Exit→Act→World→Prop}
  (hK:∀ cv,R3 h hd bl cv v→K (a.put o.dst cv) w):wr = [] ∧ o.wp P a w K Q:=by
 unfold uB at hlow
 cases hl:yI P o with
 | none=>rw [hl] at hlow; subst hlow; cases hp
 | some so' =>
  rw [hl] at hlow
  simp only [Option.getD_some] at hlow
  subst hlow
  unfold yI at hl
  cases hop:o.op with
  | move x =>
   rw [hop] at hl
   simp only at hl
   rw [Option.map_eq_some_iff] at hl
   obtain ⟨y,h1,rfl⟩:=hl
   simp only [dW] at ha
   cases ha
   exact ⟨rfl,cT (s:=pure (a.eval x)) (by simp [execOp,hop]) (by simp) (hK _ (cJ r.frame h1))⟩
  | assign x =>
   rw [hop] at hl
   simp only at hl
   rw [Option.map_eq_some_iff] at hl
   obtain ⟨y,h1,rfl⟩:=hl
   simp only [dW] at ha
   cases ha
   exact ⟨rfl,cT (s:=pure (a.eval x)) (by simp [execOp,hop]) (by simp) (hK _ (cJ r.frame h1))⟩
  | load t x =>
   rw [hop] at hl
   simp only at hl
   split at hl
   ·rename_i b i x' h1 h2 h3
    cases hl
    obtain ⟨e1,cv,q1,q2⟩:=OH r h1 h2 (cJ r.frame h3) ha
    exact ⟨e1,cT (s:=Instr.loadAt t (a.eval x)) (by simp [execOp,hop]) q1 (hK _ q2)⟩
   ·cases hl
  | fieldAddr s x f =>
   rw [hop] at hl
   simp only at hl
   split at hl
   ·rename_i fs x' h1 h2
    split at hl
    ·rename_i fd h3
     split at hl
     ·rename_i i h4
      split at hl
      ·cases hl
      ·rename_i h5
       cases hl
       obtain ⟨e1,cv,q1,q2⟩:=MV r h1 h3 h4 h5 (cJ r.frame h2) ha
       exact ⟨e1,cT (s:=Instr.fieldAt s (a.eval x) f) (by simp [execOp,hop]) q1 (hK _ q2)⟩
     ·cases hl
    ·cases hl
   ·cases hl
  | binOp op t x y l =>
   rw [hop] at hl
   simp only at hl
   obtain ⟨d,rfl,rfl,cv,q1,q2,q3⟩:=QI r hl ha
   exact ⟨rfl,cT (s:=do eqGuard op t x y (a.eval x) (a.eval y); binOp op t (a.eval x) (a.eval y)) (by simp [execOp,hop]) q1 (hK _ ⟨q3,q2⟩)⟩
  | build t parts =>
   rw [hop] at hl
   simp only at hl
   split at hl
   ·rename_i i fs hi hu
    split at hl
    ·rename_i z hz
     split at hl
     ·rename_i zs ps h1 h2
      split at hl
      ·rename_i hf
       cases hl
       simp only [dW] at ha
       rw [Option.map_eq_some_iff] at ha
       obtain ⟨cs,q1,q2⟩:=ha
       cases q2
       obtain ⟨cv,q3,q4⟩:=MX r hi hu hz h1 hf h2 q1
       refine ⟨rfl,cT (s:=Instr.build t (parts.map fun (i,x)=>(i,a.eval x))) (by simp [execOp,hop]) (cv:=cv) (w':=w) ?_ (hK _ q4)⟩
       have e:(parts.map fun x=>(x.1,a.eval x.2)) = (parts.toList.map fun x=>(x.1,a.eval x.2)).toArray:=by obtain ⟨l⟩:=parts; simp
       exact (congrArg (fun q=>(Instr.build t q).run P w) e).trans q3
      ·cases hl
     ·cases hl
    ·cases hl
   ·rename_i i n e hi hu
    split at hl
    ·rename_i z ei hz he
     split at hl
     ·rename_i zs ps h1 h2
      cases hl
      simp only [dW] at ha
      rw [Option.map_eq_some_iff] at ha
      obtain ⟨cs,q1,q2⟩:=ha
      cases q2
      obtain ⟨cv,q3,q4⟩:=LA r hi hu hz he h1 h2 q1
      refine ⟨rfl,cT (s:=Instr.build t (parts.map fun (i,x)=>(i,a.eval x))) (by simp [execOp,hop]) (cv:=cv) (w':=w) ?_ (hK _ q4)⟩
      have e:(parts.map fun x=>(x.1,a.eval x.2)) = (parts.toList.map fun x=>(x.1,a.eval x.2)).toArray:=by obtain ⟨l⟩:=parts; simp
      exact (congrArg (fun q=>(Instr.build t q).run P w) e).trans q3
     ·cases hl
    ·cases hl
   ·cases hl
  | indexAddr ty x j =>
   rw [hop] at hl
   simp only at hl
   split at hl
   ·rw [Option.map_eq_some_iff] at hl
    obtain ⟨i,hi,rfl⟩:=hl
    cases hp
   ·rename_i n e x' k q ht hx hj
    split at hl
    ·rename_i i hi
     split at hl
     ·rename_i hc
      obtain ⟨c1,c2,c3⟩:=hc
      cases hl
      have hjr:=cJ r.frame hj
      obtain ⟨e1,cv,q1,q2⟩:=QT r ht hi c1 c2 (kH hjr) (cJ r.frame hx) ha
      exact ⟨e1,cT (s:=Instr.indexAt ty (a.eval x) (a.eval j)) (by simp [execOp,hop]) q1 (hK _ q2)⟩
     ·cases hl
    ·cases hl
   ·cases hl
  | _ =>
   rw [hop] at hl
   simp only at hl
   exfalso
   repeat' (first | (cases hl; done) | (rw [Option.map_eq_some_iff] at hl; obtain ⟨_,_,e⟩:=hl; cases e; cases hp; done) | (cases hl; cases hp; done) | split at hl)
inductive BM where
 | vm (so:bT)
 | ins (k t:Nat)
def DX:List (Oper × BM)→List bT
 | []=>[]
 | (_,.vm so) :: l=>so :: DX l
 | (_,.ins _ _) :: l=>DX l
def mW:List (Oper × BM)→List (Nat × Nat)
 | []=>[]
 | (_,.vm _) :: l=>mW l
 | (_,.ins k t) :: l=>(k,t) :: mW l
def xJ (es:List (Nat × Value)):DataW Value:=es.foldl (fun D p=>D.put (.int .i64 (p.1:Int)) (.held p.2)) (.map [])
def NO (P:Program) (nt:Nat) (T tm:Nat) (p:Oper × BM):Prop:=p.1.guard = none ∧ match p.2 with
 | .vm so=>uB P p.1 = so.op ∧ so.dst = p.1.dst ∧ so.guard = none ∧ so.op.pureB = true ∧ ∃ d,p.1.dst = some d ∧ d < nt ∧ d ≠ tm
 | .ins k t=>p.1.op = .insert T (.tmp tm) (.const (.int .i64 (k:Int))) (.tmp t) ∧ p.1.dst = none ∧ k < 1000
theorem LY {s:St} {d t:Nat} {v:V} {wr:List (Nat × Option aX)} (h:d ≠ t):(s.put (some d) v wr).get t = s.get t:=by
 simp [St.put,St.get,lk,Ne.symm h]
theorem KF {C:Nat→List D→Option D} {t:Nat}:∀ {l:List bT} {s s' : St},lG C l s = some s'→(∀ o ∈ l,o.dst ≠ some t)→s'.get t = s.get t
 | [],s,s',e,_=>by cases e; rfl
 | o :: l,s,s',e,h=>by
  simp only [lG] at e
  split at e
  ·rename_i s1 h1
   rw [KF e fun x hx=>h x (List.mem_cons_of_mem _ hx)]
   have hd:=h o (List.mem_cons_self ..)
   have put:∀ v wr,(s.put o.dst v wr).get t = s.get t:=fun v wr=>by
    cases hq:o.dst with
    | none=>rfl
    | some d=>exact LY fun q=>hd (by rw [hq,q])
   unfold qY at h1
   split at h1
   ·split at h1
    ·cases h1; exact put _ _
    ·cases h1
   ·cases h1; exact put _ _
   ·cases h1
  ·cases e
theorem J1 (es:List (Nat × Value)) (k:Nat) (v:Value):xJ (es ++ [(k,v)]) = (xJ es).put (.int .i64 (k:Int)) (.held v):=by simp [xJ]
def aEq (h:Hp) (hd:Nat→Value) (s:St) (es:List (Nat × Value)) (kt:List (Nat × Nat)):Prop:=es.map (·.1) = kt.map (·.1) ∧ ∀ (j k t:Nat) (v:Value),es[j]? = some (k,v)→kt[j]? = some (k,t)→R3 h hd s.blk v (s.get t)
theorem aKE {k:Nat} (h:k < 1000):(Lit.int .i64 (k:Int)).wf = true:=WalkArith.wf_i64 (by omega)
theorem AR {T kT eT tm b:Nat} (hT:P.underlying T = some (.map kT eT)) (hkT:P.underlying kT = some (.int .i64)) (hF:∀ t,w0.F t = none) {C:Nat→List D→Option D} {ops:Array Oper} {Q:Exit→Act→World→Prop} {L' : List Nat} :
  ∀ (items:List (Oper × BM)) (i n:Nat) (s s' : St) (a:Act) (es:List (Nat × Value)) (w:World),
  (∀ (j:Nat) (p:Oper × BM),items[j]? = some p→ops[i + j]? = some p.1)→(∀ p ∈ items,NO P nt T tm p)→items.Pairwise (fun p q=>∀ k t,p.2 = .ins k t→q.1.dst ≠ some t)→n + items.length < maxLen →
  lG C (DX items) s = some s'→Rl nt w0 h0 s.get s.blk a w h hd→w.ownsMap P kT Z0 b n (xJ es)→D3 w0 h s.blk hd b→a.tmps.getD tm undef = .map (some b) →
  (∀ (a' : Act) (w' : World) (es' : List (Nat × Value)),Rl nt w0 h0 s'.get s'.blk a' w' h hd→s'.blk = s.blk→w'.ownsMap P kT Z0 b (n + items.length) (xJ (es ++ es'))→a'.tmps.getD tm undef = .map (some b)→aEq h hd s' es' (mW items)→wpOps P ops Q L' a' w') →
  wpOps P ops Q (List.range' i items.length ++ L') a w
 | [],i,n,s,s',a,es,w,hops,hit,hpw,hlen,hrun,r,hm,hS,ht,hK=>by
  cases hrun
  exact hK a w [] r rfl (by simpa using hm) ht ⟨rfl,fun j k t v e=>by simp at e⟩
 | (o,it) :: items,i,n,s,s',a,es,w,hops,hit,hpw,hlen,hrun,r,hm,hS,ht,hK=>by
  have ho:ops[i]? = some o:=by simpa using hops 0 (o,it) rfl
  have hops' : ∀ (j:Nat) (p:Oper × BM),items[j]? = some p→ops[i + 1 + j]? = some p.1:=fun j p hp=>by
   have:=hops (j + 1) p (by simpa using hp)
   rwa [show i + (j + 1) = i + 1 + j by omega] at this
  have hit' : ∀ p ∈ items,NO P nt T tm p:=fun p hp=>hit p (List.mem_cons_of_mem _ hp)
  obtain ⟨hpw1,hpw2⟩:=List.pairwise_cons.1 hpw
  have hlen' : n + (items.length + 1) < maxLen:=by simpa using hlen
  rw [List.length_cons,List.range'_succ,List.cons_append,wpOps_cons]
  obtain ⟨hg,hq⟩:=hit (o,it) (List.mem_cons_self ..)
  refine fE ho hg ?_
  cases it with
  | vm so =>
   obtain ⟨q1,q2,q3,q4,d,q5,q6,q7⟩:=hq
   simp only [DX,lG] at hrun
   split at hrun
   ·rename_i s1 hs1
    unfold qY at hs1
    rw [show so.wants s.get = .run by simp [bT.wants,q3]] at hs1
    simp only at hs1
    split at hs1
    ·rename_i v wr ha
     cases hs1
     have hwr:wr = []:=(GJ (K:=fun _ _=>True) (Q:=fun _ _ _=>True) r o q1 q4 ha fun _ _=>trivial).1
     subst hwr
     refine (GJ r o q1 q4 ha fun cv hcv=>?_).2
     rw [q2,q5] at hrun
     refine AR hT hkT hF items (i + 1) n _ s' _ es w hops' hit' hpw2 (by omega) hrun ?_ hm hS ?_ ?_
     ·rw [q5]
      have:=r.put0 (some d) cv v (fun x e=>by cases e; exact ⟨q6,hF d⟩) hcv
      have e1:(s.put (some d) v []).get = cH s.get (some d) v:=by
       funext t; simp only [St.put,St.get,lk,cH,Option.some.injEq]
       by_cases e:t = d
       ·simp [e]
       ·rw [if_neg e,if_neg (Ne.symm e)]
      rw [e1]
      exact this
     ·rw [q5,CY r q6,if_neg q7]; exact ht
     ·intro a' w' es' r' hb' hm' ht' he'
      refine hK a' w' es' r' hb' ?_ ht' he'
      exact hm'.mono (by simp)
    ·cases hs1
   ·cases hrun
  | ins k t =>
   obtain ⟨q1,q2,q3⟩:=hq
   replace q1:o.op = .insert T (.tmp tm) (.const (.int .i64 (k:Int))) (.tmp t):=q1
   replace q2:o.dst = none:=q2
   simp only [DX] at hrun
   have hkey:keyOf P kT (.int .i64 (k:Int)) = some (.int .i64 (k:Int)):=keyOf_int_mk hkT (aKE q3)
   obtain ⟨w1,g1,g2,g3⟩:=hm.update (int_keyed hkT) hT (by omega) hkey (val:=a.tmps.getD t undef) (d:=.held (a.tmps.getD t undef)) (ps:=[]) rfl
   refine IV (s:=Instr.mapUpdate T (a.tmps.getD tm undef) (.int .i64 (k:Int)) (a.tmps.getD t undef)) (by unfold execOp; rw [q1]; rfl) (by rw [ht]; exact g1) ?_
   have hput:a.put o.dst undef = a:=by rw [q2]; rfl
   rw [hput]
   rw [← J1] at g2
   refine AR hT hkT hF items (i + 1) (n + 1) s s' a (es ++ [(k,a.tmps.getD t undef)]) w1 hops' hit' hpw2 (by omega) hrun (r.side g3 fun g hg=>by cases hg; exact hS) g2 hS ht ?_
   intro a' w' es' r' hb' hm' ht' he'
   refine hK a' w' ((k,a.tmps.getD t undef) :: es') r' hb' ?_ ht' ?_
   ·rw [List.append_assoc] at hm'
    rw [List.length_cons,show n + (items.length + 1) = n + 1 + items.length by omega]
    exact hm'
   ·obtain ⟨e1,e2⟩:=he'
    refine ⟨by simp [mW,e1],fun j k' t' v' f1 f2=>?_⟩
    cases j with
    | zero =>
     simp only [mW,List.getElem?_cons_zero,Option.some.injEq,Prod.mk.injEq] at f1 f2
     obtain ⟨rfl,rfl⟩:=f1
     obtain ⟨_,rfl⟩:=f2
     have hsame:s'.get t = s.get t:=by
      refine KF hrun fun so hso=>?_
      have key:∀ (l:List (Oper × BM)),(∀ p ∈ l,NO P nt T tm p)→(∀ p ∈ l,p.1.dst ≠ some t)→∀ so ∈ DX l,so.dst ≠ some t:=by
       intro l
       induction l with
       | nil=>intro _ _ so h; simp [DX] at h
       | cons p l ih =>
        intro h1 h2 so h
        obtain ⟨o,it⟩:=p
        cases it with
        | vm so' =>
         simp only [DX,List.mem_cons] at h
         rcases h with rfl | h
         ·have:=(h1 (o,.vm so) (List.mem_cons_self ..)).2
          rw [this.2.1]
          exact h2 (o,.vm so) (List.mem_cons_self ..)
         ·exact ih (fun p hp=>h1 p (List.mem_cons_of_mem _ hp)) (fun p hp=>h2 p (List.mem_cons_of_mem _ hp)) so h
        | ins _ _=>exact ih (fun p hp=>h1 p (List.mem_cons_of_mem _ hp)) (fun p hp=>h2 p (List.mem_cons_of_mem _ hp)) so h
      exact key items hit' (fun p hp=>hpw1 p hp k t rfl) so hso
     rw [hb',hsame]
     exact r.frame t
    | succ j=>exact e2 j k' t' v' (by simpa using f1) (by simpa [mW] using f2)
theorem HL {o:Oper} {ρ:Operand→Value} {x:Operand} (h:o.op = .next x false):execOp ρ o = (do pure (.value (← Instr.next (ρ x) false o.type))):=by simp [execOp,h]
theorem NY {o:Oper} {ρ:Operand→Value} {x:Operand} (h:o.op = .entry x):execOp ρ o = (do pure (.value (← Instr.entry (ρ x)))):=by simp [execOp,h]
theorem sO {o:Oper} {ρ:Operand→Value} {x:Operand} {i:Nat} (h:o.op = .extract x i):execOp ρ o = (do pure (.value (← Instr.extract (ρ x) i))):=by simp [execOp,h]
theorem nJ {o:Oper} {ρ:Operand→Value} {x:Operand} (h:o.op = .assign x ∨ o.op = .move x):execOp ρ o = (do pure (.value (← (pure (ρ x):Sem Value)))):=by rcases h with h | h <;> simp [execOp,h]
def UW (c:Nat→Option (List D)) (rows0:List (List D)) (left:Lit→Bool) (rows:List (List D)):Prop :=
 rows.length = rows0.length ∧ ∀ i,i < rows0.length→rows[i]? = match c i with
  | some row=>if left (.int .i64 (i:Int)) = true then rows0[i]? else some row
  | none=>rows0[i]?
def s6 (dead:List Nat) (fr0 fr:Nat→V):Prop:=∀ t,t ∉ dead→fr t = fr0 t
theorem s6.upd {dead:List Nat} {fr0 fr:Nat→V} (h:s6 dead fr0 fr) {d:Nat} (hd:d ∈ dead) (v:V):s6 dead fr0 (cH fr (some d) v):=fun t ht=>by
 have:d ≠ t:=fun e=>ht (e ▸ hd)
 simp only [cH,Option.some.injEq,if_neg this]
 exact h t ht
structure NG where
 it:Nat
 nx:Nat
 ok:Nat
 en:Nat
 k1:Nat
 v1:Nat
 kk:Nat
 vv:Nat
 d1:Nat
 d2:Nat
 d3:Nat
 dc:Nat
 da:Nat
 out:Nat
def NG.slots (L:NG):List Nat:=[L.nx,L.ok,L.en,L.k1,L.v1,L.kk,L.vv,L.d1,L.d2,L.d3,L.dc,L.da]
theorem lP (r:Rl nt w0 h0 fr bl a w h hd) (hF:∀ t,w0.F t = none) {d:Nat} (hd' : d < nt) (cv:Value) (v:V) (hv:R3 h hd bl cv v) :
  ∃ a',a.put (some d) cv = a' ∧ Rl nt w0 h0 (cH fr (some d) v) bl a' w h hd ∧ a'.tmps.getD d undef = cv ∧ ∀ t,t ≠ d→a'.tmps.getD t undef = a.tmps.getD t undef :=
 ⟨_,rfl,r.put0 (some d) cv v (fun x e=>by cases e; exact ⟨hd',hF d⟩) hv,by rw [CY r hd',if_pos rfl],fun t ht=>by rw [CY r hd',if_neg (Ne.symm ht)]⟩
def OB (P:Program) (nt:Nat) (cell:V→Option (List D)) (o:Oper) (d3 dc:Nat):Prop :=
 ∀ (w0:fL) (w:World) (h0 h:Hp) (fr:Nat→V) (bl:Nat→Option aX) (a:Act) (hd:Nat→Value) (row:List D) (K:Act→World→Prop) (Q:Exit→Act→World→Prop),(∀ t,w0.F t = none)→Rl nt w0 h0 fr bl a w h hd→cell (fr d3) = some row →
  (∀ cv w',Rl nt w0 h0 (cH fr (some dc) (.agg (row.map .d))) bl (a.put (some dc) cv) w' h hd→w.grownBy w' none→K (a.put (some dc) cv) w')→o.wp P a w K Q
theorem aCJ {kT b rr n:Nat} (K:Keyed P kT) (hkT:P.underlying kT = some (.int .i64)) (hF:∀ t,w0.F t = none) {cell:V→Option (List D)} (L:NG) (dead:List Nat) (hdead:∀ t ∈ L.slots,t ∈ dead ∧ t < nt) (hnd:(L.it :: L.out :: L.slots).Nodup) (hout:L.out ∉ dead)
  {r1 r2 r3 b0 b1 S E:Nat} {oN oX e0 e1' e2' e3 e4 m1 m2 m3 oc oa os:Oper} {ei:TypeInfo}
  (hN:oN.guard = none ∧ oN.op = .next (.tmp L.it) false ∧ oN.dst = some L.nx) (hX:oX.guard = none ∧ oX.op = .extract (.tmp L.nx) 0 ∧ oX.dst = some L.ok)
  (h0e:e0.guard = none ∧ e0.op = .entry (.tmp L.it) ∧ e0.dst = some L.en) (h1e:e1'.guard = none ∧ e1'.op = .extract (.tmp L.en) 0 ∧ e1'.dst = some L.k1) (h2e:e2'.guard = none ∧ e2'.op = .extract (.tmp L.en) 1 ∧ e2'.dst = some L.v1)
  (h3e:e3.guard = none ∧ (e3.op = .assign (.tmp L.k1) ∨ e3.op = .move (.tmp L.k1)) ∧ e3.dst = some L.kk) (h4e:e4.guard = none ∧ (e4.op = .assign (.tmp L.v1) ∨ e4.op = .move (.tmp L.v1)) ∧ e4.dst = some L.vv)
  (h1m:m1.guard = none ∧ (m1.op = .assign (.tmp L.out) ∨ m1.op = .move (.tmp L.out)) ∧ m1.dst = some L.d1) (h2m:m2.guard = none ∧ (m2.op = .assign (.tmp L.kk) ∨ m2.op = .move (.tmp L.kk)) ∧ m2.dst = some L.d2) (h3m:m3.guard = none ∧ (m3.op = .assign (.tmp L.vv) ∨ m3.op = .move (.tmp L.vv)) ∧ m3.dst = some L.d3)
  (hc:oc.guard = none ∧ OB P nt cell oc L.d3 L.dc) (ha:oa.guard = none ∧ oa.op = .indexAddr S (.tmp L.d1) (.tmp L.d2) ∧ oa.dst = some L.da) (hs:os.guard = none ∧ os.op = .store E (.tmp L.da) (.tmp L.dc) ∧ os.dst = none)
  (hS:P.underlying S = some (.slice E)) (hE:P.info? E = some ei) (hE2:ei.size = 2)
  {fr0:Nat→V} {blk0:Nat→Option aX} {id ver e:Nat} (hfo:fr0 L.out = .own id ver) {rows0:List (List D)} (hb0:blk0 id = some (.rows ver e 2 rows0)) {M:DataW Value} {c:Nat→Option (List D)}
  (hM:∀ (kl:Lit) (v:Value),Maps.has M kl = true→(∀ zd,M.atKey kl zd = .held v)→∃ (k:Nat) (d:V) (row:List D),kl = .int .i64 (k:Int) ∧ k < rows0.length ∧ R1 h hd blk0 v d ∧ (∀ x,d = .d x→(∃ k m,x = .int k m) ∨ ∃ q,x = .bool q) ∧ (∃ x,d = .d x) ∧ cell d = some row ∧ c k = some row ∧ row.length = 2 ∧ ∀ (j:Nat) (x:D),row[j]? = some x→xO x = true)
  (hin:∀ kl,Maps.has M kl = true→∃ k:Nat,kl = .int .i64 (k:Int)) {Q:Exit→Act→World→Prop} :
  ∀ (a:Act) (w:World) (fr:Nat→V) (left:Lit→Bool) (cnt:Nat) (rows:List (List D)),Rl nt w0 h0 fr (cA blk0 [(id,some (.rows ver e 2 rows))]) a w h hd→s6 dead fr0 fr→UW c rows0 left rows→(∀ kl,left kl = true→Maps.has M kl = true) →
  w.ranges P kT Z0 b rr n M left cnt→D3 w0 h (cA blk0 [(id,some (.rows ver e 2 rows))]) hd rr→D3 w0 h (cA blk0 [(id,some (.rows ver e 2 rows))]) hd b→a.tmps.getD L.it undef = .pointer (some ⟨rr,0,none⟩) →
  (∀ (a' : Act) (w' : World) (fr' : Nat→V) (rows' : List (List D)),Rl nt w0 h0 fr' (cA blk0 [(id,some (.rows ver e 2 rows'))]) a' w' h hd→s6 dead fr0 fr'→UW c rows0 (fun _=>false) rows'→Q .normal a' w') →
  (Code.block b0 (.loop (.seq (.region r1 #[oN,oX] false) (.seq (.cond (.tmp L.ok) .skip (.exit b0)) (.block b1 (.seq (.region r2 #[e0,e1',e2',e3,e4] false) (.region r3 #[m1,m2,m3,oc,oa,os] false))))))).wp P Q a w:=by
 intro a w fr left cnt rows r hag hrows hleft hrg hsr hsb hit hQ
 simp only [NG.slots,List.nodup_cons,List.mem_cons,List.not_mem_nil,or_false,not_or,List.nodup_nil,not_false_eq_true,and_true] at hnd
 obtain ⟨⟨i_o,i_nx,i_ok,i_en,i_k1,i_v1,i_kk,i_vv,i_d1,i_d2,i_d3,i_dc,i_da⟩,⟨o_nx,o_ok,o_en,o_k1,o_v1,o_kk,o_vv,o_d1,o_d2,o_d3,o_dc,o_da⟩,⟨nx_ok,nx_en,nx_k1,nx_v1,nx_kk,nx_vv,nx_d1,nx_d2,nx_d3,nx_dc,nx_da⟩,⟨ok_en,ok_k1,ok_v1,ok_kk,ok_vv,ok_d1,ok_d2,ok_d3,ok_dc,ok_da⟩,⟨en_k1,en_v1,en_kk,en_vv,en_d1,en_d2,en_d3,en_dc,en_da⟩,⟨k1_v1,k1_kk,k1_vv,k1_d1,k1_d2,k1_d3,k1_dc,k1_da⟩,⟨v1_kk,v1_vv,v1_d1,v1_d2,v1_d3,v1_dc,v1_da⟩,⟨kk_vv,kk_d1,kk_d2,kk_d3,kk_dc,kk_da⟩,⟨vv_d1,vv_d2,vv_d3,vv_dc,vv_da⟩,⟨d1_d2,d1_d3,d1_dc,d1_da⟩,⟨d2_d3,d2_dc,d2_da⟩,⟨d3_dc,d3_da⟩,dc_da⟩:=hnd
 have hdl:∀ t ∈ L.slots,t ∈ dead ∧ t < nt:=hdead
 simp only [NG.slots,List.mem_cons,List.not_mem_nil,or_false,forall_eq_or_imp,forall_eq] at hdead
 obtain ⟨⟨p1,q1⟩,⟨p2,q2⟩,⟨p3,q3⟩,⟨p4,q4⟩,⟨p5,q5⟩,⟨p6,q6⟩,⟨p7,q7⟩,⟨p8,q8⟩,⟨p9,q9⟩,⟨p10,q10⟩,⟨p11,q11⟩,⟨p12,q12⟩⟩:=hdead
 refine wp_block ?_
 refine RW (fun k a w=>∃ (fr:Nat→V) (left:Lit→Bool) (cnt:Nat) (rows:List (List D)),cnt < k ∧ Rl nt w0 h0 fr (cA blk0 [(id,some (.rows ver e 2 rows))]) a w h hd ∧ s6 dead fr0 fr ∧ UW c rows0 left rows ∧ (∀ kl,left kl = true→Maps.has M kl = true) ∧
  w.ranges P kT Z0 b rr n M left cnt ∧ D3 w0 h (cA blk0 [(id,some (.rows ver e 2 rows))]) hd rr ∧ D3 w0 h (cA blk0 [(id,some (.rows ver e 2 rows))]) hd b ∧ a.tmps.getD L.it undef = .pointer (some ⟨rr,0,none⟩)) (fun a w ⟨_,_,_,_,q,_⟩=>by omega) ?_ (cnt + 1) a w ⟨fr,left,cnt,rows,by omega,r,hag,hrows,hleft,hrg,hsr,hsb,hit⟩
 clear hit hsb hsr hrg hleft hrows hag r rows cnt left fr w a
 rintro k a w ⟨fr,left,cnt,rows,hck,r,hag,hrows,hleft,hrg,hsr,hsb,hit⟩
 refine wp_seq (wp_region ?_)
 rw [show List.range (#[oN,oX]:Array Oper).size = [0,1] from rfl,wpOps_cons]
 refine fE (o:=oN) rfl hN.1 ?_
 have hnext:=hrg.next K oN.type
 rw [← hit] at hnext
 rcases hnext with ⟨h0c,hl0,hrun⟩ | ⟨key,v,kl,y,w1,cnt',hkey,hlk,hv,hat,hrun,hrg1,hlt,hgr,hsz,hen⟩
 ·-- nothing is left
  refine cT (HL hN.2.1) hrun ?_
  rw [hN.2.2]
  obtain ⟨aa,e1,ra,ga,oa'⟩:=lP r hF q1 (.tuple #[.bool false]) .any trivial
  rw [e1,wpOps_cons]
  refine fE (o:=oX) rfl hX.1 ?_
  refine cT (sO hX.2.1) (cv:=.bool false) (w':=w) (by rw [show aa.eval (.tmp L.nx) = .tuple #[.bool false] from ga]; simp [Instr.extract]) ?_
  rw [hX.2.2]
  obtain ⟨ab,e2,rb,gb,ob⟩:=lP ra hF q2 (.bool false) .any trivial
  rw [e2]
  refine wp_seq (wp_cond_false gb (wp_exit ?_))
  simp only [Exit.then,Exit.inBlock,if_true]
  refine hQ _ _ _ rows rb ((hag.upd p1 _).upd p2 _) ?_
  obtain ⟨z1,z2⟩:=hrows
  refine ⟨z1,fun i hi=>?_⟩
  rw [z2 i hi]
  cases c i with
  | none=>rfl
  | some row=>simp [hl0]
 ·-- an entry has come
  obtain ⟨kn,dv,row,rfl,hklt,hRv,hdk,⟨xv,rfl⟩,hcell,hck',hrow2,hrowf⟩:=hM kl v (hleft kl hlk) (fun zd=>by
   have:=hat zd
   rw [this]
   simp only [Z0,Option.some.injEq] at hv
   rw [← hv])
  have hkeyv:key = .int .i64 (kn:Int):=by
   obtain ⟨z,z1,z2,_⟩:=keyOf_int_inv hkT hkey
   rw [z1]; cases z2; rfl
  refine cT (HL hN.2.1) hrun ?_
  rw [hN.2.2]
  have rw1:=r.side hgr (fun g hg=>by cases hg; exact hsr)
  obtain ⟨aa,e1,ra,ga,oa'⟩:=lP rw1 hF q1 (.tuple #[.bool true,key,v]) .any trivial
  rw [e1,wpOps_cons]
  refine fE (o:=oX) rfl hX.1 ?_
  refine cT (sO hX.2.1) (cv:=.bool true) (w':=w1) (by rw [show aa.eval (.tmp L.nx) = .tuple #[.bool true,key,v] from ga]; simp [Instr.extract]) ?_
  rw [hX.2.2]
  obtain ⟨ab,e2,rb,gb,ob⟩:=lP ra hF q2 (.bool true) .any trivial
  rw [e2]
  have itb:ab.tmps.getD L.it undef = .pointer (some ⟨rr,0,none⟩):=by rw [ob _ i_ok,oa' _ i_nx]; exact hit
  refine wp_seq (wp_cond_true gb (wp_skip ?_))
  simp only [Exit.then]
  refine wp_block (wp_seq (wp_region ?_))
  rw [show List.range (#[e0,e1',e2',e3,e4]:Array Oper).size = [0,1,2,3,4] from rfl,wpOps_cons]
  refine fE (o:=e0) rfl h0e.1 ?_
  refine cT (NY h0e.2.1) (cv:=.tuple #[key,v]) (w':=w1) (by rw [show ab.eval (.tmp L.it) = .pointer (some ⟨rr,0,none⟩) from itb,← hit]; exact hen) ?_
  rw [h0e.2.2]
  obtain ⟨ac,e3x,rc,gc,oc'⟩:=lP rb hF q3 (.tuple #[key,v]) .any trivial
  rw [e3x,wpOps_cons]
  refine fE (o:=e1') rfl h1e.1 ?_
  refine cT (sO h1e.2.1) (cv:=key) (w':=w1) (by rw [show ac.eval (.tmp L.en) = .tuple #[key,v] from gc]; simp [Instr.extract]) ?_
  rw [h1e.2.2]
  obtain ⟨ad,e4x,rd,gd,od⟩:=lP rc hF q4 key .any trivial
  have end' : ad.tmps.getD L.en undef = .tuple #[key,v]:=by rw [od _ en_k1]; exact gc
  rw [e4x,wpOps_cons]
  refine fE (o:=e2') rfl h2e.1 ?_
  refine cT (sO h2e.2.1) (cv:=v) (w':=w1) (by rw [show ad.eval (.tmp L.en) = .tuple #[key,v] from end']; simp [Instr.extract]) ?_
  rw [h2e.2.2]
  obtain ⟨ae,e5x,re,ge,oe⟩:=lP rd hF q5 v .any trivial
  rw [e5x,wpOps_cons]
  have k1e:ae.tmps.getD L.k1 undef = key:=by rw [oe _ k1_v1]; exact gd
  refine fE (o:=e3) rfl h3e.1 ?_
  refine cT (nJ h3e.2.1) (cv:=key) (w':=w1) (by rw [show ae.eval (.tmp L.k1) = key from k1e]; rfl) ?_
  rw [h3e.2.2]
  obtain ⟨af,e6x,rf,gf,of'⟩:=lP re hF q6 key (.d (.int .i64 (kn:Int))) ⟨rfl,by rw [hkeyv]; exact .int _ _⟩
  rw [e6x,wpOps_cons]
  have v1f:af.tmps.getD L.v1 undef = v:=by rw [of' _ v1_kk]; exact ge
  refine fE (o:=e4) rfl h4e.1 ?_
  refine cT (nJ h4e.2.1) (cv:=v) (w':=w1) (by rw [show af.eval (.tmp L.v1) = v from v1f]; rfl) ?_
  rw [h4e.2.2]
  have hRv' : ∀ bl',R3 h hd bl' v (.d xv):=fun _=>hRv
  obtain ⟨ag,e7x,rg,gg,og⟩:=lP rf hF q7 v (.d xv) (hRv' _)
  rw [e7x]
  refine wp_region ?_
  rw [show List.range (#[m1,m2,m3,oc,oa,os]:Array Oper).size = [0,1,2,3,4,5] from rfl,wpOps_cons]
  -- out
  have foa:cH (cH (cH (cH (cH (cH (cH fr (some L.nx) .any) (some L.ok) .any) (some L.en) .any) (some L.k1) .any) (some L.v1) .any) (some L.kk) (.d (.int .i64 (kn:Int)))) (some L.vv) (.d xv) L.out = .own id ver:=by
   have:s6 dead fr0 (cH (cH (cH (cH (cH (cH (cH fr (some L.nx) .any) (some L.ok) .any) (some L.en) .any) (some L.k1) .any) (some L.v1) .any) (some L.kk) (.d (.int .i64 (kn:Int)))) (some L.vv) (.d xv)):=((((((hag.upd p1 _).upd p2 _).upd p3 _).upd p4 _).upd p5 _).upd p6 _).upd p7 _
   rw [this _ hout]; exact hfo
  have agg:s6 dead fr0 (cH (cH (cH (cH (cH (cH (cH fr (some L.nx) .any) (some L.ok) .any) (some L.en) .any) (some L.k1) .any) (some L.v1) .any) (some L.kk) (.d (.int .i64 (kn:Int)))) (some L.vv) (.d xv)):=((((((hag.upd p1 _).upd p2 _).upd p3 _).upd p4 _).upd p5 _).upd p6 _).upd p7 _
  have kkg:ag.tmps.getD L.kk undef = key:=by rw [og _ kk_vv]; exact gf
  generalize cH (cH (cH (cH (cH (cH (cH fr (some L.nx) .any) (some L.ok) .any) (some L.en) .any) (some L.k1) .any) (some L.v1) .any) (some L.kk) (.d (.int .i64 (kn:Int)))) (some L.vv) (.d xv) = frg at rg foa agg
  have houtv:=rg.frame L.out
  rw [foa] at houtv
  refine fE (o:=m1) rfl h1m.1 ?_
  refine cT (nJ h1m.2.1) (cv:=ag.tmps.getD L.out undef) (w':=w1) rfl ?_
  rw [h1m.2.2]
  obtain ⟨ah,e8x,rh,gh,oh⟩:=lP rg hF q8 (ag.tmps.getD L.out undef) (.own id ver) houtv
  rw [e8x,wpOps_cons]
  have kkh:ah.tmps.getD L.kk undef = key:=by rw [oh _ kk_d1]; exact kkg
  refine fE (o:=m2) rfl h2m.1 ?_
  refine cT (nJ h2m.2.1) (cv:=key) (w':=w1) (by rw [show ah.eval (.tmp L.kk) = key from kkh]; rfl) ?_
  rw [h2m.2.2]
  obtain ⟨ai,e9x,ri,gi,oi⟩:=lP rh hF q9 key (.d (.int .i64 (kn:Int))) ⟨rfl,by rw [hkeyv]; exact .int _ _⟩
  rw [e9x,wpOps_cons]
  have vvi:ai.tmps.getD L.vv undef = v:=by rw [oi _ vv_d2,oh _ vv_d1]; exact gg
  refine fE (o:=m3) rfl h3m.1 ?_
  refine cT (nJ h3m.2.1) (cv:=v) (w':=w1) (by rw [show ai.eval (.tmp L.vv) = v from vvi]; rfl) ?_
  rw [h3m.2.2]
  obtain ⟨aj,e10x,rj,gj,oj⟩:=lP ri hF q10 v (.d xv) (hRv' _)
  rw [e10x,wpOps_cons]
  refine fE (o:=oc) rfl hc.1 ?_
  have agj:s6 dead fr0 (cH (cH (cH frg (some L.d1) (.own id ver)) (some L.d2) (.d (.int .i64 (kn:Int)))) (some L.d3) (.d xv)):=((agg.upd p8 _).upd p9 _).upd p10 _
  have f1:cH (cH (cH frg (some L.d1) (.own id ver)) (some L.d2) (.d (.int .i64 (kn:Int)))) (some L.d3) (.d xv) L.d1 = .own id ver:=by
   simp only [cH,Option.some.injEq]; rw [if_neg (Ne.symm d1_d3),if_neg (Ne.symm d1_d2),if_pos trivial]
  have f2:cH (cH (cH frg (some L.d1) (.own id ver)) (some L.d2) (.d (.int .i64 (kn:Int)))) (some L.d3) (.d xv) L.d2 = .d (.int .i64 (kn:Int)):=by
   simp only [cH,Option.some.injEq]; rw [if_neg (Ne.symm d2_d3),if_pos trivial]
  have f3:cH (cH (cH frg (some L.d1) (.own id ver)) (some L.d2) (.d (.int .i64 (kn:Int)))) (some L.d3) (.d xv) L.d3 = .d xv:=by
   simp only [cH,Option.some.injEq]; rw [if_pos trivial]
  have itj:aj.tmps.getD L.it undef = .pointer (some ⟨rr,0,none⟩):=by
   rw [oj _ i_d3,oi _ i_d2,oh _ i_d1,og _ i_vv,of' _ i_kk,oe _ i_v1,od _ i_k1,oc' _ i_en]; exact itb
  generalize cH (cH (cH frg (some L.d1) (.own id ver)) (some L.d2) (.d (.int .i64 (kn:Int)))) (some L.d3) (.d xv) = frj at rj agj f1 f2 f3
  refine hc.2 w0 w1 h0 h frj _ aj hd row _ _ hF rj (by rw [f3]; exact hcell) fun cv w2 rk gr2=>?_
  have hokk:=CY rj q11 cv
  rw [wpOps_cons]
  refine fE (o:=oa) rfl ha.1 ?_
  have x1:cH frj (some L.dc) (.agg (row.map .d)) L.d1 = .own id ver:=by simp only [cH,Option.some.injEq]; rw [if_neg (Ne.symm d1_dc)]; exact f1
  have x2:cH frj (some L.dc) (.agg (row.map .d)) L.d2 = .d (.int .i64 (kn:Int)):=by simp only [cH,Option.some.injEq]; rw [if_neg (Ne.symm d2_dc)]; exact f2
  have x3:cH frj (some L.dc) (.agg (row.map .d)) L.dc = .agg (row.map .d):=by simp only [cH,Option.some.injEq]; rw [if_pos trivial]
  have x4:s6 dead fr0 (cH frj (some L.dc) (.agg (row.map .d))):=agj.upd p11 _
  have itk:(aj.put (some L.dc) cv).tmps.getD L.it undef = .pointer (some ⟨rr,0,none⟩):=by rw [hokk,if_neg (Ne.symm i_dc)]; exact itj
  generalize cH frj (some L.dc) (.agg (row.map .d)) = frk at rk x1 x2 x3 x4
  generalize aj.put (some L.dc) cv = ak at rk itk
  obtain ⟨z1,z2⟩:=hrows
  have hz1:=rk.frame L.d1
  have hz2:=rk.frame L.d2
  rw [x1] at hz1
  rw [x2] at hz2
  have hidx:dW (fun _ _=>none) 0 (cQ frk) (cA blk0 [(id,some (.rows ver e 2 rows))]) (.indexAddr ei.size (.t L.d1) (.t L.d2)) = some (.orow id ver kn 0,[]):=by
   simp only [dW,cQ,x1,x2,gA]
   rw [if_pos ⟨trivial,hE2.symm,by omega,by simp; omega⟩]
   simp
  obtain ⟨_,pv,hpr,hpv⟩:=ML (P:=P) hS hE rk (x:=.t L.d1) (j:=.t L.d2) (rk.frame L.d1) (rk.frame L.d2) hidx
  refine cT (s:=Instr.indexAt S (ak.eval (.tmp L.d1)) (ak.eval (.tmp L.d2))) (by simp [execOp,ha.2.1]) hpr ?_
  rw [ha.2.2]
  obtain ⟨al,e12x,rl,gl,ol⟩:=lP rk hF q12 pv (.orow id ver kn 0) hpv
  rw [e12x,wpOps_cons]
  refine fE (o:=os) rfl hs.1 ?_
  have hrowk:∃ row0,rows[kn]? = some row0 ∧ row0.length = 2:=by
   have hlt:kn < rows.length:=by omega
   obtain ⟨_,_,⟨xs,_,hri⟩,_⟩:=rk.blk id _ (gA _ _ _)
   exact ⟨rows[kn],by simp [hlt],(hri kn rows[kn] (by simp [hlt])).1⟩
  obtain ⟨row0,hr0,hr02⟩:=hrowk
  have hcvk:R3 h hd (cA blk0 [(id,some (.rows ver e 2 rows))]) (ak.tmps.getD L.dc undef) (.agg (row.map .d)):=by
   have:=rk.frame L.dc
   rw [x3] at this
   exact this
  have hdcl:al.tmps.getD L.dc undef = ak.tmps.getD L.dc undef:=ol _ dc_da
  obtain ⟨arr,harr,hasz,hac⟩:=hcvk
  obtain ⟨w3,hst,hgr3,rm⟩:=ER rl hE (xv:=pv) (vv:=.agg arr) (by
    have:=rl.frame L.da
    rw [gl] at this
    simpa [cH] using this) (gA _ _ _) hr0 (ds:=row) (off:=0) (by
    intro j x hx
    have hxx:(row.map V.d)[j]? = some (.d x):=by simp [hx]
    obtain ⟨y1,y2⟩:=hac j (.d x) hxx
    exact ⟨y1.1,y1.2,y2⟩) (by have:=hasz; rw [List.length_map] at this; exact this) (by rw [hrow2,hE2]) (by omega) none (fun x e=>by cases e) undef
  refine IV (s:=Instr.storeAt E (al.eval (.tmp L.da)) (al.eval (.tmp L.dc))) (by simp [execOp,hs.2.1]) (by rw [show al.eval (.tmp L.da) = pv from gl,show al.eval (.tmp L.dc) = .agg arr from hdcl.trans harr]; exact hst) ?_
  rw [hs.2.2]
  have hset:gK row0 0 row = row:=by
   match row0,row,hr02,hrow2 with
   | [_,_],[_,_],_,_=>rfl
  rw [hset] at rm
  have hbb:cA (cA blk0 [(id,some (.rows ver e 2 rows))]) [(id,some (.rows ver e 2 (rows.set kn row)))] = cA blk0 [(id,some (.rows ver e 2 (rows.set kn row)))]:=by
   funext q; simp only [cA,lk]; split <;> rfl
  rw [hbb] at rm
  have hside:∀ g,D3 w0 h (cA blk0 [(id,some (.rows ver e 2 rows))]) hd g→D3 w0 h (cA blk0 [(id,some (.rows ver e 2 (rows.set kn row)))]) hd g:=fun g hg=>⟨hg.own,hg.out,fun q bq hq hlq=>by
   by_cases eq:q = id
   ·subst eq; exact hg.off _ _ (gA _ _ _) rfl
   ·rw [nX _ _ eq] at hq; exact hg.off q bq (by rw [nX _ _ eq]; exact hq) hlq⟩
  have hng:∀ g,D3 w0 h (cA blk0 [(id,some (.rows ver e 2 rows))]) hd g→some g ≠ (hd id).ownBlock:=fun g hg q=>by
   obtain ⟨_,_,⟨xs,ho,_⟩,_⟩:=rk.blk id _ (gA _ _ _)
   exact hg.off _ _ (gA _ _ _) rfl (ho.num.trans q.symm)
  have hrg2:=(hrg1.kept gr2 (by simp) (by simp)).kept hgr3 (hng b hsb) (hng rr hsr)
  refine ⟨_,_,cnt',rows.set kn row,by omega,rm,?_,?_,?_,hrg2,hside _ hsr,hside _ hsb,?_⟩
  ·have:=x4.upd p12 (.orow id ver kn 0)
   intro t ht
   simp only [cH] at this ⊢
   exact this t ht
  ·refine ⟨by simp [z1],fun i hi=>?_⟩
   rw [List.getElem?_set]
   by_cases hik:kn = i
   ·subst hik
    rw [if_pos rfl,if_pos (by omega),hck']
    simp [Lit.sameKey]
   ·rw [if_neg hik,z2 i hi]
    have:Lit.sameKey (.int .i64 (i:Int)) (.int .i64 (kn:Int)) = false:=by
     simp [Lit.sameKey]; omega
    simp [this]
  ·intro kl hkl
   simp only [Bool.and_eq_true] at hkl
   exact hleft kl hkl.1
  ·show (al.put none undef).tmps.getD L.it undef = _
   rw [show al.put none undef = al from rfl,ol _ i_da]
   exact itk
theorem aAp (k:Nat):WideAt.IsKeyLit (.int .i64 (k:Int)):=by simp [WideAt.IsKeyLit]
theorem aCG {l:List Nat} (h:l.Nodup) {i j x:Nat} (hi:l[i]? = some x) (hj:l[j]? = some x):i = j:=by
 obtain ⟨i1,i2⟩:=List.getElem?_eq_some_iff.1 hi
 obtain ⟨j1,j2⟩:=List.getElem?_eq_some_iff.1 hj
 have H:=List.pairwise_iff_getElem.1 h
 rcases Nat.lt_trichotomy i j with q | q | q
 ·exact absurd (i2.trans j2.symm) (H i j i1 j1 q)
 ·exact q
 ·exact absurd (j2.trans i2.symm) (H j i j1 i1 q)
theorem aGK {α:Type} {M:List α→Prop} (h0:M []) (h1:∀ l x,M l→M (l ++ [x])) (l:List α):M l:=by
 have key:∀ l:List α,M l.reverse:=by
  intro l
  induction l with
  | nil=>exact h0
  | cons x l ih=>rw [List.reverse_cons]; exact h1 _ x ih
 rw [← List.reverse_reverse l]
 exact key _
theorem T0 (es:List (Nat × Value)):Maps.IsMap (xJ es) ∧ (∀ kl,Maps.has (xJ es) kl = true→∃ k:Nat,kl = .int .i64 (k:Int) ∧ k ∈ es.map (·.1)) ∧
  ((es.map (·.1)).Nodup→∀ k v,(k,v) ∈ es→∀ zd,(xJ es).atKey (.int .i64 (k:Int)) zd = .held v):=by
 refine aGK (M:=fun es=>Maps.IsMap (xJ es) ∧ (∀ kl,Maps.has (xJ es) kl = true→∃ k:Nat,kl = .int .i64 (k:Int) ∧ k ∈ es.map (·.1)) ∧
  ((es.map (·.1)).Nodup→∀ k v,(k,v) ∈ es→∀ zd,(xJ es).atKey (.int .i64 (k:Int)) zd = .held v)) ?_ ?_ es
 ·exact ⟨Maps.isMap_empty,fun kl h=>by simp [xJ,Maps.has_eq] at h,fun _ k v h=>by simp at h⟩
 ·rintro es ⟨k0,v0⟩ ih
  obtain ⟨h1,h2,h3⟩:=ih
  rw [J1]
  refine ⟨h1.put _ _,fun kl h=>?_,fun hn k v hm zd=>?_⟩
  ·by_cases e:kl = .int .i64 (k0:Int)
   ·exact ⟨k0,e,by simp⟩
   ·rw [Maps.has_put_other e] at h
    obtain ⟨k,q1,q2⟩:=h2 kl h
    exact ⟨k,q1,by simp at q2 ⊢; exact .inl q2⟩
  ·rw [List.map_append,List.nodup_append] at hn
   obtain ⟨n1,_,n3⟩:=hn
   rcases List.mem_append.1 hm with q | q
   ·have hne:k ≠ k0:=n3 k (List.mem_map.2 ⟨_,q,rfl⟩) k0 (by simp)
    rw [Maps.atKey_put_other (by intro e; cases e; exact hne (by omega))]
    exact h3 n1 k v q zd
   ·simp only [List.mem_singleton,Prod.mk.injEq] at q
    obtain ⟨rfl,rfl⟩:=q
    exact Maps.atKey_put_same h1 (aAp _) _ _
def cOf (cell:V→Option (List D)) (s:St) (ks:List (Nat × Nat)) (i:Nat):Option (List D):=(ks.find? fun p=>p.1 == i).bind fun p=>cell (s.get p.2)
theorem JJ {cell:V→Option (List D)} {s:St}:∀ {ks:List (Nat × Nat)} {rows rows' : List (List D)},K4 cell s ks rows = some rows'→(ks.map (·.1)).Nodup→rows'.length = rows.length ∧ (∀ p ∈ ks,p.1 < rows.length ∧ ∃ row,cell (s.get p.2) = some row) ∧
  ∀ i,i < rows.length→rows'[i]? = match cOf cell s ks i with | some row=>some row | none=>rows[i]?
 | [],rows,rows',e,_=>by cases e; exact ⟨rfl,fun p hp=>by simp at hp,fun i _=>rfl⟩
 | (k,t) :: ks,rows,rows',e,hn=>by
  simp only [K4] at e
  split at e
  ·rename_i row hrow
   split at e
   ·rename_i hk
    simp only [List.map_cons,List.nodup_cons] at hn
    obtain ⟨h1,h2,h3⟩:=JJ e hn.2
    rw [List.length_set] at h1 h2 h3
    refine ⟨h1,fun p hp=>?_,fun i hi=>?_⟩
    ·rcases List.mem_cons.1 hp with rfl | hp
     ·exact ⟨hk,row,hrow⟩
     ·exact h2 p hp
    ·rw [h3 i hi]
     by_cases e2:k = i
     ·subst e2
      have hnone:cOf cell s ks k = none:=by
       unfold cOf
       have:ks.find? (fun p=>p.1 == k) = none:=by
        rw [List.find?_eq_none]
        intro p hp hpk
        simp only [beq_iff_eq] at hpk
        exact hn.1 (List.mem_map.2 ⟨p,hp,hpk⟩)
       rw [this]; rfl
      rw [hnone]
      simp [cOf,hrow,hk]
     ·have:cOf cell s ((k,t) :: ks) i = cOf cell s ks i:=by
       unfold cOf
       rw [List.find?_cons_of_neg (by simpa using e2)]
      rw [this,List.getElem?_set_ne e2]
   ·cases e
  ·cases e
theorem Rl.forget (r:Rl nt w0 h0 fr bl a w h hd) {dead:List Nat} {s:St} (hag:s6 dead s.get fr) (b:List (Nat × Option aX)) (hbl:bl = (⟨FZ dead s,b⟩ : St).blk):Rl nt w0 h0 (⟨FZ dead s,b⟩ : St).get (⟨FZ dead s,b⟩ : St).blk a w h hd:=by
 have hget:∀ t,(⟨FZ dead s,b⟩ : St).get t = if t ∈ dead then .any else s.get t:=by
  intro t
  simp only [St.get,FZ]
  rw [OX,NU (fun _=>V.any)]
 have hf:∀ t,R3 h hd bl (a.tmps.getD t undef) ((⟨FZ dead s,b⟩ : St).get t):=by
  intro t
  rw [hget]
  split
  ·trivial
  ·rename_i hn
   rw [← hag t hn]
   exact r.frame t
 rw [← hbl]
 exact { r with frame:=hf }
def L7:Code→Code
 | .seq a _=>a
 | c=>c
def yB:Code→Code
 | .seq _ b=>b
 | c=>c
def HU:Code→Array Oper
 | .region _ ops _=>ops
 | _=>#[]
theorem K7 {P:Program} {e:TypeId} {z:Value} {s b:Nat} (h:(P.info? e).map (fun i=>(i.zero,i.size,i.bytes)) = some (some z,s,b)):∃ i,P.info? e = some i ∧ i.zero = some z ∧ i.size = s ∧ i.bytes = b:=by
 cases hi:P.info? e with
 | none=>rw [hi] at h; cases h
 | some i=>rw [hi] at h; simp only [Option.map_some,Option.some.injEq,Prod.mk.injEq] at h; exact ⟨i,rfl,h.1,h.2.1,h.2.2⟩
def aA6 {α:Type} (Q:α→Prop):List α→Prop
 | []=>True
 | x :: l=>Q x ∧ aA6 Q l
theorem aA6.all {α:Type} {Q:α→Prop}:∀ {l:List α},aA6 Q l→∀ x ∈ l,Q x
 | [],_,x,h=>by simp at h
 | y :: l,q,x,h=>by
  rcases List.mem_cons.1 h with rfl | h
  ·exact q.1
  ·exact aA6.all q.2 x h
def FB:List (Oper × BM)→Bool
 | []=>true
 | (_,.vm _) :: l=>FB l
 | (_,.ins _ t) :: l=>(l.all fun q=>q.1.dst != some t) && FB l
theorem J7:∀ {l:List (Oper × BM)},FB l = true→l.Pairwise (fun p q=>∀ k t,p.2 = .ins k t→q.1.dst ≠ some t)
 | [],_=>List.Pairwise.nil
 | (_,.vm _) :: l,h=>List.pairwise_cons.2 ⟨fun q _ k t e=>(by cases e),J7 (l:=l) h⟩
 | (_,.ins k t) :: l,h=>by
  simp only [FB,Bool.and_eq_true] at h
  refine List.pairwise_cons.2 ⟨fun q hq k' t' e=>?_,J7 h.2⟩
  cases e
  have:=List.all_eq_true.1 h.1 q hq
  simpa using this
theorem MW {T kT eT tm mv:Nat} (hT:P.underlying T = some (.map kT eT)) (hkT:P.underlying kT = some (.int .i64)) {cell:V→Option (List D)} (hcf:∀ d row,cell d = some row→(∃ x,d = .d x ∧ ((∃ k m,x = .int k m) ∨ ∃ q,x = .bool q)) ∧ row.length = 2 ∧ ∀ (j:Nat) (x:D),row[j]? = some x→xO x = true)
  (L:NG) (dead:List Nat) (hdead:∀ t ∈ L.slots,t ∈ dead ∧ t < nt) (hnd:(L.it :: L.out :: L.slots).Nodup) (hout:L.out ∉ dead) (htm:tm ∈ dead ∧ tm < nt) (hmvd:mv ∈ dead ∧ mv < nt) (hitd:L.it ∈ dead ∧ L.it < nt) (hmi:mv ≠ L.it)
  {items:List (Oper × BM)} {oMake oMv oRg:Oper} (hmk:oMake.guard = none ∧ oMake.op = .makeMap T none ∧ oMake.dst = some tm) (hmv:oMv.guard = none ∧ oMv.op = .move (.tmp tm) ∧ oMv.dst = some mv) (hrg:oRg.guard = none ∧ oRg.op = .range T (.tmp mv) ∧ oRg.dst = some L.it)
  (hitems' : aA6 (NO P nt T tm) items) (hpw' : FB items = true) (hlen:items.length < 1000) (hkn:((mW items).map (·.1)).Nodup)
  {rid r1 r2 r3 b0 b1 S E:Nat} {oN oX e0 e1' e2' e3 e4 m1 m2 m3 oc oa os:Oper} {ei:TypeInfo}
  (hN:oN.guard = none ∧ oN.op = .next (.tmp L.it) false ∧ oN.dst = some L.nx) (hX:oX.guard = none ∧ oX.op = .extract (.tmp L.nx) 0 ∧ oX.dst = some L.ok)
  (h0e:e0.guard = none ∧ e0.op = .entry (.tmp L.it) ∧ e0.dst = some L.en) (h1e:e1'.guard = none ∧ e1'.op = .extract (.tmp L.en) 0 ∧ e1'.dst = some L.k1) (h2e:e2'.guard = none ∧ e2'.op = .extract (.tmp L.en) 1 ∧ e2'.dst = some L.v1)
  (h3e:e3.guard = none ∧ (e3.op = .assign (.tmp L.k1) ∨ e3.op = .move (.tmp L.k1)) ∧ e3.dst = some L.kk) (h4e:e4.guard = none ∧ (e4.op = .assign (.tmp L.v1) ∨ e4.op = .move (.tmp L.v1)) ∧ e4.dst = some L.vv)
  (h1m:m1.guard = none ∧ (m1.op = .assign (.tmp L.out) ∨ m1.op = .move (.tmp L.out)) ∧ m1.dst = some L.d1) (h2m:m2.guard = none ∧ (m2.op = .assign (.tmp L.kk) ∨ m2.op = .move (.tmp L.kk)) ∧ m2.dst = some L.d2) (h3m:m3.guard = none ∧ (m3.op = .assign (.tmp L.vv) ∨ m3.op = .move (.tmp L.vv)) ∧ m3.dst = some L.d3)
  (hc:oc.guard = none ∧ OB P nt cell oc L.d3 L.dc) (ha:oa.guard = none ∧ oa.op = .indexAddr S (.tmp L.d1) (.tmp L.d2) ∧ oa.dst = some L.da) (hs:os.guard = none ∧ os.op = .store E (.tmp L.da) (.tmp L.dc) ∧ os.dst = none)
  (hS:P.underlying S = some (.slice E)) (hE:P.info? E = some ei) (hE2:ei.size = 2) {ops:Array Oper} (hops:ops = (oMake :: (items.map (·.1) ++ [oMv,oRg])).toArray) :
  dS P nt (.seq (.region rid ops false) (.block b0 (.loop (.seq (.region r1 #[oN,oX] false) (.seq (.cond (.tmp L.ok) .skip (.exit b0)) (.block b1 (.seq (.region r2 #[e0,e1',e2',e3,e4] false) (.region r3 #[m1,m2,m3,oc,oa,os] false))))))))
   (.seq (.region (⟨some tm,.move (.c .any),none⟩ :: DX items) none) (.hand (E3 L.out cell (mW items) dead))):=by
 have hitems:=hitems'.all
 have hpw:=J7 hpw'
 intro C hC n w0 h0 s s' ex a w h hd Q hF he r hQ
 simp only [dD,fZ,lG] at he
 have h1:qY C ⟨some tm,.move (.c .any),none⟩ s = some (s.put (some tm) .any []):=rfl
 rw [h1] at he
 simp only at he
 cases hrun:lG C (DX items) (s.put (some tm) .any []) with
 | none=>rw [hrun] at he; cases he
 | some s0 =>
  rw [hrun] at he
  simp only at he
  cases hg:E3 L.out cell (mW items) dead s0 with
  | none=>rw [hg] at he; cases he
  | some s1 =>
   rw [hg] at he
   cases he
   unfold E3 at hg
   split at hg
   ·rename_i id ver hfo
    split at hg
    ·rename_i v e size rows hb
     split at hg
     ·rename_i hvs
      obtain ⟨rfl,rfl⟩:=hvs
      split at hg
      ·rename_i rows' hsl
       cases hg
       subst hops
       obtain ⟨z1,z2,z3⟩:=JJ hsl hkn
       refine wp_seq (wp_region ?_)
       have hrange:List.range ((oMake :: (items.map (·.1) ++ [oMv,oRg])).toArray).size = 0 :: (List.range' 1 items.length ++ [items.length + 1,items.length + 2]):=by
        rw [List.range_eq_range']
        simp only [List.size_toArray,List.length_cons,List.length_append,List.length_map,List.length_nil]
        rw [show items.length + (0 + 1 + 1) + 1 = (items.length + 2) + 1 by omega,List.range'_succ]
        congr 1
        rw [show (0:Nat) + 1 = 1 by rfl,← List.range'_append_1]
        congr 1
        simp [List.range'_succ]
        omega
       rw [hrange,wpOps_cons]
       refine fE (o:=oMake) (by simp) hmk.1 ?_
       refine cT (s:=Instr.makeMap T none) (by simp [execOp,hmk.2.1]) (EE T w) ?_
       rw [hmk.2.2]
       have r1:=r.side (World.grownBy_alloc w (.map #[] 0) none) (fun g hg=>by cases hg)
       obtain ⟨a1,e1,ra,ga,oa1⟩:=lP r1 hF htm.2 (.map (some w.heap.size)) .any trivial
       rw [e1]
       have hS1:D3 w0 h s.blk hd w.heap.size:=D3.new r (Nat.le_refl _)
       have hupd:cH s.get (some tm) .any = (s.put (some tm) .any []).get:=by
        funext t; simp only [St.put,St.get,lk,cH,Option.some.injEq]
        by_cases e:t = tm
        ·simp [e]
        ·rw [if_neg e,if_neg (Ne.symm e)]
       rw [hupd] at ra
       refine AR hT hkT hF items 1 0 (s.put (some tm) .any []) s0 a1 [] _ (fun j p hp=>?_) hitems hpw (by unfold maxLen; omega) hrun ra (World.ownsMap_made w P kT Z0) hS1 ga ?_
       ·have hj:=(List.getElem?_eq_some_iff.1 hp).1
        simp only [List.getElem?_toArray]
        rw [show 1 + j = j + 1 by omega,List.getElem?_cons_succ,List.getElem?_append_left (by simpa using hj),List.getElem?_map,hp]
        rfl
       ·intro a2 w2 es r2 hbl2 hm2 ht2 hent
        have hblk:s0.blk = s.blk:=hbl2
        rw [wpOps_cons]
        have q1:((oMake :: (items.map (·.1) ++ [oMv,oRg])).toArray)[items.length + 1]? = some oMv:=by
         simp only [List.getElem?_toArray,List.getElem?_cons_succ]
         rw [List.getElem?_append_right (by simp)]
         simp
        have q2:((oMake :: (items.map (·.1) ++ [oMv,oRg])).toArray)[items.length + 2]? = some oRg:=by
         simp only [List.getElem?_toArray,List.getElem?_cons_succ]
         rw [List.getElem?_append_right (by simp)]
         simp
        refine fE (o:=oMv) q1 hmv.1 ?_
        refine cT (nJ (.inr hmv.2.1)) (cv:=.map (some w.heap.size)) (w':=w2) (by rw [show a2.eval (.tmp tm) = .map (some w.heap.size) from ht2]; rfl) ?_
        rw [hmv.2.2]
        obtain ⟨a3,e3x,r3,g3,o3⟩:=lP r2 hF hmvd.2 (.map (some w.heap.size)) .any trivial
        rw [e3x,wpOps_cons]
        refine fE (o:=oRg) q2 hrg.1 ?_
        obtain ⟨w4,g4,g5,g6,g7⟩:=hm2.range (int_keyed hkT) hT
        refine cT (s:=Instr.range T (a3.eval (.tmp mv))) (by simp [execOp,hrg.2.1]) (by rw [show a3.eval (.tmp mv) = .map (some w.heap.size) from g3]; exact g4) ?_
        rw [hrg.2.2]
        have r4:=r3.side g6 (fun g hg=>by cases hg)
        obtain ⟨a5,e5x,r5,g8,o5⟩:=lP r4 hF hitd.2 (.pointer (some ⟨w2.heap.size,0,none⟩)) .any trivial
        rw [e5x]
        simp only [List.nil_append,Nat.zero_add] at g5 hm2
        have hS2:D3 w0 h s0.blk hd w2.heap.size:=D3.new r2 (Nat.le_refl _)
        have hself:cA s0.blk [(id,some (.rows ver e 2 rows))] = s0.blk:=by
         funext q
         by_cases eq:q = id
         ·subst eq; rw [gA,hb]
         ·rw [nX _ _ eq]
        have hag:s6 dead s0.get (cH (cH s0.get (some mv) .any) (some L.it) .any):=((show s6 dead s0.get s0.get from fun _ _=>rfl).upd hmvd.1 _).upd hitd.1 _
        obtain ⟨m1s,m2s,m3s⟩:=T0 es
        have hkeys:es.map (·.1) = (mW items).map (·.1):=hent.1
        show (Code.block b0 _).wp P Q a5 w4
        refine aCJ (int_keyed hkT) hkT hF L dead hdead hnd hout hN hX h0e h1e h2e h3e h4e h1m h2m h3m hc ha hs hS hE hE2 (fr0:=s0.get) (blk0:=s0.blk) hfo hb (M:=xJ es) (c:=cOf cell s0 (mW items)) ?_ (fun kl hkl=>?_) a5 w4 _ (Maps.has (xJ es)) _ rows (by rw [hself]; exact r5) hag ⟨rfl,fun i hi=>?_⟩ (fun kl h=>h) g5 (by rw [hself]; exact hS2) (by rw [hself,hblk]; exact hS1) g8 ?_
        ·intro kl v hkl hat
         obtain ⟨k,rfl,hk⟩:=m2s kl hkl
         obtain ⟨⟨k',v'⟩,hp,rfl⟩:=List.mem_map.1 hk
         have hv':=m3s (by rw [hkeys]; exact hkn) k' v' hp .nil
         rw [hat .nil] at hv'
         cases hv'
         obtain ⟨j,hj⟩:=List.mem_iff_getElem?.1 hp
         have hj2:((mW items).map (·.1))[j]? = some k':=by rw [← hkeys,List.getElem?_map,hj]; rfl
         rw [List.getElem?_map,Option.map_eq_some_iff] at hj2
         obtain ⟨⟨k2,t⟩,hj3,rfl⟩:=hj2
         have hR:=hent.2 j k2 t v hj hj3
         obtain ⟨zk,row,hrow⟩:=z2 (k2,t) (List.mem_of_getElem? hj3)
         obtain ⟨⟨x,hx,hxx⟩,hl2,hfl⟩:=hcf _ row hrow
         refine ⟨k2,.d x,row,rfl,zk,?_,fun y hy=>?_,⟨x,rfl⟩,by rw [← hx]; exact hrow,?_,hl2,hfl⟩
         ·simp only at hx
          rw [hx] at hR
          exact hR
         ·cases hy; exact hxx
         ·unfold cOf
          have hfind:(mW items).find? (fun p=>p.1 == k2) = some (k2,t):=by
           cases hf:(mW items).find? (fun p=>p.1 == k2) with
           | none =>
            rw [List.find?_eq_none] at hf
            have:=hf _ (List.mem_of_getElem? hj3)
            simp at this
           | some p =>
            have h1:=List.mem_of_find?_eq_some hf
            have h2:=List.find?_some hf
            simp only [beq_iff_eq] at h2
            obtain ⟨i,hi⟩:=List.mem_iff_getElem?.1 h1
            have:i = j:=by
             have a1:((mW items).map (·.1))[i]? = some k2:=by rw [List.getElem?_map,hi,← h2]; rfl
             have a2:((mW items).map (·.1))[j]? = some k2:=by rw [List.getElem?_map,hj3]; rfl
             exact aCG hkn a1 a2
            subst this
            rw [hj3] at hi
            exact hi ▸ rfl
          rw [hfind]
          exact hrow
        ·obtain ⟨k,q,_⟩:=m2s kl hkl
         exact ⟨k,q⟩
        ·cases hci:cOf cell s0 (mW items) i with
         | none=>rfl
         | some row =>
          simp only
          have hmem:∃ v,(i,v) ∈ es:=by
           unfold cOf at hci
           cases hf:(mW items).find? (fun p=>p.1 == i) with
           | none=>rw [hf] at hci; cases hci
           | some p =>
            have h1:=List.mem_of_find?_eq_some hf
            have h2:=List.find?_some hf
            simp only [beq_iff_eq] at h2
            have:i ∈ es.map (·.1):=by rw [hkeys,← h2]; exact List.mem_map.2 ⟨p,h1,rfl⟩
            obtain ⟨⟨k,v⟩,q,rfl⟩:=List.mem_map.1 this
            exact ⟨v,q⟩
          obtain ⟨v,hv⟩:=hmem
          rw [if_pos]
          exact Maps.has_true_of_atKey (fun z=>m3s (by rw [hkeys]; exact hkn) i v hv z)
        ·intro a6 w6 fr6 rows6 r6 hag6 hrows6
         have hrr:rows6 = rows':=by
          apply List.ext_getElem?
          intro i
          by_cases hi:i < rows.length
          ·rw [hrows6.2 i hi,z3 i hi]
           cases cOf cell s0 (mW items) i <;> simp
          ·rw [List.getElem?_eq_none (by rw [hrows6.1]; omega),List.getElem?_eq_none (by omega)]
         subst hrr
         refine hQ _ _ h hd (r6.forget hag6 _ ?_)
         funext q
         simp only [cA,St.blk,lk]
      ·cases hg
     ·cases hg
    ·cases hg
   ·cases hg
theorem JM {v:V} {row:List D} (h:CK v = some row):∃ n,v = .d (.int .i64 n) ∧ row = [.bool true,.int .i64 n]:=by
 unfold CK at h
 split at h
 ·cases h; exact ⟨_,rfl,rfl⟩
 ·cases h
theorem KK {v:V} {row:List D} (h:B3 v = some row):∃ b,v = .d (.bool b) ∧ row = [.bool true,.int .i64 (if b = true then 1 else 0)]:=by
 unfold B3 at h
 split at h
 ·cases h; exact ⟨_,rfl,rfl⟩
 ·cases h
theorem aHu {x y:D} (hx:xO x = true) (hy:xO y = true):∀ (j:Nat) (z:D),[x,y][j]? = some z→xO z = true:=fun j z h=>by
 have:=List.mem_of_getElem? h
 simp at this
 rcases this with rfl | rfl
 ·exact hx
 ·exact hy
theorem aFN:∀ d row,CK d = some row→(∃ x,d = .d x ∧ ((∃ k m,x = .int k m) ∨ ∃ q,x = .bool q)) ∧ row.length = 2 ∧ ∀ (j:Nat) (x:D),row[j]? = some x→xO x = true:=fun d row h=>by
 obtain ⟨n,rfl,rfl⟩:=JM h
 exact ⟨⟨_,rfl,.inl ⟨_,_,rfl⟩⟩,rfl,aHu rfl rfl⟩
theorem aG7:∀ d row,B3 d = some row→(∃ x,d = .d x ∧ ((∃ k m,x = .int k m) ∨ ∃ q,x = .bool q)) ∧ row.length = 2 ∧ ∀ (j:Nat) (x:D),row[j]? = some x→xO x = true:=fun d row h=>by
 obtain ⟨n,rfl,rfl⟩:=KK h
 exact ⟨⟨_,rfl,.inr ⟨_,rfl⟩⟩,rfl,aHu rfl rfl⟩
theorem QA {o:Oper} {t d3 dc:Nat} (hop:o.op = .build t #[(0,.const (.bool true)),(1,.tmp d3)]) (hdst:o.dst = some dc) (hdc:dc < nt)
  (hlow:uB P o = .build [.d (.bool false),.d (.int .i64 0)] [(0,1,.c (.d (.bool true))),(1,1,.t d3)]):OB P nt CK o d3 dc:=by
 intro w0 w h0 h fr bl a hd row K Q hF r hc hK
 obtain ⟨n,hn,rfl⟩:=JM hc
 have ha:dW (fun _ _=>none) 0 (cQ fr) bl (.build [.d (.bool false),.d (.int .i64 0)] [(0,1,.c (.d (.bool true))),(1,1,.t d3)]) = some (.agg [.d (.bool true),.d (.int .i64 n)],[]):=by
  simp only [dW,List.map_cons,List.map_nil,cQ,hn]
  rfl
 refine (GJ r o hlow rfl ha fun cv hcv=>?_).2
 rw [hdst]
 refine hK cv w ?_ ⟨rfl,rfl,rfl,Nat.le_refl _,fun _ _ _=>rfl⟩
 exact r.put0 (some dc) cv _ (fun x e=>by cases e; exact ⟨hdc,hF dc⟩) hcv
theorem TB {o:Oper} {f d3 dc:Nat} (hlow:uB P o = .call f [.t d3]) (hdst:o.dst = some dc) (hdc:dc < nt) (hS:∀ b,zY P f [.bool b] (.agg [.bool true,.int .i64 (if b = true then 1 else 0)])):OB P nt B3 o d3 dc:=by
 intro w0 w h0 h fr bl a hd row K Q hF r hc hK
 obtain ⟨b,hb,rfl⟩:=KK hc
 obtain ⟨c,fn,hop,hcal,hfn,hl,c1,c2⟩:=JA hlow
 have hexec:(execOp a.eval o).run P w = .ok (.enter f (c.args.map a.eval)) w:=by
  obtain ⟨bd,hbd⟩:=Option.isSome_iff_exists.1 c2
  simp [execOp,hop,resolve,hcal,Act.eval,Deferred.ofValue,invoke,callFunc,hfn,c1,hbd]
 obtain ⟨m1,m2⟩:=cO hl
 have hargs:(c.args.map a.eval).size = 1:=by simpa using m1
 obtain ⟨x,x1,x2⟩:=dQ hl (show [cY.t d3][0]? = some (.t d3) from rfl)
 have hx:a.eval x = .bool b:=by
  have h3:=cJ r.frame x2
  rw [show cQ fr (.t d3) = .d (.bool b) from hb] at h3
  exact oJ h3
 have hcalls:=(hS b).2 w h (c.args.map a.eval) r.hle hargs (fun i d hi=>by
  cases i with
  | zero =>
   simp only [List.getElem?_cons_zero,Option.some.injEq] at hi
   subst hi
   have x1' : c.args[0]? = some x:=by simpa using x1
   have:(c.args.map a.eval).getD 0 undef = a.eval x:=by simp [x1']
   rw [this,hx]
   exact .bool b
  | succ i=>simp at hi)
 unfold Oper.wp
 rw [hexec]
 simp only [Oper.upon]
 refine hcalls.mono ?_
 rintro en w' ⟨cv,h',rfl,g1,g2,g3,g4,g5⟩
 simp only
 rw [hdst]
 have hfl:EN (.agg [.bool true,.int .i64 (if b = true then 1 else 0)]) = true:=rfl
 have hrd:bY h cv (.agg [.bool true,.int .i64 (if b = true then 1 else 0)]):=sY g1 hfl h
 refine hK cv w' (r.call (some dc) (fun x e=>by cases e; exact ⟨hdc,hF dc⟩) cv _ (Hp.le.refl _) (fun q ob hq=>?_) (fun _ _=>rfl) g5 (OP hrd)) ⟨g5.os,g5.tape,g5.output,g5.size,fun k hk _=>g5.block k hk⟩
 exact (g5.block q (Array.getElem?_eq_some_iff.1 (r.hle q ob hq)).1).trans (r.hle q ob hq)
end
end Vm
end Go.Proofs.Ytfhebiceipgdmaa
set_option linter.unusedVariables false
set_option linter.unusedSimpArgs false
namespace Go.Proofs.Ytfhebiceipgdmaa
namespace Vm
open Go.RowKit
section
variable {β:Type} {T:AC} {fr:List (Nat × V)} {bl:List (Nat × Option aX)}
def TN (ver:Nat) (b:Option aX) (g:Nat→List (List D)→Option β):Option β:=match b with
 | some (.rows v e size rows)=>if ver = v ∧ size = 2 then g e rows else none
 | _=>none
theorem QY (v e:Nat) (rows:List (List D)) (g:Nat→List (List D)→Option β):TN v (some (.rows v e 2 rows)) g = g e rows:=if_pos ⟨rfl,rfl⟩
def wO (cell:V→Option (List D)) (fr:List (Nat × V)):List (Nat × Nat)→List (List D)→(List (List D)→Option β)→Option β
 | [],rows,g=>g rows
 | (k,t) :: l,rows,g=>mK fr t fun v=>(cell v).bind fun row=>if k < rows.length then wO cell fr l (rows.set k row) g else none
theorem aAs (cell:V→Option (List D)) (rows:List (List D)) (g:List (List D)→Option β):wO cell fr [] rows g = g rows:=rfl
theorem RD (cell:V→Option (List D)) (b:List (Nat × Option aX)) (g:List (List D)→Option β):∀ (l:List (Nat × Nat)) (rows:List (List D)),wO cell fr l rows g = (K4 cell ⟨fr,b⟩ l rows).bind g
 | [],rows=>rfl
 | (k,t) :: l,rows=>by
  simp only [wO,K4,mK]
  rw [CB]
  cases cell (lk fr .any t) with
  | none=>rfl
  | some row =>
   simp only [Option.bind_some,RD cell b g l]
   split <;> rfl
def MT:List Nat→List (Nat × V)→List (Nat × V)
 | [],fr=>fr
 | t :: l,fr=>(t,.any) :: MT l fr
theorem aAy:MT [] fr = fr:=rfl
theorem S0 (t:Nat) (l:List Nat):MT (t :: l) fr = (t,.any) :: MT l fr:=rfl
theorem PW (b:List (Nat × Option aX)):∀ l:List Nat,FZ l ⟨fr,b⟩ = MT l fr
 | []=>rfl
 | t :: l=>by
  show (t,V.any) :: (FZ l ⟨fr,b⟩) = _
  rw [PW b l]
  rfl
theorem aBF (out:Nat) (cell:V→Option (List D)) (ks:List (Nat × Nat)) (dead:List Nat) (k:Ex→St→Option β):cX T (.hand (E3 out cell ks dead)) ⟨fr,bl⟩ k = mK fr out fun v=>OR v fun id ver=>eD bl id fun b=>TN ver b fun e rows=>wO cell fr ks rows fun rows'=>k .normal ⟨MT dead fr,(id,some (.rows ver e 2 rows')) :: bl⟩:=by
 unfold cX
 rw [aGr]
 unfold E3 mK
 rw [CB]
 cases lk fr .any out with
 | own id ver =>
  simp only [OR,eD,TN]
  rw [BA]
  cases lk bl none id with
  | none=>rfl
  | some b =>
   cases b with
   | rows v e size rows =>
    simp only
    split
    ·rename_i hc
     obtain ⟨rfl,rfl⟩:=hc
     rw [RD cell bl]
     cases K4 cell ⟨fr,bl⟩ ks rows with
     | none=>rfl
     | some rows'=>simp only [Option.map_some,Option.bind_some,PW]
    ·rfl
   | _=>rfl
 | _=>rfl
def aFJ (v:V) (g:Int→Option β):Option β:=match v with
 | .d (.int .i64 n)=>g n
 | _=>none
def aGm (v:V) (g:Bool→Option β):Option β:=match v with
 | .d (.bool b)=>g b
 | _=>none
theorem aJX {α:Type} (c:α→List D) (mk:Int→α) (hmk:∀ n,c (mk n) = [.bool true,.int .i64 n]) (k t:Nat) (l:List (Nat × Nat)) (xs:List α) (g:List (List D)→Option β) :
  wO CK fr ((k,t) :: l) (cM c xs) g = mK fr t fun v=>aFJ v fun n=>if k < xs.length then wO CK fr l (cM c (xs.set k (mk n))) g else none:=by
 simp only [wO,mK,aFJ]
 have h1:(cM c xs).length = xs.length:=List.length_map ..
 cases lk fr .any t with
 | d x =>
  cases x with
  | int kd n =>
   cases kd <;> first | rfl | skip
   simp only [CK,Option.bind_some,h1]
   have h2:(cM c xs).set k [.bool true,.int .i64 n] = cM c (xs.set k (mk n)):=by rw [← hmk]; simp [cM,List.map_set]
   rw [h2]
  | _=>rfl
 | _=>rfl
theorem aJU {α:Type} (c:α→List D) (mk:Int→α) (hmk:∀ n,c (mk n) = [.bool true,.int .i64 n]) (k t:Nat) (l:List (Nat × Nat)) (xs:List α) (g:List (List D)→Option β) :
  wO B3 fr ((k,t) :: l) (cM c xs) g = mK fr t fun v=>aGm v fun b=>if k < xs.length then wO B3 fr l (cM c (xs.set k (mk (if b = true then 1 else 0)))) g else none:=by
 simp only [wO,mK,aGm]
 have h1:(cM c xs).length = xs.length:=List.length_map ..
 cases lk fr .any t with
 | d x =>
  cases x with
  | bool b =>
   simp only [B3,Option.bind_some,h1]
   have h2:(cM c xs).set k [.bool true,.int .i64 (if b = true then 1 else 0)] = cM c (xs.set k (mk (if b = true then 1 else 0))):=by rw [← hmk]; simp [cM,List.map_set]
   rw [h2]
  | _=>rfl
 | _=>rfl
theorem aIT (n:Int) (g:Int→Option β):aFJ (.d (.int .i64 n)) g = g n:=rfl
theorem aIL (b:Bool) (g:Bool→Option β):aGm (.d (.bool b)) g = g b:=rfl
end
end Vm
end Go.Proofs.Ytfhebiceipgdmaa
