/- How what a call is handed reads: as data of the small machine; and of which size it is. Loops over plain states: what they answer. More about loops over plain states: first findings, errors, sums of findings. -/
import Derived.Test.YtfhebiceipgdmaaVmD
import Derived.Test.YtfhebiceipgdmaaVmE
import Derived.ProofKit
import Derived.OpenShut
import Derived.Deep.Slices
import Derived.ChangeOld
import Derived.Test.YtfhebiceipgdmaaVmF
import Derived.IntWalk
set_option linter.unusedVariables false
namespace Go.Proofs.Ytfhebiceipgdmaa
open Go.RowKit Go.ChangeShapes Go.WideShapes Go.Deep Vm
def Sq {α:Type} (w:World) (TV:World→α→List Value→Prop) (k:Nat) (v:Value) (xs:List α):Prop :=
 (∃ a c,v = .slice a 0 c ∧ (a = none→c = 0) ∧ xs = []) ∨ ∃ b off c,v = .slice (some ⟨b,off,none⟩) xs.length c ∧ xs.length ≤ c ∧ c ≤ maxLen ∧
  ∀ (i:Nat) (x:α),xs[i]? = some x→∃ cs,TV w x cs ∧ cs.length = k ∧ ∀ j,j < k→w.cell? ⟨b,off + i * k + j,none⟩ = cs[j]?
def SqTV {α:Type} (TV:World→α→List Value→Prop) (k:Nat) (w:World) (xs:List α) (cs:List Value):Prop:=∃ v,cs = [v] ∧ Sq w TV k v xs
def IntTV (_w:World) (n:Int) (cs:List Value):Prop:=cs = [.int .i64 n] ∧ (Lit.int .i64 n).wf = true
def StrTV (_w:World) (s:ByteArray) (cs:List Value):Prop:=cs = [.string s] ∧ s.size ≤ maxLen
def RdC (h:Hp) (cs:List Value) (ds:List D):Prop:=cs.length = ds.length ∧ ∀ (j:Nat) (x:D),ds[j]? = some x→∃ u,cs[j]? = some u ∧ Reads h u x ∧ u.oneCell' = true
theorem RdC.nil (h:Hp):RdC h [] []:=⟨rfl,fun j x e=>by simp at e⟩
theorem RdC.cons {h:Hp} {u:Value} {cs:List Value} {x:D} {ds:List D} (r:Reads h u x) (hx:x.atom = true) (q:RdC h cs ds):RdC h (u :: cs) (x :: ds):=by
 refine ⟨by simp [q.1],fun j y hy=>?_⟩
 cases j with
 | zero=>simp at hy; subst hy; exact ⟨u,rfl,r,r.one hx⟩
 | succ j=>simpa using q.2 j y (by simpa using hy)
theorem RdC.agg {h:Hp} {arr:Array Value} {ds:List D} (q:RdC h arr.toList ds):Reads h (.agg arr) (.agg ds):=by
 have key:∀ (j:Nat) (x:D),ds[j]? = some x→Reads h (arr.getD j undef) x ∧ (arr.getD j undef).oneCell' = true:=by
  intro j x hx
  obtain ⟨u,h1,h2,h3⟩:=q.2 j x hx
  have:arr.getD j undef = u:=by
   have h1' : arr[j]? = some u:=by simpa using h1
   simp [h1']
  rw [this]
  exact ⟨h2,h3⟩
 exact .agg arr ds (by simpa using q.1) (fun j x hx=>(key j x hx).1) (fun j x hx=>(key j x hx).2)
def Rds {α:Type} (TV:World→α→List Value→Prop) (c:α→List D) (k:Nat):Prop:=∀ (w:World) (x:α) (cs:List Value),TV w x cs→RdC (hw w) cs (c x) ∧ (c x).length = k
theorem Sq.reads {α:Type} {w:World} {TV:World→α→List Value→Prop} {c:α→List D} {k:Nat} {v:Value} {xs:List α} (hR:Rds TV c k) (q:Sq w TV k v xs):Reads (hw w) v (.sl (cM c xs)):=by
 rcases q with ⟨a,cp,rfl,h0,rfl⟩ | ⟨b,off,cp,rfl,h1,h2,h3⟩
 ·exact .sl0 a cp h0
 ·have key:∀ (i:Nat) (row:List D) (j:Nat) (x:D),(cM c xs)[i]? = some row→row[j]? = some x→∃ u,w.cell? ⟨b,off + i * k + j,none⟩ = some u ∧ Reads (hw w) u x ∧ u.oneCell' = true:=by
   intro i row j x hi hj
   simp only [cM,List.getElem?_map,Option.map_eq_some_iff] at hi
   obtain ⟨y,hy,rfl⟩:=hi
   obtain ⟨cs,g1,g2,g3⟩:=h3 i y hy
   obtain ⟨r1,r2⟩:=hR w y cs g1
   obtain ⟨u,s1,s2,s3⟩:=r1.2 j x hj
   have hlt:j < k:=by rw [← r2]; exact (List.getElem?_eq_some_iff.1 hj).1
   exact ⟨u,(g3 j hlt).trans s1,s2,s3⟩
  refine .sl b off cp k xs.length (cM c xs) (fun i j=>(w.cell? ⟨b,off + i * k + j,none⟩).getD undef) (by simp [cM]) (by simpa [cM] using h1) ?_ ?_ ?_ ?_
  ·intro i row hi
   simp only [cM,List.getElem?_map,Option.map_eq_some_iff] at hi
   obtain ⟨y,hy,rfl⟩:=hi
   obtain ⟨cs,g1,g2,g3⟩:=h3 i y hy
   exact (hR w y cs g1).2
  ·intro i row j x hi hj
   obtain ⟨u,q1,_⟩:=key i row j x hi hj
   rw [← cell_hw,q1]; rfl
  ·intro i row j x hi hj
   obtain ⟨u,q1,q2,_⟩:=key i row j x hi hj
   rw [q1]; exact q2
  ·intro i row j x hi hj
   obtain ⟨u,q1,_,q3⟩:=key i row j x hi hj
   rw [q1]; exact q3
theorem rds_int:Rds IntTV cI 1:=fun w x cs h=>⟨by rw [h.1]; exact RdC.cons (.int _ _) rfl (RdC.nil _),rfl⟩
theorem rds_str:Rds StrTV cS 1:=fun w x cs h=>⟨by rw [h.1]; exact RdC.cons (.str _ h.2) rfl (RdC.nil _),rfl⟩
def RowTV (k:Nat) (w:World) (row:List D) (cs:List Value):Prop:=RdC (hw w) cs row ∧ row.length = k
theorem rds_row (k:Nat):Rds (RowTV k) cD k:=fun w x cs h=>h
def I64 (n:Int):Prop:=-9223372036854775808 ≤ n ∧ n ≤ 9223372036854775807
def Wl {α:Type} (P:α→Prop) (xs:List α):Prop:=xs.length ≤ 9223372036854775807 ∧ ∀ x ∈ xs,P x
def Ws (s:ByteArray):Prop:=s.size ≤ 9223372036854775807
theorem wf_i64 {n:Int} (h:(Lit.int .i64 n).wf = true):I64 n:=by
 simp [Lit.wf,IntKind.min,IntKind.max,IntKind.signed,IntKind.bits] at h
 exact ⟨by omega,by omega⟩
theorem ws_of {s:ByteArray} (h:s.size ≤ maxLen):Ws s:=by unfold Ws; unfold maxLen at h; omega
theorem Sq.wl {α:Type} {w:World} {TV:World→α→List Value→Prop} {k:Nat} {v:Value} {xs:List α} {P:α→Prop} (hP:∀ (w:World) (x:α) (cs:List Value),TV w x cs→P x) (q:Sq w TV k v xs):Wl P xs:=by
 rcases q with ⟨a,cp,rfl,h0,rfl⟩ | ⟨b,off,cp,rfl,h1,h2,h3⟩
 ·exact ⟨by simp,fun x hx=>by simp at hx⟩
 ·refine ⟨by have:=h2; unfold maxLen at this; omega,fun x hx=>?_⟩
  obtain ⟨i,hi,rfl⟩:=List.mem_iff_getElem.1 hx
  obtain ⟨cs,g1,_⟩:=h3 i xs[i] (by simp)
  exact hP w _ cs g1
section
variable {H:Type} {enc:TypeId × Value→H} {P:Program} {w:World} {sp:Nat→Bool} {held:Bool}
def Opens {α:Type} (P:Program) (t:TypeId) (TV:World→α→List Value→Prop):Prop :=
 ∀ (H:Type) (enc:TypeId × Value→H) (w:World) (base:Nat) (sp:Nat→Bool) (held:Bool) (fuel:Nat) (cs:List Value) (x:DataW H × List MemPlace),DataW.trod enc P w base sp held fuel t cs = some x→∃ d,TV w d cs
theorem opens_int {t:TypeId} (ht:P.underlying t = some (.int .i64)):Opens P t IntTV:=fun _ _ _ _ _ _ _ _ _ h=>by
 obtain ⟨n,rfl,_,hw⟩:=DataW.trod_int ht h
 exact ⟨n,rfl,hw⟩
theorem addr_plus (b off n:Nat):(⟨b,off,none⟩ : Addr).add n = ⟨b,off + n,none⟩:=by
 unfold Addr.add
 by_cases h:n = 0
 ·simp [h]
 ·simp [h]
theorem choose_list {α:Type} (p:Nat→α→Prop):∀ n:Nat,(∀ i,i < n→∃ x,p i x)→∃ xs:List α,xs.length = n ∧ ∀ i x,xs[i]? = some x→p i x
 | 0,_=>⟨[],rfl,fun i x h=>by simp at h⟩
 | n + 1,h=>by
  obtain ⟨xs,hl,hx⟩:=choose_list p n (fun i hi=>h i (by omega))
  obtain ⟨y,hy⟩:=h n (by omega)
  refine ⟨xs ++ [y],by simp [hl],fun i x hi=>?_⟩
  rcases (by omega:i < n ∨ n ≤ i) with h1 | h1
  ·rw [List.getElem?_append_left (by omega)] at hi; exact hx i x hi
  ·rw [List.getElem?_append_right (by omega)] at hi
   obtain rfl:i = n:=by
    apply Classical.byContradiction; intro hne
    rw [List.getElem?_eq_none (by simp; omega)] at hi; simp at hi
   simp [hl] at hi; subst hi; exact hy
theorem opens_slice {α:Type} {t e k:Nat} {TV:World→α→List Value→Prop} (ht:P.underlying t = some (.slice e)) (hk:P.cellsOf e = k) (hk0:0 < k) (he:Opens P e TV) :
  Opens P t (SqTV TV k):=fun H enc w base sp held fuel cs x h=>by
 rcases open_slice ht h with ⟨rfl,_⟩ | ⟨a,len,cap,m,n,D,Pl,rfl,_,hl,hm,hmm,_,hi⟩
 ·exact ⟨[],_,rfl,.inl ⟨none,0,rfl,fun _=>rfl,rfl⟩⟩
 ·have hlm:len ≤ m:=by rw [hmm]; split <;> omega
  by_cases h0:len = 0
  ·subst h0; exact ⟨[],_,rfl,.inl ⟨_,_,rfl,fun h=>by simp at h,rfl⟩⟩
  ·obtain ⟨xs,hxl,hx⟩:=choose_list (fun i x=>∃ cs',w.cells? base (a.add (i * P.cellsOf e)) (P.cellsOf e) = some cs' ∧ TV w x cs') len (fun i hi'=>by
    obtain ⟨cs',h1,h2⟩:=hi i (by omega)
    obtain ⟨d,hd⟩:=he H enc w base sp held n cs' _ h2
    exact ⟨d,cs',h1,hd⟩)
   have hspot:a.spot = none:=by
    obtain ⟨cs',h1,_⟩:=hi 0 (by omega)
    obtain ⟨_,hcl,hat⟩:=World.cells?_some h1
    have:=hat 0 (by omega)
    have hc:=this.trans (List.getElem?_eq_getElem (show 0 < cs'.length by omega))
    simpa [Addr.add] using World.cell?_spot hc
   obtain ⟨b,off,spot⟩:=a
   simp only at hspot
   subst hspot
   refine ⟨xs,_,rfl,.inr ⟨b,off,cap,by rw [hxl],by rw [hxl]; exact hl,hm,fun i y hy=>?_⟩⟩
   obtain ⟨cs',h1,h2⟩:=hx i y hy
   obtain ⟨_,hcl,hat⟩:=World.cells?_some h1
   refine ⟨cs',h2,by rw [hcl,hk],fun j hj=>?_⟩
   have:=hat j (by omega)
   rw [hk,addr_plus,addr_plus] at this
   exact this
end
theorem calls_true {P:Program} {f:Nat} {ds:List D} (hS:Sound P f ds (.bool true)) (w:World) (vs:Array Value) (hl:vs.size = ds.length) (hr:∀ (i:Nat) (d:D),ds[i]? = some d→Reads (hw w) (vs.getD i undef) d) :
  Calls P f vs w fun e w'=>e = .returned (.bool true) ∧ Below w.heap.size w w':=by
 refine (hS.2 w (hw w) vs (Hp.le.refl _) hl hr).mono ?_
 rintro e w' ⟨v,h',rfl,g1,g2,g3,g4,g5⟩
 cases g1
 exact ⟨rfl,g5⟩
def AllL {α:Type} (Q:Nat→α→Prop):List (Nat × Option α)→Prop
 | []=>True
 | (i,some x) :: l=>Q i x ∧ AllL Q l
 | (i,none) :: l=>AllL Q l
theorem AllL.lk {α:Type} {Q:Nat→α→Prop}:∀ {l:List (Nat × Option α)},AllL Q l→∀ {f:Nat} {x:α},Vm.lk l none f = some x→Q f x
 | [],_,f,x,e=>by simp [Vm.lk] at e
 | (i,o) :: l,h,f,x,e=>by
  simp only [Vm.lk] at e
  split at e
  ·rename_i hf
   subst hf
   subst e
   exact h.1
  ·cases o with
   | none=>exact AllL.lk (l:=l) h e
   | some y=>exact AllL.lk (l:=l) h.2 e
def OkDef (P:Program) (f:Nat) (d:Def):Prop:=(∀ sf,d = .code sf→∃ fn,P.funcs[f]? = some fn ∧ Lows P fn sf) ∧ ∀ o,d = .told o→∀ ds x,o ds = some x→Sound P f ds x
theorem okCode {P:Program} {f:Nat} {fn:Func} {sf:SFunc} (h:P.funcs[f]? = some fn) (l:Lows P fn sf):OkDef P f (.code sf) :=
 ⟨fun sf' e=>by cases e; exact ⟨fn,h,l⟩,fun o e=>by cases e⟩
theorem okTold {P:Program} {f:Nat} {o:List D→Option D} (h:∀ ds x,o ds = some x→Sound P f ds x):OkDef P f (.told o) :=
 ⟨fun sf' e=>(by cases e),fun o' e=>by cases e; exact h⟩
def RdL (h:Hp):List Value→List D→Prop
 | [],[]=>True
 | v :: vs,d :: ds=>Reads h v d ∧ RdL h vs ds
 | _,_=>False
theorem RdL.at {h:Hp}:∀ {vs:List Value} {ds:List D},RdL h vs ds→vs.length = ds.length ∧ ∀ (i:Nat) (d:D),ds[i]? = some d→∃ v,vs[i]? = some v ∧ Reads h v d
 | [],[],_=>⟨rfl,fun i d e=>by simp at e⟩
 | v :: vs,d :: ds,q=>by
  obtain ⟨q1,q2⟩:=RdL.at q.2
  refine ⟨by simp [q1],fun i x e=>?_⟩
  cases i with
  | zero=>simp at e; subst e; exact ⟨v,rfl,q.1⟩
  | succ i=>simpa using q2 i x (by simpa using e)
 | [],d :: ds,q=>q.elim
 | v :: vs,[],q=>q.elim
theorem law_walk {P:Program} {f:Nat} {ds:List D} (hS:Sound P f ds (.bool true)) (w:World) (vs:List Value) (hr:RdL (hw w) vs ds) :
  Calls P f vs.toArray w fun e w'=>e = .returned (.bool true) ∧ Below w.heap.size w w' :=
 calls_true hS w vs.toArray (by simpa using hr.at.1) fun i d e=>by
  obtain ⟨v,h1,h2⟩:=hr.at.2 i d e
  have:vs.toArray.getD i undef = v:=by simp [Array.getD_eq_getD_getElem?,h1]
  rw [this]; exact h2
end Go.Proofs.Ytfhebiceipgdmaa
set_option linter.unusedVariables false
namespace Go.Proofs.Ytfhebiceipgdmaa
open Go.RowKit Vm
theorem wrap_id {n:Int} (h1:-9223372036854775808 ≤ n) (h2:n ≤ 9223372036854775807):IntKind.wrap .i64 n = n:=IntWalk.i64_in n ⟨h1,h2⟩
theorem wrap_succ {n:Nat} (h:n < 9223372036854775807):IntKind.wrap .i64 ((n:Int) + 1) = ((n + 1:Nat):Int):=by
 rw [wrap_id (by omega) (by omega)]; omega
theorem at?_nat {α:Type} (xs:List α) (i:Nat):at? xs (i:Int) = xs[i]?:=by
 unfold at?
 rw [if_pos (by omega)]
 simp
theorem at?_lt {α:Type} (xs:List α) (i:Nat) (h:i < xs.length):at? xs (i:Int) = some xs[i]:=by
 rw [at?_nat,List.getElem?_eq_getElem h]
theorem iter_some {S X:Type} {step:S→Option (S ⊕ X)} {s s' : S} (h:step s = some (.inl s')):Iter step s = Iter step s':=by
 rw [iter_eq,h]
theorem iter_end {S X:Type} {step:S→Option (S ⊕ X)} {s:S} {x:X} (h:step s = some (.inr x)):Iter step s = some x:=by
 rw [iter_eq,h]
theorem iter_all {S X:Type} {step:S→Option (S ⊕ X)} (st:Nat→S) (n:Nat) (fin:X)
  (h:∀ i,i < n→step (st i) = some (.inl (st (i + 1)))) (he:step (st n) = some (.inr fin)):Iter step (st 0) = some fin:=by
 have key:∀ (m k:Nat),k + m = n→Iter step (st k) = some fin:=by
  intro m
  induction m with
  | zero=>intro k hk; obtain rfl:k = n:=(by omega); exact iter_end he
  | succ m ih=>intro k hk; exact (iter_some (h k (by omega))).trans (ih (k + 1) (by omega))
 exact key n 0 (by omega)
def el {α:Type} [Inhabited α] (l:List α) (i:Nat):α:=l.getD i default
theorem el_lt {α:Type} [Inhabited α] (l:List α) (i:Nat) (h:i < l.length):el l i = l[i]:=by simp [el,h]
theorem at_el {α:Type} [Inhabited α] (l:List α) (i:Nat) (h:i < l.length):at? l (i:Int) = some (el l i):=by rw [at?_lt l i h,el_lt l i h]
theorem lt_t {i n:Nat} (h:i < n):(decide ((i:Int) < (n:Int)) = true) = True:=by simp; omega
theorem lt_f (n:Nat):(decide ((n:Int) < (n:Int)) = true) = False:=by simp
end Go.Proofs.Ytfhebiceipgdmaa
set_option linter.unusedVariables false
namespace Go.Proofs.Ytfhebiceipgdmaa
open Go.RowKit Vm
end Go.Proofs.Ytfhebiceipgdmaa
