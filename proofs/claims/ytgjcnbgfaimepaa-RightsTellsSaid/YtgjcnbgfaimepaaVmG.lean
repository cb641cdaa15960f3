/- How what a call is handed reads: as data of the small machine; and of which size it is. Loops over plain states: what they answer. More about loops over plain states: first findings, errors, sums of findings. -/
import Derived.Test.YtgjcnbgfaimepaaVmD
import Derived.Test.YtgjcnbgfaimepaaVmE
import Derived.ProofKit
import Derived.OpenShut
import Derived.Deep.Slices
import Derived.ChangeOld
import Derived.Test.YtgjcnbgfaimepaaVmF
import Derived.IntWalk
namespace Go.Proofs.Ytgjcnbgfaimepaa
section
open Go.RowKit Go.ChangeShapes Go.WideShapes Go.Deep Vm
def Sq {α:Type} (w:World) (TV:World->α->List Value->Prop) (k bt:Nat) (v:Value) (xs:List α):Prop :=
 (∃ a c,v = .slice a 0 c ∧ (a = none->c = 0) ∧ xs = []) ∨ ∃ b off c,v = .slice (some ⟨b,off,none⟩) xs.length c ∧ xs.length <= c ∧ (c <= maxLen ∧ xs.length * bt <= reachBytes) ∧
  ∀ (i:Nat) (x:α),xs[i]? = some x->∃ cs,TV w x cs ∧ cs.length = k ∧ ∀ j,j < k->w.cell? ⟨b,off + i * k + j,none⟩ = cs[j]?
def aSd {α:Type} (TV:World->α->List Value->Prop) (k bt:Nat) (w:World) (xs:List α) (cs:List Value):Prop:=∃ v,cs = [v] ∧ Sq w TV k bt v xs
def aGT (_w:World) (n:Int) (cs:List Value):Prop:=cs = [.int .i64 n] ∧ (Lit.int .i64 n).wf = true
def RdC (h:Hp) (cs:List Value) (ds:List D):Prop:=cs.length = ds.length ∧ ∀ (j:Nat) (x:D),ds[j]? = some x->∃ u,cs[j]? = some u ∧ aW h u x ∧ u.oneCell' = true
theorem RdC.nil (h:Hp):RdC h [] []:=⟨rfl,fun j x e=>by simp at e⟩
theorem RdC.cons {h:Hp} {u:Value} {cs:List Value} {x:D} {ds:List D} (r:aW h u x) (hx:x.atom = true) (q:RdC h cs ds):RdC h (u :: cs) (x :: ds):=by
 refine ⟨by simp [q.1],fun j y hy=>?_⟩
 cases j with
 | zero=>simp at hy; subst hy; exact ⟨u,rfl,r,r.one hx⟩
 | succ j=>simpa using q.2 j y (by simpa using hy)
theorem RdC.agg {h:Hp} {arr:Array Value} {ds:List D} (q:RdC h arr.toList ds):aW h (.agg arr) (.agg ds):=by
 have key:∀ (j:Nat) (x:D),ds[j]? = some x->aW h (arr.getD j undef) x ∧ (arr.getD j undef).oneCell' = true:=by
  intro j x hx
  obtain ⟨u,h1,h2,h3⟩:=q.2 j x hx
  have:arr.getD j undef = u:=by
   have h1' : arr[j]? = some u:=by simpa using h1
   simp [h1']
  rw [this]
  exact ⟨h2,h3⟩
 exact .agg arr ds (by simpa using q.1) (fun j x hx=>(key j x hx).1) (fun j x hx=>(key j x hx).2)
def Rds {α:Type} (TV:World->α->List Value->Prop) (c:α->List D) (k:Nat):Prop:=∀ (w:World) (x:α) (cs:List Value),TV w x cs->RdC (hw w) cs (c x) ∧ (c x).length = k
theorem Sq.reads {α:Type} {w:World} {TV:World->α->List Value->Prop} {c:α->List D} {k bt:Nat} {v:Value} {xs:List α} (hR:Rds TV c k) (q:Sq w TV k bt v xs):aW (hw w) v (.sl (cM c xs)):=by
 rcases q with ⟨a,cp,rfl,h0,rfl⟩ | ⟨b,off,cp,rfl,h1,h2,h3⟩
 ·exact .sl0 a cp h0
 ·have key:∀ (i:Nat) (row:List D) (j:Nat) (x:D),(cM c xs)[i]? = some row->row[j]? = some x->∃ u,w.cell? ⟨b,off + i * k + j,none⟩ = some u ∧ aW (hw w) u x ∧ u.oneCell' = true:=by
   intro i row j x hi hj
   simp only [cM,Ç,Â] at hi
   obtain ⟨y,hy,rfl⟩:=hi
   obtain ⟨cs,g1,g2,g3⟩:=h3 i y hy
   obtain ⟨r1,r2⟩:=hR w y cs g1
   obtain ⟨u,s1,s2,s3⟩:=r1.2 j x hj
   have hlt:j < k:=by rw [← r2]; exact (Æ.1 hj).1
   exact ⟨u,(g3 j hlt).trans s1,s2,s3⟩
  refine .sl b off cp k xs.length (cM c xs) (fun i j=>(w.cell? ⟨b,off + i * k + j,none⟩).getD undef) (by simp [cM]) (by simpa [cM] using h1) ?_ ?_ ?_ ?_
  ·intro i row hi
   simp only [cM,Ç,Â] at hi
   obtain ⟨y,hy,rfl⟩:=hi
   obtain ⟨cs,g1,g2,g3⟩:=h3 i y hy
   exact (hR w y cs g1).2
  ·intro i row j x hi hj
   obtain ⟨u,q1,_⟩:=key i row j x hi hj
   rw [← TR,q1]; rfl
  ·intro i row j x hi hj
   obtain ⟨u,q1,q2,_⟩:=key i row j x hi hj
   rw [q1]; exact q2
  ·intro i row j x hi hj
   obtain ⟨u,q1,_,q3⟩:=key i row j x hi hj
   rw [q1]; exact q3
theorem aGi:Rds aGT cI 1:=fun w x cs h=>⟨by rw [h.1]; exact RdC.cons (.int _ _) rfl (RdC.nil _),rfl⟩
def I64 (n:Int):Prop:=-9223372036854775808 <= n ∧ n <= 9223372036854775807
def Wl {α:Type} (P:α->Prop) (xs:List α):Prop:=xs.length <= 9223372036854775807 ∧ ∀ x ∈ xs,P x
theorem FA {n:Int} (h:(Lit.int .i64 n).wf = true):I64 n:=by
 simp [Lit.wf,IntKind.min,IntKind.max,IntKind.signed,IntKind.bits] at h
 exact ⟨by omega,by omega⟩
def Fl {α:Type} (F:α->Prop) (bt:Nat) (xs:List α):Prop:=xs.length * bt <= 140737488351232 ∧ ∀ x ∈ xs,F x
theorem Sq.fl {α:Type} {w:World} {TV:World->α->List Value->Prop} {k bt:Nat} {v:Value} {xs:List α} {F:α->Prop} (hF:∀ (w:World) (x:α) (cs:List Value),TV w x cs->F x) (q:Sq w TV k bt v xs):Fl F bt xs:=by
 rcases q with ⟨a,cp,rfl,h0,rfl⟩ | ⟨b,off,cp,rfl,h1,h2,h3⟩
 ·exact ⟨by simp,fun x hx=>by simp at hx⟩
 ·refine ⟨h2.2,fun x hx=>?_⟩
  obtain ⟨i,hi,rfl⟩:=ē.1 hx
  obtain ⟨cs,g1,_⟩:=h3 i xs[i] (by simp)
  exact hF w _ cs g1
theorem Sq.wl {α:Type} {w:World} {TV:World->α->List Value->Prop} {k bt:Nat} {v:Value} {xs:List α} {P:α->Prop} (hP:∀ (w:World) (x:α) (cs:List Value),TV w x cs->P x) (q:Sq w TV k bt v xs):Wl P xs:=by
 rcases q with ⟨a,cp,rfl,h0,rfl⟩ | ⟨b,off,cp,rfl,h1,h2,h3⟩
 ·exact ⟨by simp,fun x hx=>by simp at hx⟩
 ·refine ⟨by have:=h2.1; unfold maxLen at this; omega,fun x hx=>?_⟩
  obtain ⟨i,hi,rfl⟩:=ē.1 hx
  obtain ⟨cs,g1,_⟩:=h3 i xs[i] (by simp)
  exact hP w _ cs g1
section
variable {H:Type} {enc:TypeId × Value->H} {P:Program} {w:World} {sp:Nat->Bool} {held:Bool}
def Light (P:Program) (t:TypeId) (x:DataW H × List MemPlace):Prop:=∀ n ∈ x.1.weights P t,n <= reachBytes
theorem O6 {e:TypeId} {d:DataW H} {n:Nat} (hn:n ∈ d.weights P e):∀ {l:List (DataW H)},d ∈ l->n ∈ DataW.weightsAll P e l
 | [],h=>by cases h
 | a :: l,h=>by
  unfold DataW.weightsAll
  rcases Ô.1 h with rfl | h
  ·exact ő _ hn
  ·exact List.mem_append_right _ (O6 hn h)
theorem FB {t:TypeId} {d:DataW H} {n:Nat} (hn:n ∈ d.weights P t):∀ {ts:List TypeId} {ds:List (DataW H)} {i:Nat},ts[i]? = some t->ds[i]? = some d->n ∈ DataW.weightsEach P ts ds
 | [],_,_,h,_=>by simp at h
 | _ :: _,[],_,_,h=>by simp at h
 | u :: ts,a :: ds,0,h1,h2=>by
  simp only [Ē,Å] at h1 h2
  subst h1; subst h2
  unfold DataW.weightsEach
  exact ő _ hn
 | u :: ts,a :: ds,i + 1,h1,h2=>by
  unfold DataW.weightsEach
  exact List.mem_append_right _ (FB hn (by simpa using h1) (by simpa using h2))
theorem Light.part {t:TypeId} {fs:Array Field} {xs:List (DataW H × List MemPlace)} {pl:List MemPlace} {i:Nat} {f:Field} {y:DataW H × List MemPlace} (ht:P.underlying t = some (.struct fs)) (hf:fs[i]? = some f) (hy:xs[i]? = some y)
  (h:Light P t (.agg (xs.map (·.1)),pl)):Light P f.type y:=fun n hn=>h n (by
 show n ∈ DataW.weights P t (.agg (xs.map (·.1)))
 unfold DataW.weights
 rw [ht]
 exact FB hn (i:=i) (by simp [hf]) (by simp [hy]))
theorem Light.slice {t e:TypeId} {elems rest:List (DataW H × List MemPlace)} {pl:List MemPlace} (ht:P.underlying t = some (.slice e)) (h:Light P t (.slice (elems.map (·.1)) (rest.map (·.1)),pl)) :
  elems.length * P.bytesOf e <= reachBytes ∧ ∀ y ∈ elems,Light P e y:=by
 have hw:∀ n,n ∈ (elems.length + rest.length) * P.bytesOf e :: (DataW.weightsAll P e (elems.map (·.1)) ++ DataW.weightsAll P e (rest.map (·.1)))->n <= reachBytes:=fun n hn=>h n (by
  show n ∈ DataW.weights P t (.slice (elems.map (·.1)) (rest.map (·.1)))
  unfold DataW.weights
  rw [ht]
  simpa using hn)
 refine ⟨ñ (Ù _ (Nat.le_add_right _ _)) (hw _ (à ..)),fun y hy n hn=>hw n (Õ _ (ő _ (O6 hn (List.mem_map_of_mem hy))))⟩
theorem Light.of {ts:List TypeId} {ds:List (DataW H)} (h:∀ n ∈ DataW.weightsEach P ts ds,n <= reachBytes) {i:Nat} {t:TypeId} {d:DataW H} (h1:ts[i]? = some t) (h2:ds[i]? = some d) (pl:List MemPlace):Light P t (d,pl):=fun n hn=>h n (FB hn h1 h2)
def aCT {α:Type} (P:Program) (t:TypeId) (TV:World->α->List Value->Prop):Prop :=
 ∀ (H:Type) (enc:TypeId × Value->H) (w:World) (base:Nat) (sp:Nat->Bool) (held:Bool) (fuel:Nat) (cs:List Value) (x:DataW H × List MemPlace),DataW.trod enc P w base sp held fuel t cs = some x->Light P t x->∃ d,TV w d cs
theorem xI {t:TypeId} (ht:P.underlying t = some (.int .i64)):aCT P t aGT:=fun _ _ _ _ _ _ _ _ _ h _=>by
 obtain ⟨n,rfl,_,hw⟩:=DataW.trod_int ht h
 exact ⟨n,rfl,hw⟩
theorem aAM (b off n:Nat):(⟨b,off,none⟩ : Addr).add n = ⟨b,off + n,none⟩:=by
 unfold Addr.add
 by_cases h:n = 0
 ·simp [h]
 ·simp [h]
theorem WJ {α:Type} (p:Nat->α->Prop):∀ n:Nat,(∀ i,i < n->∃ x,p i x)->∃ xs:List α,xs.length = n ∧ ∀ i x,xs[i]? = some x->p i x
 | 0,_=>⟨[],rfl,fun i x h=>by simp at h⟩
 | n + 1,h=>by
  obtain ⟨xs,hl,hx⟩:=WJ p n (fun i hi=>h i (by omega))
  obtain ⟨y,hy⟩:=h n (by omega)
  refine ⟨xs ++ [y],by simp [hl],fun i x hi=>?_⟩
  rcases (by omega:i < n ∨ n <= i) with h1 | h1
  ·rw [ë (by omega)] at hi; exact hx i x hi
  ·rw [ó (by omega)] at hi
   obtain rfl:i = n:=by
    apply å; intro hne
    rw [ô (by simp; omega)] at hi; simp at hi
   simp [hl] at hi; subst hi; exact hy
theorem YC {α:Type} {enc:TypeId × Value->H} {w:World} {base:Nat} {sp:Nat->Bool} {held:Bool} {t e k bt fuel:Nat} {TV:World->α->List Value->Prop} (ht:P.underlying t = some (.slice e)) (hk:P.cellsOf e = k) (hb:P.bytesOf e = bt) (hk0:0 < k)
  (he:∀ n,n < fuel->∀ (cs:List Value) (x:DataW H × List MemPlace),DataW.trod enc P w base sp held n e cs = some x->Light P e x->∃ d,TV w d cs) {cs:List Value} {x:DataW H × List MemPlace} (h:DataW.trod enc P w base sp held fuel t cs = some x) (hL:Light P t x):∃ xs,aSd TV k bt w xs cs:=by
 rcases DataW.trod_slice ht h with ⟨rfl,_⟩ | ⟨a,len,cap,elems,rest,n,hn,rfl,rfl,hb',hl,hm,hlen,hel,hsp,hns⟩
 ·exact ⟨[],_,rfl,.inl ⟨none,0,rfl,fun _=>rfl,rfl⟩⟩
 ·obtain ⟨l1,l2⟩:=Light.slice ht hL
  rw [hlen,hb] at l1
  have hi:∀ i,i < len->∃ cs' q,w.cells? base (a.add (i * P.cellsOf e)) (P.cellsOf e) = some cs' ∧ DataW.trod enc P w base sp held n e cs' = some q ∧ Light P e q:=by
   intro i hi
   have:=hel i hi
   rw [é (by omega),ě] at this
   obtain ⟨cs',h1,h2⟩:=this
   exact ⟨cs',_,h1,h2,l2 _ (ú _)⟩
  by_cases h0:len = 0
  ·subst h0; exact ⟨[],_,rfl,.inl ⟨_,_,rfl,fun h=>by simp at h,rfl⟩⟩
  ·obtain ⟨xs,hxl,hx⟩:=WJ (fun i x=>∃ cs',w.cells? base (a.add (i * P.cellsOf e)) (P.cellsOf e) = some cs' ∧ TV w x cs') len (fun i hi'=>by
    obtain ⟨cs',q,h1,h2,h3⟩:=hi i (by omega)
    obtain ⟨d,hd⟩:=he n (by omega) cs' _ h2 h3
    exact ⟨d,cs',h1,hd⟩)
   have hspot:a.spot = none:=by
    obtain ⟨cs',q,h1,_⟩:=hi 0 (by omega)
    obtain ⟨_,hcl,hat⟩:=World.cells?_some h1
    have:=hat 0 (by omega)
    have hc:=this.trans (é (show 0 < cs'.length by omega))
    simpa [Addr.add] using World.cell?_spot hc
   obtain ⟨b,off,spot⟩:=a
   simp only at hspot
   subst hspot
   refine ⟨xs,_,rfl,.inr ⟨b,off,cap,by rw [hxl],by rw [hxl]; exact hl,⟨hm,by rw [hxl]; exact l1⟩,fun i y hy=>?_⟩⟩
   obtain ⟨cs',h1,h2⟩:=hx i y hy
   obtain ⟨_,hcl,hat⟩:=World.cells?_some h1
   refine ⟨cs',h2,by rw [hcl,hk],fun j hj=>?_⟩
   have:=hat j (by omega)
   rw [hk,aAM,aAM] at this
   exact this
theorem HW {α:Type} {t e k bt:Nat} {TV:World->α->List Value->Prop} (ht:P.underlying t = some (.slice e)) (hk:P.cellsOf e = k) (hb:P.bytesOf e = bt) (hk0:0 < k) (he:aCT P e TV) :
  aCT P t (aSd TV k bt):=fun H enc w base sp held fuel cs x h hL=>YC ht hk hb hk0 (fun n _ cs x h hL=>he H enc w base sp held n cs x h hL) h hL
end
theorem aEA {P:Program} {f:Nat} {ds:List D} (hS:HV P f ds (.bool true)) (w:World) (vs:Array Value) (hl:vs.size = ds.length) (hr:∀ (i:Nat) (d:D),ds[i]? = some d->aW (hw w) (vs.getD i undef) d) :
  Calls P f vs w fun e w'=>e = .returned (.bool true) ∧ Below w.heap.size w w':=by
 refine (hS.2 w (hw w) vs (Hp.le.refl _) hl hr).mono ?_
 rintro e w' ⟨v,h',rfl,g1,g2,g3,g4,g5⟩
 cases g1
 exact ⟨rfl,g5⟩
def aBZ {α:Type} (Q:Nat->α->Prop):List (Nat × Option α)->Prop
 | []=>True
 | (i,some x) :: l=>Q i x ∧ aBZ Q l
 | (i,none) :: l=>aBZ Q l
theorem aBZ.lk {α:Type} {Q:Nat->α->Prop}:∀ {l:List (Nat × Option α)},aBZ Q l->∀ {f:Nat} {x:α},Vm.lk l none f = some x->Q f x
 | [],_,f,x,e=>by simp [Vm.lk] at e
 | (i,o) :: l,h,f,x,e=>by
  simp only [Vm.lk] at e
  split at e
  ·rename_i hf
   subst hf
   subst e
   exact h.1
  ·cases o with
   | none=>exact aBZ.lk (l:=l) h e
   | some y=>exact aBZ.lk (l:=l) h.2 e
def aGw (P:Program) (f:Nat) (d:Def):Prop:=(∀ sf,d = .code sf->∃ fn,P.funcs[f]? = some fn ∧ T4 P fn sf) ∧ aFP P f d
theorem bQ {P:Program} {f:Nat} {fn:Func} {sf:b5} (h:P.funcs[f]? = some fn) (l:i8 P fn sf):aGw P f (.code sf) :=
 ⟨fun sf' e=>by cases e; exact ⟨fn,h,l.g⟩,trivial⟩
theorem W9 {P:Program} {f:Nat} {fn:Func} {sf:b5} (h:P.funcs[f]? = some fn) (l:T4 P fn sf):aGw P f (.code sf) :=
 ⟨fun sf' e=>by cases e; exact ⟨fn,h,l⟩,trivial⟩
theorem aMw {P:Program} {f:Nat} {o:List D->Option D} (h:∀ ds x,o ds = some x->HV P f ds x):aGw P f (.told o) :=
 ⟨fun sf' e=>(by cases e),h⟩
def RdL (h:Hp):List Value->List D->Prop
 | [],[]=>True
 | v :: vs,d :: ds=>aW h v d ∧ RdL h vs ds
 | _,_=>False
theorem RdL.at {h:Hp}:∀ {vs:List Value} {ds:List D},RdL h vs ds->vs.length = ds.length ∧ ∀ (i:Nat) (d:D),ds[i]? = some d->∃ v,vs[i]? = some v ∧ aW h v d
 | [],[],_=>⟨rfl,fun i d e=>by simp at e⟩
 | v :: vs,d :: ds,q=>by
  obtain ⟨q1,q2⟩:=RdL.at q.2
  refine ⟨by simp [q1],fun i x e=>?_⟩
  cases i with
  | zero=>simp at e; subst e; exact ⟨v,rfl,q.1⟩
  | succ i=>simpa using q2 i x (by simpa using e)
 | [],d :: ds,q=>q.elim
 | v :: vs,[],q=>q.elim
theorem aME {P:Program} {f:Nat} {ds:List D} (hS:HV P f ds (.bool true)) (w:World) (vs:List Value) (hr:RdL (hw w) vs ds) :
  Calls P f vs.toArray w fun e w'=>e = .returned (.bool true) ∧ Below w.heap.size w w' :=
 aEA hS w vs.toArray (by simpa using hr.at.1) fun i d e=>by
  obtain ⟨v,h1,h2⟩:=hr.at.2 i d e
  have:vs.toArray.getD i undef = v:=by simp [Ì,h1]
  rw [this]; exact h2
end
section
open Go.RowKit Vm
theorem gL {n:Int} (h1:-9223372036854775808 <= n) (h2:n <= 9223372036854775807):IntKind.wrap .i64 n = n:=IntWalk.i64_in n ⟨h1,h2⟩
theorem aO {n:Nat} (h:n < 9223372036854775807):IntKind.wrap .i64 ((n:Int) + 1) = ((n + 1:Nat):Int):=by
 rw [gL (by omega) (by omega)]; omega
theorem at?_nat {α:Type} (xs:List α) (i:Nat):at? xs (i:Int) = xs[i]?:=by
 unfold at?
 rw [Á (by omega)]
 simp
theorem uW {S X:Type} {step:S->Option (S ⊕ X)} {s s' : S} (h:step s = some (.inl s')):bV step s = bV step s':=by
 rw [aGW,h]
theorem pJ {S X:Type} {step:S->Option (S ⊕ X)} {s:S} {x:X} (h:step s = some (.inr x)):bV step s = some x:=by
 rw [aGW,h]
theorem oC {S X:Type} {step:S->Option (S ⊕ X)} (st:Nat->S) (n:Nat) (fin:X)
  (h:∀ i,i < n->step (st i) = some (.inl (st (i + 1)))) (he:step (st n) = some (.inr fin)):bV step (st 0) = some fin:=by
 have key:∀ (m k:Nat),k + m = n->bV step (st k) = some fin:=by
  intro m
  induction m with
  | zero=>intro k hk; obtain rfl:k = n:=(by omega); exact pJ he
  | succ m ih=>intro k hk; exact (uW (h k (by omega))).trans (ih (k + 1) (by omega))
 exact key n 0 (by omega)
theorem aIf {S X:Type} {step:S->Option (S ⊕ X)} (st:Nat->S) (n:Nat) (G:Nat->Prop) (Q:X->Prop)
  (h:∀ i,i < n->(step (st i) = some (.inl (st (i + 1))) ∧ G i) ∨ ∃ x,step (st i) = some (.inr x) ∧ ((∀ j,j < i->G j)->Q x))
  (he:∃ x,step (st n) = some (.inr x) ∧ ((∀ j,j < n->G j)->Q x)):∃ x,bV step (st 0) = some x ∧ Q x:=by
 have key:∀ (m k:Nat),k + m = n->(∀ j,j < k->G j)->∃ x,bV step (st k) = some x ∧ Q x:=by
  intro m
  induction m with
  | zero =>
   intro k hk hG
   obtain rfl:k = n:=(by omega)
   obtain ⟨x,h1,h2⟩:=he
   exact ⟨x,pJ h1,h2 hG⟩
  | succ m ih =>
   intro k hk hG
   rcases h k (by omega) with ⟨h1,h2⟩ | ⟨x,h1,h2⟩
   ·rw [uW h1]
    exact ih (k + 1) (by omega) fun j hj=>by
     by_cases e:j = k
     ·rw [e]; exact h2
     ·exact hG j (by omega)
   ·exact ⟨x,pJ h1,h2 hG⟩
 exact key n 0 (by omega) fun j hj=>by omega
def el {α:Type} [Inhabited α] (l:List α) (i:Nat):α:=l.getD i default
theorem kJ {α:Type} [Inhabited α] (l:List α) (i:Nat) (h:i < l.length):el l i = l[i]:=by simp [el,h]
theorem kS {α:Type} [Inhabited α] (l:List α) (i:Nat) (h:i < l.length):el l i ∈ l:=by rw [kJ l i h]; exact ú h
theorem E9 {α:Type} [Inhabited α] {l:List α} {x:α} (h:x ∈ l):∃ i,i < l.length ∧ el l i = x:=by
 obtain ⟨i,hi,rfl⟩:=ē.1 h
 exact ⟨i,hi,kJ l i hi⟩
end
section
open Go.RowKit Vm
def xJ {X:Type} (g:Nat->Option X):Nat->Nat->Option X
 | _,0=>none
 | k,m + 1=>match g k with
  | some x=>some x
  | none=>xJ g (k + 1) m
def toS {A X:Type} (a:A):Option X->A ⊕ X
 | none=>.inl a
 | some x=>.inr x
theorem ER {X:Type} {g:Nat->Option X}:∀ (m k:Nat),xJ g k m = none ↔ ∀ i,k <= i->i < k + m->g i = none
 | 0,k=>⟨fun _ i h1 h2=>by omega,fun _=>rfl⟩
 | m + 1,k=>by
  simp only [xJ]
  cases h:g k with
  | some x=>exact ⟨(fun e=>nomatch e),fun q=>by have:=q k (É _) (by omega); rw [h] at this; cases this⟩
  | none =>
   rw [ER m (k + 1)]
   exact ⟨fun q i h1 h2=>by
    by_cases e:i = k
    ·rw [e]; exact h
    ·exact q i (by omega) (by omega),fun q i h1 h2=>q i (by omega) (by omega)⟩
theorem OT {X:Type} {g:Nat->Option X} {x:X}:∀ (m k:Nat),xJ g k m = some x->∃ i,k <= i ∧ i < k + m ∧ g i = some x ∧ ∀ j,k <= j->j < i->g j = none
 | 0,k=>fun e=>nomatch e
 | m + 1,k=>by
  simp only [xJ]
  cases h:g k with
  | some y=>exact fun e=>⟨k,É _,by omega,by rw [h]; exact e,fun j h1 h2=>by omega⟩
  | none =>
   intro e
   obtain ⟨i,h1,h2,h3,h4⟩:=OT m (k + 1) e
   exact ⟨i,by omega,by omega,h3,fun j q1 q2=>by
    by_cases e:j = k
    ·rw [e]; exact h
    ·exact h4 j (by omega) q2⟩
theorem D6 {S A X:Type} {step:S->Option (S ⊕ (A ⊕ X))} (st:Nat->S) (n:Nat) (g:Nat->Option X) (fin:A)
  (h:∀ i,i < n->step (st i) = some (match g i with | none=>.inl (st (i + 1)) | some x=>.inr (.inr x))) (he:step (st n) = some (.inr (.inl fin))):bV step (st 0) = some (toS fin (xJ g 0 n)):=by
 have key:∀ (m k:Nat),k + m = n->bV step (st k) = some (toS fin (xJ g k m)):=by
  intro m
  induction m with
  | zero=>intro k hk; obtain rfl:k = n:=(by omega); exact pJ he
  | succ m ih =>
   intro k hk
   have h1:=h k (by omega)
   simp only [xJ]
   cases hg:g k with
   | some x=>rw [hg] at h1; exact pJ h1
   | none=>rw [hg] at h1; exact (uW h1).trans (ih (k + 1) (by omega))
 exact key n 0 (by omega)
def wR (p:Nat->Bool):Nat->Bool
 | 0=>true
 | n + 1=>wR p n && p n
theorem iT {p:Nat->Bool}:∀ {n:Nat},wR p n = true ↔ ∀ i,i < n->p i = true
 | 0=>⟨fun _ i h=>by omega,fun _=>rfl⟩
 | n + 1=>by
  simp only [wR,Ø,iT (n:=n)]
  exact ⟨fun h i hi=>by
   by_cases e:i = n
   ·rw [e]; exact h.2
   ·exact h.1 i (by omega),fun h=>⟨fun i hi=>h i (by omega),h n (by omega)⟩⟩
theorem aC2 (p:Nat->Bool):∀ (n:Nat),xJ (fun i=>if p i = true then none else some ()) 0 n = if wR p n = true then none else some ():=by
 intro n
 by_cases h:wR p n = true
 ·rw [Á h,(ER n 0).2]
  intro i _ hi
  rw [Á (iT.1 h i (by omega))]
 ·rw [Ã h]
  cases e:xJ (fun i=>if p i = true then none else some ()) 0 n with
  | some x=>rfl
  | none =>
   exfalso; apply h
   rw [iT]
   intro i hi
   have:=(ER n 0).1 e i (Ė _) (by omega)
   split at this
   ·assumption
   ·cases this
theorem oC? {S A:Type} {step:S->Option (S ⊕ (A ⊕ Unit))} (st:Nat->S) (n:Nat) (p:Nat->Bool) (fin:A)
  (h:∀ i,i < n->step (st i) = some (if p i = true then .inl (st (i + 1)) else .inr (.inr ()))) (he:step (st n) = some (.inr (.inl fin))):bV step (st 0) = some (if wR p n = true then .inl fin else .inr ()):=by
 rw [D6 st n (fun i=>if p i = true then none else some ()) fin (fun i hi=>by rw [h i hi]; cases p i <;> rfl) he,aC2]
 cases wR p n <;> rfl
end
end Go.Proofs.Ytgjcnbgfaimepaa
