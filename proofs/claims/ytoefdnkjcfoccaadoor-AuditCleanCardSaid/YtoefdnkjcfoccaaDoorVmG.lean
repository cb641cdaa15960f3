/- The small machine. -/
import Derived.Test.YtoefdnkjcfoccaaDoorVmD
import Derived.Test.YtoefdnkjcfoccaaDoorVmE
import Derived.ProofKit
import Derived.OpenShut
import Derived.Deep.Slices
import Derived.ChangeOld
import Derived.Test.YtoefdnkjcfoccaaDoorVmF
import Derived.IntWalk
namespace Go.Proofs.YtoefdnkjcfoccaaDoor
section
open Go.RowKit Go.ChangeShapes Go.WideShapes Go.Deep Vm
def Sq {α:Type} (w:World) (TV:World->α->List Value->Prop) (k bt:Nat) (v:Value) (xs:List α):Prop :=
 (∃ a c,v = .slice a 0 c ∧ (a = none->c = 0) ∧ xs = []) ∨ ∃ b off c,v = .slice (some ⟨b,off,none⟩) xs.length c ∧ xs.length <= c ∧ (c <= maxLen ∧ xs.length * bt <= reachBytes) ∧
  ∀ (i:Nat) (x:α),xs[i]? = some x->∃ cs,TV w x cs ∧ cs.length = k ∧ ∀ j,j < k->w.cell? ⟨b,off + i * k + j,none⟩ = cs[j]?
def aUJ {α:Type} (TV:World->α->List Value->Prop) (k bt:Nat) (w:World) (xs:List α) (cs:List Value):Prop:=∃ v,cs = [v] ∧ Sq w TV k bt v xs
def WS (_w:World) (n:Int) (cs:List Value):Prop:=cs = [.int .i64 n] ∧ (Lit.int .i64 n).wf = true
def aRT (_w:World) (b:Bool) (cs:List Value):Prop:=cs = [.bool b]
def aLb (_w:World) (s:ByteArray) (cs:List Value):Prop:=cs = [.string s] ∧ s.size <= maxLen
def uT (h:Hp) (cs:List Value) (ds:List D):Prop:=cs.length = ds.length ∧ ∀ (j:Nat) (x:D),ds[j]? = some x->∃ u,cs[j]? = some u ∧ a6 h u x ∧ u.oneCell' = true
theorem uT.nil (h:Hp):uT h [] []:=⟨rfl,fun j x e=>by simp at e⟩
theorem uT.cons {h:Hp} {u:Value} {cs:List Value} {x:D} {ds:List D} (r:a6 h u x) (hx:x.atom = true) (q:uT h cs ds):uT h (u :: cs) (x :: ds):=by
 refine ⟨by simp [q.1],fun j y hy=>?_⟩
 cases j with
 | zero=>simp at hy; subst hy; exact ⟨u,rfl,r,r.one hx⟩
 | succ j=>simpa using q.2 j y (by simpa using hy)
theorem uT.agg {h:Hp} {arr:Array Value} {ds:List D} (q:uT h arr.toList ds):a6 h (.agg arr) (.agg ds):=by
 have key:∀ (j:Nat) (x:D),ds[j]? = some x->a6 h (arr.getD j undef) x ∧ (arr.getD j undef).oneCell' = true:=by
  intro j x hx
  obtain ⟨u,h1,h2,h3⟩:=q.2 j x hx
  have:arr.getD j undef = u:=by
   have h1' : arr[j]? = some u:=by simpa using h1
   simp [h1']
  rw [this]
  exact ⟨h2,h3⟩
 exact .agg arr ds (by simpa using q.1) (fun j x hx=>(key j x hx).1) (fun j x hx=>(key j x hx).2)
def Rds {α:Type} (TV:World->α->List Value->Prop) (c:α->List D) (k:Nat):Prop:=∀ (w:World) (x:α) (cs:List Value),TV w x cs->uT (hw w) cs (c x) ∧ (c x).length = k
theorem Sq.reads {α:Type} {w:World} {TV:World->α->List Value->Prop} {c:α->List D} {k bt:Nat} {v:Value} {xs:List α} (hR:Rds TV c k) (q:Sq w TV k bt v xs):a6 (hw w) v (.sl (cM c xs)):=by
 rcases q with ⟨a,cp,rfl,h0,rfl⟩ | ⟨b,off,cp,rfl,h1,h2,h3⟩
 ·exact .sl0 a cp h0
 ·have key:∀ (i:Nat) (row:List D) (j:Nat) (x:D),(cM c xs)[i]? = some row->row[j]? = some x->∃ u,w.cell? ⟨b,off + i * k + j,none⟩ = some u ∧ a6 (hw w) u x ∧ u.oneCell' = true:=by
   intro i row j x hi hj
   simp only [cM,Ç,Á] at hi
   obtain ⟨y,hy,rfl⟩:=hi
   obtain ⟨cs,g1,g2,g3⟩:=h3 i y hy
   obtain ⟨r1,r2⟩:=hR w y cs g1
   obtain ⟨u,s1,s2,s3⟩:=r1.2 j x hj
   have hlt:j < k:=by rw [← r2]; exact (Å.1 hj).1
   exact ⟨u,(g3 j hlt).trans s1,s2,s3⟩
  refine .sl b off cp k xs.length (cM c xs) (fun i j=>(w.cell? ⟨b,off + i * k + j,none⟩).getD undef) (by simp [cM]) (by simpa [cM] using h1) ?_ ?_ ?_ ?_
  ·intro i row hi
   simp only [cM,Ç,Á] at hi
   obtain ⟨y,hy,rfl⟩:=hi
   obtain ⟨cs,g1,g2,g3⟩:=h3 i y hy
   exact (hR w y cs g1).2
  ·intro i row j x hi hj
   obtain ⟨u,q1,_⟩:=key i row j x hi hj
   rw [← GU,q1]; rfl
  ·intro i row j x hi hj
   obtain ⟨u,q1,q2,_⟩:=key i row j x hi hj
   rw [q1]; exact q2
  ·intro i row j x hi hj
   obtain ⟨u,q1,_,q3⟩:=key i row j x hi hj
   rw [q1]; exact q3
theorem SC:Rds WS cI 1:=fun w x cs h=>⟨by rw [h.1]; exact uT.cons (.int _ _) rfl (uT.nil _),rfl⟩
theorem aOa:Rds aLb cS 1:=fun w x cs h=>⟨by rw [h.1]; exact uT.cons (.str _ h.2) rfl (uT.nil _),rfl⟩
theorem Sq.mono {α:Type} {w:World} {TV TV' : World->α->List Value->Prop} {k bt:Nat} {v:Value} {xs:List α} (h:∀ y cs,TV w y cs->TV' w y cs) (q:Sq w TV k bt v xs):Sq w TV' k bt v xs:=by
 rcases q with q | ⟨b,off,cp,rfl,h1,h2,h3⟩
 ·exact .inl q
 ·refine .inr ⟨b,off,cp,rfl,h1,h2,fun i x hx=>?_⟩
  obtain ⟨cs,g1,g2⟩:=h3 i x hx
  exact ⟨cs,h _ _ g1,g2⟩
def PA (n:Int):Prop:=-9223372036854775808 <= n ∧ n <= 9223372036854775807
def Wl {α:Type} (P:α->Prop) (xs:List α):Prop:=xs.length <= 9223372036854775807 ∧ ∀ x ∈ xs,P x
def Ws (s:ByteArray):Prop:=s.size <= 9223372036854775807
theorem jU {n:Int} (h:(Lit.int .i64 n).wf = true):PA n:=by
 simp [Lit.wf,IntKind.min,IntKind.max,IntKind.signed,IntKind.bits] at h
 exact ⟨by omega,by omega⟩
theorem aFg {s:ByteArray} (h:s.size <= maxLen):Ws s:=by unfold Ws; unfold maxLen at h; omega
theorem Sq.wl {α:Type} {w:World} {TV:World->α->List Value->Prop} {k bt:Nat} {v:Value} {xs:List α} {P:α->Prop} (hP:∀ (w:World) (x:α) (cs:List Value),TV w x cs->P x) (q:Sq w TV k bt v xs):Wl P xs:=by
 rcases q with ⟨a,cp,rfl,h0,rfl⟩ | ⟨b,off,cp,rfl,h1,h2,h3⟩
 ·exact ⟨by simp,fun x hx=>by simp at hx⟩
 ·refine ⟨by have:=h2.1; unfold maxLen at this; omega,fun x hx=>?_⟩
  obtain ⟨i,hi,rfl⟩:=ě.1 hx
  obtain ⟨cs,g1,_⟩:=h3 i xs[i] (by simp)
  exact hP w _ cs g1
section
variable {H:Type} {enc:TypeId × Value->H} {P:Program} {w:World} {sp:Nat->Bool} {held:Bool}
def Light (P:Program) (t:TypeId) (x:DataW H × List MemPlace):Prop:=∀ n ∈ x.1.weights P t,n <= reachBytes
theorem I4 {e:TypeId} {d:DataW H} {n:Nat} (hn:n ∈ d.weights P e):∀ {l:List (DataW H)},d ∈ l->n ∈ DataW.weightsAll P e l
 | [],h=>by cases h
 | a :: l,h=>by
  unfold DataW.weightsAll
  rcases Û.1 h with rfl | h
  ·exact ĩ _ hn
  ·exact List.mem_append_right _ (I4 hn h)
theorem BZ {t:TypeId} {d:DataW H} {n:Nat} (hn:n ∈ d.weights P t):∀ {ts:List TypeId} {ds:List (DataW H)} {i:Nat},ts[i]? = some t->ds[i]? = some d->n ∈ DataW.weightsEach P ts ds
 | [],_,_,h,_=>by simp at h
 | _ :: _,[],_,_,h=>by simp at h
 | u :: ts,a :: ds,0,h1,h2=>by
  simp only [ï,Ä] at h1 h2
  subst h1; subst h2
  unfold DataW.weightsEach
  exact ĩ _ hn
 | u :: ts,a :: ds,i + 1,h1,h2=>by
  unfold DataW.weightsEach
  exact List.mem_append_right _ (BZ hn (by simpa using h1) (by simpa using h2))
theorem Light.part {t:TypeId} {fs:Array Field} {xs:List (DataW H × List MemPlace)} {pl:List MemPlace} {i:Nat} {f:Field} {y:DataW H × List MemPlace} (ht:P.underlying t = some (.struct fs)) (hf:fs[i]? = some f) (hy:xs[i]? = some y)
  (h:Light P t (.agg (xs.map (·.1)),pl)):Light P f.type y:=fun n hn=>h n (by
 show n ∈ DataW.weights P t (.agg (xs.map (·.1)))
 unfold DataW.weights
 rw [ht]
 exact BZ hn (i:=i) (by simp [hf]) (by simp [hy]))
theorem Light.slice {t e:TypeId} {elems rest:List (DataW H × List MemPlace)} {pl:List MemPlace} (ht:P.underlying t = some (.slice e)) (h:Light P t (.slice (elems.map (·.1)) (rest.map (·.1)),pl)) :
  elems.length * P.bytesOf e <= reachBytes ∧ ∀ y ∈ elems,Light P e y:=by
 have hw:∀ n,n ∈ (elems.length + rest.length) * P.bytesOf e :: (DataW.weightsAll P e (elems.map (·.1)) ++ DataW.weightsAll P e (rest.map (·.1)))->n <= reachBytes:=fun n hn=>h n (by
  show n ∈ DataW.weights P t (.slice (elems.map (·.1)) (rest.map (·.1)))
  unfold DataW.weights
  rw [ht]
  simpa using hn)
 refine ⟨ó (Ð _ (Nat.le_add_right _ _)) (hw _ (ò ..)),fun y hy n hn=>hw n (Ý _ (ĩ _ (I4 hn (List.mem_map_of_mem hy))))⟩
theorem Light.of {ts:List TypeId} {ds:List (DataW H)} (h:∀ n ∈ DataW.weightsEach P ts ds,n <= reachBytes) {i:Nat} {t:TypeId} {d:DataW H} (h1:ts[i]? = some t) (h2:ds[i]? = some d) (pl:List MemPlace):Light P t (d,pl):=fun n hn=>h n (BZ hn h1 h2)
def CI {α:Type} (P:Program) (t:TypeId) (TV:World->α->List Value->Prop):Prop :=
 ∀ (H:Type) (enc:TypeId × Value->H) (w:World) (base:Nat) (sp:Nat->Bool) (held:Bool) (fuel:Nat) (cs:List Value) (x:DataW H × List MemPlace),DataW.trod enc P w base sp held fuel t cs = some x->Light P t x->∃ d,TV w d cs
theorem dM {t:TypeId} (ht:P.underlying t = some (.int .i64)):CI P t WS:=fun _ _ _ _ _ _ _ _ _ h _=>by
 obtain ⟨n,rfl,_,hw⟩:=DataW.trod_int ht h
 exact ⟨n,rfl,hw⟩
theorem UO {t:TypeId} (ht:P.underlying t = some .bool):CI P t aRT:=fun _ _ _ _ _ _ _ _ _ h _=>by
 obtain ⟨n,rfl,_⟩:=DataW.trod_bool ht h
 exact ⟨n,rfl⟩
theorem JL {t:TypeId} (ht:P.underlying t = some .string):CI P t aLb:=fun _ _ _ _ _ _ _ _ _ h _=>by
 obtain ⟨n,rfl,_,hw⟩:=DataW.trod_string ht h
 exact ⟨n,rfl,hw⟩
theorem WD (b off n:Nat):(⟨b,off,none⟩ : Addr).add n = ⟨b,off + n,none⟩:=by
 unfold Addr.add
 by_cases h:n = 0
 ·simp [h]
 ·simp [h]
theorem RE {α:Type} (p:Nat->α->Prop):∀ n:Nat,(∀ i,i < n->∃ x,p i x)->∃ xs:List α,xs.length = n ∧ ∀ i x,xs[i]? = some x->p i x
 | 0,_=>⟨[],rfl,fun i x h=>by simp at h⟩
 | n + 1,h=>by
  obtain ⟨xs,hl,hx⟩:=RE p n (fun i hi=>h i (by omega))
  obtain ⟨y,hy⟩:=h n (by omega)
  refine ⟨xs ++ [y],by simp [hl],fun i x hi=>?_⟩
  rcases (by omega:i < n ∨ n <= i) with h1 | h1
  ·rw [à (by omega)] at hi; exact hx i x hi
  ·rw [å (by omega)] at hi
   obtain rfl:i = n:=by
    apply Classical.byContradiction; intro hne
    rw [Ď (by simp; omega)] at hi; simp at hi
   simp [hl] at hi; subst hi; exact hy
theorem I1 {α:Type} {enc:TypeId × Value->H} {w:World} {base:Nat} {sp:Nat->Bool} {held:Bool} {t e k bt fuel:Nat} {TV:World->α->List Value->Prop} (ht:P.underlying t = some (.slice e)) (hk:P.cellsOf e = k) (hb:P.bytesOf e = bt) (hk0:0 < k)
  (he:∀ n,n < fuel->∀ (cs:List Value) (x:DataW H × List MemPlace),DataW.trod enc P w base sp held n e cs = some x->Light P e x->∃ d,TV w d cs) {cs:List Value} {x:DataW H × List MemPlace} (h:DataW.trod enc P w base sp held fuel t cs = some x) (hL:Light P t x):∃ xs,aUJ TV k bt w xs cs:=by
 rcases DataW.trod_slice ht h with ⟨rfl,_⟩ | ⟨a,len,cap,elems,rest,n,hn,rfl,rfl,hb',hl,hm,hlen,hel,hsp,hns⟩
 ·exact ⟨[],_,rfl,.inl ⟨none,0,rfl,fun _=>rfl,rfl⟩⟩
 ·obtain ⟨l1,l2⟩:=Light.slice ht hL
  rw [hlen,hb] at l1
  have hi:∀ i,i < len->∃ cs' q,w.cells? base (a.add (i * P.cellsOf e)) (P.cellsOf e) = some cs' ∧ DataW.trod enc P w base sp held n e cs' = some q ∧ Light P e q:=by
   intro i hi
   have:=hel i hi
   rw [Ü (by omega),ô] at this
   obtain ⟨cs',h1,h2⟩:=this
   exact ⟨cs',_,h1,h2,l2 _ (Ħ _)⟩
  by_cases h0:len = 0
  ·subst h0; exact ⟨[],_,rfl,.inl ⟨_,_,rfl,fun h=>by simp at h,rfl⟩⟩
  ·obtain ⟨xs,hxl,hx⟩:=RE (fun i x=>∃ cs',w.cells? base (a.add (i * P.cellsOf e)) (P.cellsOf e) = some cs' ∧ TV w x cs') len (fun i hi'=>by
    obtain ⟨cs',q,h1,h2,h3⟩:=hi i (by omega)
    obtain ⟨d,hd⟩:=he n (by omega) cs' _ h2 h3
    exact ⟨d,cs',h1,hd⟩)
   have hspot:a.spot = none:=by
    obtain ⟨cs',q,h1,_⟩:=hi 0 (by omega)
    obtain ⟨_,hcl,hat⟩:=World.cells?_some h1
    have:=hat 0 (by omega)
    have hc:=this.trans (Ü (show 0 < cs'.length by omega))
    simpa [Addr.add] using World.cell?_spot hc
   obtain ⟨b,off,spot⟩:=a
   simp only at hspot
   subst hspot
   refine ⟨xs,_,rfl,.inr ⟨b,off,cap,by rw [hxl],by rw [hxl]; exact hl,⟨hm,by rw [hxl]; exact l1⟩,fun i y hy=>?_⟩⟩
   obtain ⟨cs',h1,h2⟩:=hx i y hy
   obtain ⟨_,hcl,hat⟩:=World.cells?_some h1
   refine ⟨cs',h2,by rw [hcl,hk],fun j hj=>?_⟩
   have:=hat j (by omega)
   rw [hk,WD,WD] at this
   exact this
theorem gX {α:Type} {t e k bt:Nat} {TV:World->α->List Value->Prop} (ht:P.underlying t = some (.slice e)) (hk:P.cellsOf e = k) (hb:P.bytesOf e = bt) (hk0:0 < k) (he:CI P e TV) :
  CI P t (aUJ TV k bt):=fun H enc w base sp held fuel cs x h hL=>I1 ht hk hb hk0 (fun n _ cs x h hL=>he H enc w base sp held n cs x h hL) h hL
end
theorem aDJ {P:Program} {f:Nat} {ds:List D} (hS:uJ P f ds (.bool true)) (w:World) (vs:Array Value) (hl:vs.size = ds.length) (hr:∀ (i:Nat) (d:D),ds[i]? = some d->a6 (hw w) (vs.getD i undef) d) (hG:IW (hw w)) :
  Calls P f vs w fun e w'=>e = .returned (.bool true) ∧ Below w.heap.size w w':=by
 refine (hS.2 w (hw w) vs (Hp.le.refl _) hl hr hG).mono ?_
 rintro e w' ⟨v,h',rfl,g1,g2,g3,g4,g5⟩
 cases g1
 exact ⟨rfl,g5⟩
def KT {α:Type} (Q:Nat->α->Prop):List (Nat × Option α)->Prop
 | []=>True
 | (i,some x) :: l=>Q i x ∧ KT Q l
 | (i,none) :: l=>KT Q l
theorem KT.lk {α:Type} {Q:Nat->α->Prop}:∀ {l:List (Nat × Option α)},KT Q l->∀ {f:Nat} {x:α},Vm.lk l none f = some x->Q f x
 | [],_,f,x,e=>by simp [Vm.lk] at e
 | (i,o) :: l,h,f,x,e=>by
  simp only [Vm.lk] at e
  split at e
  ·rename_i hf
   subst hf
   subst e
   exact h.1
  ·cases o with
   | none=>exact KT.lk (l:=l) h e
   | some y=>exact KT.lk (l:=l) h.2 e
def aAR (P:Program) (f:Nat) (d:Def):Prop:=(∀ sf,d = .code sf->∃ fn,P.funcs[f]? = some fn ∧ RB P fn sf) ∧ X4 P f d
theorem bV {P:Program} {f:Nat} {fn:Func} {sf:bY} (h:P.funcs[f]? = some fn) (l:fZ P fn sf):aAR P f (.code sf) :=
 ⟨fun sf' e=>by cases e; exact ⟨fn,h,l.g⟩,trivial⟩
theorem aPx {P:Program} {f:Nat} {fn:Func} {sf:bY} (h:P.funcs[f]? = some fn) (l:RB P fn sf):aAR P f (.code sf) :=
 ⟨fun sf' e=>by cases e; exact ⟨fn,h,l⟩,trivial⟩
theorem TI {P:Program} {f:Nat} {o:List D->Option D} (h:∀ ds x,o ds = some x->uJ P f ds x):aAR P f (.told o) :=
 ⟨fun sf' e=>(by cases e),h⟩
def RdL (h:Hp):List Value->List D->Prop
 | [],[]=>True
 | v :: vs,d :: ds=>a6 h v d ∧ RdL h vs ds
 | _,_=>False
theorem RdL.at {h:Hp}:∀ {vs:List Value} {ds:List D},RdL h vs ds->vs.length = ds.length ∧ ∀ (i:Nat) (d:D),ds[i]? = some d->∃ v,vs[i]? = some v ∧ a6 h v d
 | [],[],_=>⟨rfl,fun i d e=>by simp at e⟩
 | v :: vs,d :: ds,q=>by
  obtain ⟨q1,q2⟩:=RdL.at q.2
  refine ⟨by simp [q1],fun i x e=>?_⟩
  cases i with
  | zero=>simp at e; subst e; exact ⟨v,rfl,q.1⟩
  | succ i=>simpa using q2 i x (by simpa using e)
 | [],d :: ds,q=>q.elim
 | v :: vs,[],q=>q.elim
theorem aKq {P:Program} {f:Nat} {ds:List D} (hS:uJ P f ds (.bool true)) (w:World) (vs:List Value) (hr:RdL (hw w) vs ds) (hG:IW (hw w)) :
  Calls P f vs.toArray w fun e w'=>e = .returned (.bool true) ∧ Below w.heap.size w w' :=
 aDJ hS w vs.toArray (by simpa using hr.at.1) (fun i d e=>by
  obtain ⟨v,h1,h2⟩:=hr.at.2 i d e
  have:vs.toArray.getD i undef = v:=by simp [É,h1]
  rw [this]; exact h2) hG
end
section
open Go.RowKit Vm
theorem CQ {n:Int} (h1:-9223372036854775808 <= n) (h2:n <= 9223372036854775807):IntKind.wrap .i64 n = n:=IntWalk.i64_in n ⟨h1,h2⟩
theorem b5 {n:Nat} (h:n < 9223372036854775807):IntKind.wrap .i64 ((n:Int) + 1) = ((n + 1:Nat):Int):=by
 rw [CQ (by omega) (by omega)]; omega
theorem at?_nat {α:Type} (xs:List α) (i:Nat):at? xs (i:Int) = xs[i]?:=by
 unfold at?
 rw [Â (by omega)]
 simp
theorem at?_lt {α:Type} (xs:List α) (i:Nat) (h:i < xs.length):at? xs (i:Int) = some xs[i]:=by
 rw [at?_nat,Ü h]
def yO {X:Type} (g:Nat->Option X) (fin:X):Nat->Nat->X
 | _,0=>fin
 | k,m + 1=>match g k with
  | some x=>x
  | none=>yO g fin (k + 1) m
theorem OA {X:Type} (g:Nat->Option X) (fin:X):∀ (m k:Nat),(yO g fin k m = fin ∧ ∀ i,k <= i->i < k + m->g i = none) ∨ ∃ i x,k <= i ∧ i < k + m ∧ g i = some x ∧ yO g fin k m = x ∧ ∀ j,k <= j->j < i->g j = none
 | 0,k=>.inl ⟨rfl,fun i h1 h2=>by omega⟩
 | m + 1,k=>by
  simp only [yO]
  cases h:g k with
  | some x=>exact .inr ⟨k,x,Õ _,by omega,h,rfl,fun j h1 h2=>by omega⟩
  | none =>
   rcases OA g fin m (k + 1) with ⟨q1,q2⟩ | ⟨i,x,q1,q2,q3,q4,q5⟩
   ·refine .inl ⟨q1,fun i h1 h2=>?_⟩
    by_cases e:i = k
    ·rw [e]; exact h
    ·exact q2 i (by omega) (by omega)
   ·refine .inr ⟨i,x,by omega,by omega,q3,q4,fun j h1 h2=>?_⟩
    by_cases e:j = k
    ·rw [e]; exact h
    ·exact q5 j (by omega) h2
theorem pH {S X:Type} {step:S->Option (S ⊕ X)} {s s' : S} (h:step s = some (.inl s')):eJ step s = eJ step s':=by
 rw [aEW,h]
theorem jP {S X:Type} {step:S->Option (S ⊕ X)} {s:S} {x:X} (h:step s = some (.inr x)):eJ step s = some x:=by
 rw [aEW,h]
theorem aGO {S X:Type} {step:S->Option (S ⊕ X)} (st:Nat->S) (n:Nat) (g:Nat->Option X) (fin:X)
  (h:∀ i,i < n->step (st i) = some (match g i with | none=>.inl (st (i + 1)) | some x=>.inr x)) (he:step (st n) = some (.inr fin)):eJ step (st 0) = some (yO g fin 0 n):=by
 have key:∀ (m k:Nat),k + m = n->eJ step (st k) = some (yO g fin k m):=by
  intro m
  induction m with
  | zero=>intro k hk; obtain rfl:k = n:=(by omega); exact jP he
  | succ m ih =>
   intro k hk
   have h1:=h k (by omega)
   simp only [yO]
   cases hg:g k with
   | some x=>rw [hg] at h1; exact jP h1
   | none=>rw [hg] at h1; exact (pH h1).trans (ih (k + 1) (by omega))
 exact key n 0 (by omega)
theorem OJ {S X:Type} {step:S->Option (S ⊕ X)} (st:Nat->S) (n:Nat) (fin:X)
  (h:∀ i,i < n->step (st i) = some (.inl (st (i + 1)))) (he:step (st n) = some (.inr fin)):eJ step (st 0) = some fin:=by
 have key:∀ (m k:Nat),k + m = n->eJ step (st k) = some fin:=by
  intro m
  induction m with
  | zero=>intro k hk; obtain rfl:k = n:=(by omega); exact jP he
  | succ m ih=>intro k hk; exact (pH (h k (by omega))).trans (ih (k + 1) (by omega))
 exact key n 0 (by omega)
theorem kI {S X:Type} {step:S->Option (S ⊕ X)} (st:Nat->S) (n:Nat) (G:Nat->Prop) (Q:X->Prop)
  (h:∀ i,i < n->(step (st i) = some (.inl (st (i + 1))) ∧ G i) ∨ ∃ x,step (st i) = some (.inr x) ∧ ((∀ j,j < i->G j)->Q x))
  (he:∃ x,step (st n) = some (.inr x) ∧ ((∀ j,j < n->G j)->Q x)):∃ x,eJ step (st 0) = some x ∧ Q x:=by
 have key:∀ (m k:Nat),k + m = n->(∀ j,j < k->G j)->∃ x,eJ step (st k) = some x ∧ Q x:=by
  intro m
  induction m with
  | zero =>
   intro k hk hG
   obtain rfl:k = n:=(by omega)
   obtain ⟨x,h1,h2⟩:=he
   exact ⟨x,jP h1,h2 hG⟩
  | succ m ih =>
   intro k hk hG
   rcases h k (by omega) with ⟨h1,h2⟩ | ⟨x,h1,h2⟩
   ·rw [pH h1]
    exact ih (k + 1) (by omega) fun j hj=>by
     by_cases e:j = k
     ·rw [e]; exact h2
     ·exact hG j (by omega)
   ·exact ⟨x,jP h1,h2 hG⟩
 exact key n 0 (by omega) fun j hj=>by omega
def el {α:Type} [Inhabited α] (l:List α) (i:Nat):α:=l.getD i default
theorem C4 {α:Type} [Inhabited α] (l:List α) (i:Nat) (h:i < l.length):el l i = l[i]:=by simp [el,h]
theorem GK {α:Type} [Inhabited α] (l:List α) (i:Nat) (h:i < l.length):el l i ∈ l:=by rw [C4 l i h]; exact Ħ h
theorem fW {α:Type} [Inhabited α] (l:List α) (i:Nat) (h:i < l.length):at? l (i:Int) = some (el l i):=by rw [at?_lt l i h,C4 l i h]
theorem xT {α:Type} [Inhabited α] (l:List α) (n:Int) (h0:0 <= n) (h:n < l.length):at? l n = some (el l n.toNat):=by
 have:=fW l n.toNat (by omega)
 rwa [Int.toNat_of_nonneg h0] at this
theorem aR2 {α:Type} [Inhabited α] {l:List α} {x:α} (h:x ∈ l):∃ i,i < l.length ∧ el l i = x:=by
 obtain ⟨i,hi,rfl⟩:=ě.1 h
 exact ⟨i,hi,C4 l i hi⟩
theorem tN {i n:Nat} (h:i < n):(decide ((i:Int) < (n:Int)) = true) = True:=by simp; omega
theorem wR (n:Nat):(decide ((n:Int) < (n:Int)) = true) = False:=by simp
end
section
open Go.RowKit Vm
def m6 {X:Type} (g:Nat->Option X):Nat->Nat->Option X
 | _,0=>none
 | k,m + 1=>match g k with
  | some x=>some x
  | none=>m6 g (k + 1) m
def toS {A X:Type} (a:A):Option X->A ⊕ X
 | none=>.inl a
 | some x=>.inr x
theorem T2 {A X C:Type} (f:A->C) (h:X->C) (a:A) (o:Option X):Sum.elim f h (toS a o) = (match o with | none=>f a | some x=>h x):=by
 cases o <;> rfl
theorem BL {X:Type} {g:Nat->Option X} {x:X}:∀ (m k:Nat),m6 g k m = some x->∃ i,k <= i ∧ i < k + m ∧ g i = some x ∧ ∀ j,k <= j->j < i->g j = none
 | 0,k=>fun e=>nomatch e
 | m + 1,k=>by
  simp only [m6]
  cases h:g k with
  | some y=>exact fun e=>⟨k,Õ _,by omega,by rw [h]; exact e,fun j h1 h2=>by omega⟩
  | none =>
   intro e
   obtain ⟨i,h1,h2,h3,h4⟩:=BL m (k + 1) e
   exact ⟨i,by omega,by omega,h3,fun j q1 q2=>by
    by_cases e:j = k
    ·rw [e]; exact h
    ·exact h4 j (by omega) q2⟩
theorem MX {S A X:Type} {step:S->Option (S ⊕ (A ⊕ X))} (st:Nat->S) (n:Nat) (g:Nat->Option X) (fin:A)
  (h:∀ i,i < n->step (st i) = some (match g i with | none=>.inl (st (i + 1)) | some x=>.inr (.inr x))) (he:step (st n) = some (.inr (.inl fin))):eJ step (st 0) = some (toS fin (m6 g 0 n)):=by
 have key:∀ (m k:Nat),k + m = n->eJ step (st k) = some (toS fin (m6 g k m)):=by
  intro m
  induction m with
  | zero=>intro k hk; obtain rfl:k = n:=(by omega); exact jP he
  | succ m ih =>
   intro k hk
   have h1:=h k (by omega)
   simp only [m6]
   cases hg:g k with
   | some x=>rw [hg] at h1; exact jP h1
   | none=>rw [hg] at h1; exact (pH h1).trans (ih (k + 1) (by omega))
 exact key n 0 (by omega)
end
end Go.Proofs.YtoefdnkjcfoccaaDoor
