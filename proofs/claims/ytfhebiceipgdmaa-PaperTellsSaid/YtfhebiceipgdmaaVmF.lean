/- The small machine, read from the front: slices that are laid out, calls, masks, answers. The small machine, read from the front: regions whose order is drawn. -/
import Derived.Test.YtfhebiceipgdmaaVmE
set_option linter.unusedVariables false
namespace Go.Proofs.Ytfhebiceipgdmaa
theorem zA.{u} {α:Type u} {a:α} {l:List α}:(a::l).length = l.length + 1:=rfl
theorem zB.{u} {α:Type u}:([]:List α).length = 0:=rfl
theorem zC:(!true) = false:=rfl
theorem zD:(!false) = true:=rfl
theorem zE.{u} {α:Type u} {n:Nat} {a:α}:List.replicate (n + 1) a = a::List.replicate n a:=rfl
theorem zF.{u} {α:Type u} {a:α}:List.replicate 0 a = []:=rfl
theorem zG.{u,v} {α:Type u} {β:Type v} (a:α) (f:α→Option β):(some a).bind f = f a:=rfl
theorem zH.{u,v} {α:Type u} {β:Type v} (a:α) (f:α→β):(some a).map f = some (f a):=rfl
theorem zI.{u,v} {α:Type u} {β:Type v} (f:α→β):(none:Option α).map f = none:=rfl
theorem zJ.{u,v,w} {α:Type u} {β:Type v} {γ:Sort w} (f:α→γ) (g:β→γ) (x:α):Sum.elim f g (Sum.inl x) = f x:=rfl
theorem zK.{u,v,w} {α:Type u} {β:Type v} {γ:Sort w} (f:α→γ) (g:β→γ) (x:β):Sum.elim f g (Sum.inr x) = g x:=rfl
theorem zL.{u,v,w} {α:Type u} {β:Type v} {γ:Type w} (x:Option α) (f:α→Option β) (g:β→Option γ):(x.bind f).bind g = x.bind fun y=>(f y).bind g:=Option.bind_assoc x f g
theorem zM.{u} {α:Type u} [BEq α] [ReflBEq α] (a:α):(a == a) = true:=beq_self_eq_true a
theorem zN:(¬False) = True:=not_false_eq_true
namespace Vm
open Go.RowKit
section
variable {β:Type} {T:FU} {d:Nat} {fr:List (Nat × V)} {bl:List (Nat × Option aY)} {k:V→Option β} {kw:V→List (Nat × Option aY)→Option β}
def xW (bl:List (Nat × Option aY)):List V→(List D→List (Nat × Option aY)→Option β)→Option β
 | [],k=>k [] []
 | v :: cs,k=>(m8 (lk bl none) v).bind fun x=>xW bl cs fun ds f=>k (x :: ds) (F6 (lk bl none) v ++ f)
theorem SR (cs:List V) (k:List D→List (Nat × Option aY)→Option β):xW bl cs k = (bY (m8 (lk bl none)) cs).bind fun ds=>k ds (cs.flatMap (F6 (lk bl none))):=by
 induction cs generalizing k with
 | nil=>rfl
 | cons v cs ih =>
  simp only [xW,bY,ih,List.flatMap_cons]
  cases m8 (lk bl none) v with
  | none=>rfl
  | some x=>cases bY (m8 (lk bl none)) cs <;> rfl
def VH (v:V) (bl:List (Nat × Option aY)) (k:D→List (Nat × Option aY)→Option β):Option β:=(m8 (lk bl none) v).bind fun x=>k x (F6 (lk bl none) v)
theorem aL6 (x:D) (k:D→List (Nat × Option aY)→Option β):VH (.d x) bl k = k x []:=rfl
theorem aFM (k:D→List (Nat × Option aY)→Option β):VH .nil bl k = k (.sl []) []:=rfl
def d1B (id ver:Nat) (b:Option aY) (k:D→List (Nat × Option aY)→Option β):Option β:=match b with
 | some (.rows v _ _ rows)=>if ver = v then k (.sl rows) [(id,some (.froz v rows))] else none
 | some (.froz v rows)=>if ver = v then k (.sl rows) [] else none
 | _=>none
theorem aGq (id ver:Nat) (k:D→List (Nat × Option aY)→Option β):VH (.own id ver) bl k = fI bl id fun b=>d1B id ver b k:=by
 unfold VH fI d1B
 simp only [m8,F6,tF,G1]
 generalize lk bl none id = b
 cases b with
 | none=>rfl
 | some b=>cases b with
  | rows v e s rows=>simp only; by_cases h:ver = v <;> simp [h]
  | froz v rows=>simp only; by_cases h:ver = v <;> simp [h]
  | _=>rfl
theorem aD1 (id v e s:Nat) (rows:List (List D)) (k:D→List (Nat × Option aY)→Option β):d1B id v (some (.rows v e s rows)) k = k (.sl rows) [(id,some (.froz v rows))]:=if_pos rfl
theorem aCs (id v:Nat) (rows:List (List D)) (k:D→List (Nat × Option aY)→Option β):d1B id v (some (.froz v rows)) k = k (.sl rows) []:=if_pos rfl
def tE (bl:List (Nat × Option aY)):List V→(List D→List (Nat × Option aY)→Option β)→Option β
 | [],k=>k [] []
 | v :: cs,k=>(tF (lk bl none) v).bind fun x=>tE bl cs fun ds f=>k (x :: ds) (G1 (lk bl none) v ++ f)
theorem aBR (cs:List V) (k:List D→List (Nat × Option aY)→Option β):tE bl cs k = (bY (tF (lk bl none)) cs).bind fun ds=>k ds (cs.flatMap (G1 (lk bl none))):=by
 induction cs generalizing k with
 | nil=>rfl
 | cons v cs ih =>
  simp only [tE,bY,ih,List.flatMap_cons]
  cases tF (lk bl none) v with
  | none=>rfl
  | some x=>cases bY (tF (lk bl none)) cs <;> rfl
theorem XQ (k:List D→List (Nat × Option aY)→Option β):tE bl [] k = k [] []:=rfl
theorem aD4 (x:D) (cs:List V) (k:List D→List (Nat × Option aY)→Option β):tE bl (.d x :: cs) k = tE bl cs fun ds f=>k (x :: ds) f:=rfl
theorem aC1 (cs:List V) (k:List D→List (Nat × Option aY)→Option β):tE bl (.nil :: cs) k = tE bl cs fun ds f=>k (.sl [] :: ds) f:=rfl
theorem W4 (id ver:Nat) (cs:List V) (k:List D→List (Nat × Option aY)→Option β):tE bl (.own id ver :: cs) k = VH (.own id ver) bl fun x g=>tE bl cs fun ds f=>k (x :: ds) (g ++ f):=rfl
theorem IC (ds:List D) (k:List D→List (Nat × Option aY)→Option β):tE bl (aC ds) k = k ds []:=by
 have:∀ (ds:List D) (k:List D→List (Nat × Option aY)→Option β),tE bl (aC ds) k = k ds []:=by
  intro ds
  induction ds with
  | nil=>intro k; rfl
  | cons x ds ih=>intro k; show tE bl (aC ds) _ = _; rw [ih]; rfl
 exact this ds k
def d1P (id off:Nat) (b:Option aY) (bl:List (Nat × Option aY)) (k:D→List (Nat × Option aY)→Option β):Option β:=match b with
 | some (.box cs)=>tE bl cs fun ds f=>k (.ptr ds off) ((id,some (.fbox ds)) :: f)
 | some (.fbox ds)=>k (.ptr ds off) []
 | _=>none
theorem aFz (id off:Nat) (k:D→List (Nat × Option aY)→Option β):VH (.ptr id off) bl k = fI bl id fun b=>d1P id off b bl k:=by
 unfold VH fI d1P
 simp only [m8,F6]
 cases lk bl none id with
 | none=>rfl
 | some b=>cases b with
  | box cs =>
   simp only [aBR]
   cases bY (tF (lk bl none)) cs <;> rfl
  | _=>rfl
theorem aIF (id off:Nat) (c:V) (cs:List V) (k:D→List (Nat × Option aY)→Option β):d1P id off (some (.box (c :: cs))) bl k = tE bl (c :: cs) fun ds f=>k (.ptr ds off) ((id,some (.fbox ds)) :: f):=rfl
theorem W5 (id off:Nat) (ds:List D) (k:D→List (Nat × Option aY)→Option β):d1P id off (some (.box (aC ds))) bl k = k (.ptr ds off) [(id,some (.fbox ds))]:=by
 show tE bl (aC ds) _ = _
 rw [IC]
theorem aEi (id off:Nat) (ds:List D) (k:D→List (Nat × Option aY)→Option β):d1P id off (some (.fbox ds)) bl k = k (.ptr ds off) []:=rfl
theorem aBB (id off:Nat) (cs:List V) (k:List D→List (Nat × Option aY)→Option β):xW bl (.ptr id off :: cs) k = VH (.ptr id off) bl fun x g=>xW bl cs fun ds f=>k (x :: ds) (g ++ f):=rfl
theorem aCc (k:List D→List (Nat × Option aY)→Option β):xW bl [] k = k [] []:=rfl
theorem aF6 (x:D) (cs:List V) (k:List D→List (Nat × Option aY)→Option β):xW bl (.d x :: cs) k = xW bl cs fun ds f=>k (x :: ds) f:=rfl
theorem aHo (cs:List V) (k:List D→List (Nat × Option aY)→Option β):xW bl (.nil :: cs) k = xW bl cs fun ds f=>k (.sl [] :: ds) f:=rfl
theorem aCa (id ver:Nat) (cs:List V) (k:List D→List (Nat × Option aY)→Option β):xW bl (.own id ver :: cs) k = VH (.own id ver) bl fun x g=>xW bl cs fun ds f=>k (x :: ds) (g ++ f):=rfl
theorem FB (ds:List D) (k:List D→List (Nat × Option aY)→Option β):xW bl (aC ds) k = k ds []:=by
 have:∀ (ds:List D) (k:List D→List (Nat × Option aY)→Option β),xW bl (aC ds) k = k ds []:=by
  intro ds
  induction ds with
  | nil=>intro k; rfl
  | cons x ds ih=>intro k; show xW bl (aC ds) _ = _; rw [ih]; rfl
 exact this ds k
def E2 (v:V) (bl:List (Nat × Option aY)) (k:D→List (Nat × Option aY)→Option β):Option β:=(nR (lk bl none) v).bind fun x=>k x (yB (lk bl none) v)
theorem aJU (x:D) (k:D→List (Nat × Option aY)→Option β):E2 (.d x) bl k = k x []:=rfl
theorem aCw (k:D→List (Nat × Option aY)→Option β):E2 .nil bl k = k (.sl []) []:=rfl
theorem aEP (id ver:Nat) (k:D→List (Nat × Option aY)→Option β):E2 (.own id ver) bl k = VH (.own id ver) bl k:=rfl
theorem aDG (id off:Nat) (k:D→List (Nat × Option aY)→Option β):E2 (.ptr id off) bl k = VH (.ptr id off) bl k:=rfl
theorem TE (cs:List V) (k:D→List (Nat × Option aY)→Option β):E2 (.agg cs) bl k = xW bl cs fun ds f=>k (.agg ds) f:=by
 rw [SR]
 show ((bY (m8 (lk bl none)) cs).map D.agg).bind _ = _
 cases bY (m8 (lk bl none)) cs <;> rfl
theorem aAR (ds:List D) (k:D→List (Nat × Option aY)→Option β):E2 (cO ds) bl k = k (.agg ds) []:=by
 show E2 (.agg (aC ds)) bl k = _
 rw [TE,FB]
theorem aJZ (x:D) (k:List D→List (Nat × Option aY)→Option β):M0 (.d x) bl k = k [x] []:=rfl
theorem U2 (cs:List V) (k:List D→List (Nat × Option aY)→Option β):M0 (.agg cs) bl k = xW bl cs k:=by
 rw [SR]
 show (match bY (m8 (lk bl none)) cs with | some row=>k row (cs.flatMap (F6 (lk bl none))) | none=>none) = _
 cases bY (m8 (lk bl none)) cs <;> rfl
theorem aAL (ds:List D) (k:List D→List (Nat × Option aY)→Option β):M0 (cO ds) bl k = k ds []:=by
 show M0 (.agg (aC ds)) bl k = _
 rw [U2,FB]
theorem aEl (k:List D→List (Nat × Option aY)→Option β):M0 .nil bl k = k [.sl []] []:=rfl
theorem aDb (id ver:Nat) (k:List D→List (Nat × Option aY)→Option β):M0 (.own id ver) bl k = VH (.own id ver) bl fun x f=>k [x] f:=by
 unfold M0 VH
 show (match bY (m8 (lk bl none)) [.own id ver] with | some row=>k row (F6 (lk bl none) (.own id ver)) | none=>none) = _
 simp only [bY]
 cases m8 (lk bl none) (.own id ver) <;> rfl
def U5 (rs:List (List D)) (i:Nat) (row:List D) (k:List (List D)→Option β):Option β:=if i < rs.length then k (rs.set i row) else none
theorem aJI (r:List D) (rs:List (List D)) (row:List D) (k:List (List D)→Option β):U5 (r :: rs) 0 row k = k (row :: rs):=by simp [U5]
theorem aJ9 (r:List D) (rs:List (List D)) (i:Nat) (row:List D) (k:List (List D)→Option β):U5 (r :: rs) (i + 1) row k = U5 rs i row fun l=>k (r :: l):=by
 unfold U5
 simp only [List.length_cons,List.set_cons_succ]
 by_cases h:i < rs.length
 ·rw [if_pos h,if_pos (by omega)]
 ·rw [if_neg h,if_neg (by omega)]
def bsF (fr:List (Nat × V)) (bl:List (Nat × Option aY)) (size:Nat) (rs:List (List D)):List (Nat × eM)→List (Nat × Option aY)→(List (List D)→List (Nat × Option aY)→Option β)→Option β
 | [],wr,k=>k rs wr
 | (i,x) :: r,wr,k=>dU fr x fun v=>M0 v bl fun row f=>kY row size (U5 rs i row fun rs'=>bsF fr bl size rs' r (wr ++ f) k)
theorem aIw (size:Nat) (rs:List (List D)) (wr:List (Nat × Option aY)) (k:List (List D)→List (Nat × Option aY)→Option β):bsF fr bl size rs [] wr k = k rs wr:=rfl
theorem aCL (size:Nat) (rs:List (List D)) (i:Nat) (x:eM) (r:List (Nat × eM)) (wr:List (Nat × Option aY)) (k:List (List D)→List (Nat × Option aY)→Option β):bsF fr bl size rs ((i,x) :: r) wr k = dU fr x fun v=>M0 v bl fun row f=>kY row size (U5 rs i row fun rs'=>bsF fr bl size rs' r (wr ++ f) k):=rfl
theorem aKp (size:Nat) (parts:List (Nat × eM)):∀ (rs:List (List D)) (wr:List (Nat × Option aY)) (k:List (List D)→List (Nat × Option aY)→Option β),bsF fr bl size rs parts wr k = (mY (lk bl none) size rs (parts.map fun p=>(p.1,dL (lk fr .any) p.2))).bind fun rs'=>k rs' (wr ++ parts.flatMap fun p=>yB (lk bl none) (dL (lk fr .any) p.2)):=by
 induction parts with
 | nil=>intro rs wr k; simp [bsF,mY]
 | cons p r ih =>
  intro rs wr k
  obtain ⟨i,x⟩:=p
  simp only [bsF,dU,M0,List.map_cons,mY,List.flatMap_cons]
  cases bY (m8 (lk bl none)) (dL (lk fr .any) x).cells with
  | none=>rfl
  | some row =>
   simp only [kY,U5]
   by_cases h1:row.length = size
   ·by_cases h2:i < rs.length
    ·rw [if_pos h1,if_pos h2,if_pos ⟨h1,h2⟩,ih,List.append_assoc]
    ·rw [if_pos h1,if_neg h2,if_neg (fun q=>h2 q.2)]; rfl
   ·rw [if_neg h1,if_neg (fun q=>h1 q.1)]; rfl
theorem NK (e size n:Nat) (z:List D) (parts:List (Nat × eM)):wL T d (.buildSlice e size z n parts) fr bl k kw = fI bl d fun b=>s4 b (bsF fr bl size (List.replicate n z) parts [] fun rows wr=>O5 e rows fun rows=>kw (.own d 0) ((d,some (.rows 0 e size rows)) :: wr)):=by
 rw [n6]
 unfold fI s4 O5
 simp only [fP,aKp,List.nil_append]
 cases lk bl none d with
 | some b=>rfl
 | none =>
  simp only
  have e1:(parts.map fun x=>match x with | (i,x)=>(i,dL (lk fr .any) x)) = parts.map fun p=>(p.1,dL (lk fr .any) p.2):=rfl
  have e2:(parts.flatMap fun x=>match x with | (_,x)=>yB (lk bl none) (dL (lk fr .any) x)) = parts.flatMap fun p=>yB (lk bl none) (dL (lk fr .any) p.2):=rfl
  rw [e1,e2]
  cases mY (lk bl none) size (List.replicate n z) (parts.map fun p=>(p.1,dL (lk fr .any) p.2)) <;> rfl
theorem PW {α:Type} (e size bytes:Nat) (z:List D) (c:α→List D) (x:α) (hz:z = c x) (l cp:eM):wL T d (.makeSlice e size bytes z l cp) fr bl k kw = fI bl d fun b=>s4 b (dU fr l fun a=>dU fr cp fun b=>match a,b with
   | .d (.int _ n),.d (.int _ m)=>if 0 ≤ n ∧ n ≤ m ∧ (bytes:Int) * m ≤ 281474976710656 ∧ m ≤ 9223372036854775807 then kw (.own d 0) [(d,some (.rows 0 e size (cM c (List.replicate n.toNat x))))] else none
   | _,_=>none):=by
 subst hz
 rw [n6]
 unfold fI s4 dU
 simp only [fP,RW]
 generalize dL (lk fr .any) l = a
 generalize dL (lk fr .any) cp = b
 cases lk bl none d with
 | some b=>rfl
 | none =>
  simp only
  split
  ·rename_i n _ m
   simp only
   by_cases h:0 ≤ n ∧ n ≤ m ∧ (bytes:Int) * m ≤ 281474976710656 ∧ m ≤ 9223372036854775807
   ·rw [if_pos h,if_pos h]; rfl
   ·rw [if_neg h,if_neg h]; rfl
  ·rename_i h
   split
   ·rename_i n _ m
    exact absurd rfl (h _ _ _ _ rfl)
   ·rfl
def O1 (fr:List (Nat × V)) (bl:List (Nat × Option aY)):List eM→(List D→List (Nat × Option aY)→Option β)→Option β
 | [],k=>k [] []
 | x :: l,k=>dU fr x fun v=>E2 v bl fun y f=>O1 fr bl l fun ds g=>k (y :: ds) (f ++ g)
theorem aA8 (k:List D→List (Nat × Option aY)→Option β):O1 fr bl [] k = k [] []:=rfl
theorem X5 (x:eM) (l:List eM) (k:List D→List (Nat × Option aY)→Option β):O1 fr bl (x :: l) k = dU fr x fun v=>E2 v bl fun y f=>O1 fr bl l fun ds g=>k (y :: ds) (f ++ g):=rfl
theorem aC9 (l:List eM) (k:List D→List (Nat × Option aY)→Option β):O1 fr bl l k = (bY (fun x=>nR (lk bl none) (dL (lk fr .any) x)) l).bind fun ds=>k ds (l.flatMap fun x=>yB (lk bl none) (dL (lk fr .any) x)):=by
 induction l generalizing k with
 | nil=>rfl
 | cons x l ih =>
  simp only [O1,dU,E2,bY,ih,List.flatMap_cons]
  cases nR (lk bl none) (dL (lk fr .any) x) with
  | none=>rfl
  | some y=>cases bY (fun x=>nR (lk bl none) (dL (lk fr .any) x)) l <;> rfl
def LK (fz:List (Nat × Option aY)) (v:V) (k:V→Option β) (kw:V→List (Nat × Option aY)→Option β):Option β:=match fz with
 | []=>k v
 | p :: w=>kw v (p :: w)
theorem aHA (v:V):LK [] v k kw = k v:=rfl
theorem aKu (l:List (Nat × Option aY)) (v:V):LK ([] ++ l) v k kw = LK l v k kw:=rfl
theorem aJJ (p:Nat × Option aY) (w l:List (Nat × Option aY)) (v:V):LK ((p :: w) ++ l) v k kw = kw v ((p :: w) ++ l):=rfl
theorem aEK (p:Nat × Option aY) (w:List (Nat × Option aY)) (v:V):LK (p :: w) v k kw = kw v (p :: w):=rfl
noncomputable def cH (T:FU) (d:Nat) (bl:List (Nat × Option aY)) (f:Nat) (ds:List D) (fz:List (Nat × Option aY)) (k:V→Option β) (kw:V→List (Nat × Option aY)→Option β):Option β:=match call T f ds with
 | none=>none
 | some r=>J4 (uJ d (lk bl none) fz r) k kw
theorem aC0 (f:Nat) (args:List eM):wL T d (.call f args) fr bl k kw = O1 fr bl args fun ds fz=>cH T d bl f ds fz k kw:=by
 rw [n6,aC9]
 simp only [fP]
 cases bY (fun x=>nR (lk bl none) (dL (lk fr .any) x)) args with
 | none=>rfl
 | some ds =>
  simp only [Option.bind_some,cH]
  cases call T f ds <;> rfl
def D.calm:D→Bool
 | .own _ _ _=>false
 | _=>true
theorem Z7 {x:D} (h:x.calm = true):∀ y es rs,x ≠ .own y es rs:=fun y es rs e=>by rw [e] at h; cases h
theorem aBP {x:D} (h:TQ x = true):x.calm = true:=by cases x <;> first | rfl | cases h
theorem bI {α:Type} {f:Nat} {ds:List D} {o:Option α} {enc:α→D} (h:call T f ds = o.map enc) (hf:∀ x,TQ (enc x) = true) (fz:List (Nat × Option aY)):cH T d bl f ds fz k kw = o.bind fun x=>k (toV (enc x)):=by
 unfold cH
 rw [h]
 cases o with
 | none=>rfl
 | some x=>simp only [Option.map_some,Option.bind_some]; rw [E4 (Z7 (aBP (hf x))),if_pos (hf x)]; rfl
theorem fZ {α:Type} {f:Nat} {ds:List D} {o:Option α} {enc:α→D} (h:call T f ds = o.map enc) (hf:∀ x,TQ (enc x) = false) (hc:∀ x,(enc x).calm = true) (fz:List (Nat × Option aY)):cH T d bl f ds fz k kw = o.bind fun x=>LK fz (toV (enc x)) k kw:=by
 unfold cH
 rw [h]
 cases o with
 | none=>rfl
 | some x=>simp only [Option.map_some,Option.bind_some]; rw [E4 (Z7 (hc x)),if_neg (by rw [hf x]; decide)]; cases fz <;> rfl
def ZJ (bl:List (Nat × Option aY)):List (Nat × Option aY)→Option β→Option β
 | [],x=>x
 | (i,_) :: l,x=>fI bl i fun b=>s4 b (ZJ bl l x)
theorem U0 (bl:List (Nat × Option aY)) (x:Option β):∀ (l:List (Nat × Option aY)),ZJ bl l x = if JC (lk bl none) l = true then x else none
 | []=>rfl
 | (i,b) :: l=>by
  cases h:lk bl none i <;> simp [ZJ,JC,fI,s4,U0 bl x l,h]
theorem HA {α:Type} {f:Nat} {ds:List D} {o:Option α} {y:α→D} {p:Nat × Nat} {es:List (Nat × Nat)} {r:α→List (List D)} {rs:α→List (List (List D))} (h:call T f ds = o.map fun x=>.own (y x) (p :: es) (r x :: rs x)) (fz:List (Nat × Option aY)) :
  cH T d bl f ds fz k kw = o.bind fun x=>ZJ bl (m9 d 0 (p :: es) (r x :: rs x)) (kw (thaw d (y x)) (m9 d 0 (p :: es) (r x :: rs x) ++ fz)):=by
 unfold cH
 rw [h]
 cases o with
 | none=>rfl
 | some x =>
  simp only [Option.map_some,Option.bind_some,uJ,U0]
  split
  ·obtain ⟨e,s⟩:=p; rfl
  ·rfl
def NE (fr:List (Nat × V)) (bl:List (Nat × Option aY)):List eM→(List D→List (Nat × Option aY)→Option β)→Option β
 | [],k=>k [] []
 | x :: l,k=>dU fr x fun v=>VH v bl fun y f=>NE fr bl l fun ds g=>k (y :: ds) (f ++ g)
theorem aA3 (k:List D→List (Nat × Option aY)→Option β):NE fr bl [] k = k [] []:=rfl
theorem VW (x:eM) (l:List eM) (k:List D→List (Nat × Option aY)→Option β):NE fr bl (x :: l) k = dU fr x fun v=>VH v bl fun y f=>NE fr bl l fun ds g=>k (y :: ds) (f ++ g):=rfl
theorem aEa (l:List eM) (k:List D→List (Nat × Option aY)→Option β):NE fr bl l k = (bY (fun x=>m8 (lk bl none) (dL (lk fr .any) x)) l).bind fun ds=>k ds (l.flatMap fun x=>F6 (lk bl none) (dL (lk fr .any) x)):=by
 induction l generalizing k with
 | nil=>rfl
 | cons x l ih =>
  simp only [NE,dU,VH,bY,ih,List.flatMap_cons]
  cases m8 (lk bl none) (dL (lk fr .any) x) with
  | none=>rfl
  | some y=>cases bY (fun x=>m8 (lk bl none) (dL (lk fr .any) x)) l <;> rfl
theorem aCB (f:Nat) (caps:List eM):wL T d (.mkfn f caps) fr bl k kw = NE fr bl caps fun ds fz=>LK fz (.d (.fn f ds)) k kw:=by
 rw [n6,aEa]
 simp only [fP]
 cases bY (fun x=>m8 (lk bl none) (dL (lk fr .any) x)) caps with
 | none=>rfl
 | some ds =>
  simp only [Option.bind_some]
  cases caps.flatMap fun x=>F6 (lk bl none) (dL (lk fr .any) x) <;> rfl
def MH (fr:List (Nat × V)) (bl:List (Nat × Option aY)) (caps:List D):List eM→(List D→List (Nat × Option aY)→Option β)→Option β
 | [],k=>k caps []
 | x :: l,k=>dU fr x fun v=>E2 v bl fun y f=>MH fr bl caps l fun ds g=>k (y :: ds) (f ++ g)
theorem aAT (caps:List D) (k:List D→List (Nat × Option aY)→Option β):MH fr bl caps [] k = k caps []:=rfl
theorem VK (caps:List D) (x:eM) (l:List eM) (k:List D→List (Nat × Option aY)→Option β):MH fr bl caps (x :: l) k = dU fr x fun v=>E2 v bl fun y f=>MH fr bl caps l fun ds g=>k (y :: ds) (f ++ g):=rfl
theorem aDj (caps:List D) (l:List eM) (k:List D→List (Nat × Option aY)→Option β):MH fr bl caps l k = (bY (fun x=>nR (lk bl none) (dL (lk fr .any) x)) l).bind fun ds=>k (ds ++ caps) (l.flatMap fun x=>yB (lk bl none) (dL (lk fr .any) x)):=by
 induction l generalizing k with
 | nil=>rfl
 | cons x l ih =>
  simp only [MH,dU,E2,bY,ih,List.flatMap_cons]
  cases nR (lk bl none) (dL (lk fr .any) x) with
  | none=>rfl
  | some y=>cases bY (fun x=>nR (lk bl none) (dL (lk fr .any) x)) l <;> rfl
noncomputable def VY (T:FU) (d:Nat) (v:V) (args:List eM) (fr:List (Nat × V)) (bl:List (Nat × Option aY)) (k:V→Option β) (kw:V→List (Nat × Option aY)→Option β):Option β:=match v with
 | .d (.fn f caps)=>MH fr bl caps args fun ds fz=>cH T d bl f ds fz k kw
 | _=>none
theorem aDW (f:Nat) (caps:List D) (args:List eM):VY T d (.d (.fn f caps)) args fr bl k kw = MH fr bl caps args fun ds fz=>cH T d bl f ds fz k kw:=rfl
theorem aB7 (g:eM) (args:List eM):wL T d (.callv g args) fr bl k kw = dU fr g fun v=>VY T d v args fr bl k kw:=by
 rw [n6]
 unfold dU
 simp only [fP]
 generalize dL (lk fr .any) g = v
 cases v with
 | d x=>cases x with
  | fn f caps =>
   simp only [VY,aDj]
   cases bY (fun x=>nR (lk bl none) (dL (lk fr .any) x)) args with
   | none=>rfl
   | some ds =>
    simp only [Option.bind_some,cH]
    cases call T f (ds ++ caps) <;> rfl
  | _=>rfl
 | _=>rfl
def aKj (v:V) (i:Nat) (k:V→Option β):Option β:=match v with
 | .tup vs=>CA vs i k
 | _=>none
theorem UL (x:eM) (i:Nat):wL T d (.extract x i) fr bl k kw = dU fr x fun v=>aKj v i k:=by
 unfold wL dU
 simp only [fP]
 generalize dL (lk fr .any) x = v
 cases v with
 | tup vs=>simp only [aKj,JS]; cases vs[i]? <;> rfl
 | _=>rfl
theorem aKc (vs:List V) (i:Nat):aKj (.tup vs) i k = CA vs i k:=rfl
def tT (m:yK) (fr:List (Nat × V)) (bl:List (Nat × Option aY)) (k:List (Nat × V)→List (Nat × Option aY)→Option β):Option β:=k (m.app ⟨fr,bl⟩).fr (m.app ⟨fr,bl⟩).bl
theorem aID {k:Ex→St→Option β} (m:yK) (a:bB):cP T (.pre m a) ⟨fr,bl⟩ k = tT m fr bl fun fr' bl'=>cP T a ⟨fr',bl'⟩ k:=by
 rw [aIy]; rfl
theorem aG5 {k:Ex→St→Option β} (m:yK):U8 m k .normal ⟨fr,bl⟩ = tT m fr bl fun fr' bl'=>k .normal ⟨fr',bl'⟩:=by
 rw [aIl]; rfl
def xT (keep:List Nat) (bl:List (Nat × Option aY)) (v:V) (k:V→Option β):Option β:=k (L3 keep (lk bl none) v)
def OX (keep:List Nat) (fr:List (Nat × V)) (bl:List (Nat × Option aY)):List Nat→(List (Nat × V)→Option β)→Option β
 | [],k=>k []
 | t :: r,k=>wZ fr t fun v=>xT keep bl v fun v'=>OX keep fr bl r fun l=>k ((t,v') :: l)
theorem aD9 (keep:List Nat) (l:List Nat):∀ (k:List (Nat × V)→Option β),OX keep fr bl l k = k (l.map fun t=>(t,L3 keep (lk bl none) (lk fr .any t))):=by
 induction l with
 | nil=>intro k; rfl
 | cons t l ih=>intro k; simp only [OX,wZ,xT,ih,List.map_cons]
def CD (keep:List Nat) (bl:List (Nat × Option aY)) (b:Option aY) (k:Option aY→Option β):Option β:=k (b.bind (H9 keep (lk bl none)))
def OI (keep:List Nat) (bl:List (Nat × Option aY)):List Nat→(List (Nat × Option aY)→Option β)→Option β
 | [],k=>k []
 | i :: r,k=>fI bl i fun b=>CD keep bl b fun b'=>OI keep bl r fun l=>k ((i,b') :: l)
theorem aEJ (keep:List Nat) (l:List Nat):∀ (k:List (Nat × Option aY)→Option β),OI keep bl l k = k (l.map fun i=>(i,(lk bl none i).bind (H9 keep (lk bl none)))):=by
 induction l with
 | nil=>intro k; rfl
 | cons t l ih=>intro k; simp only [OI,fI,CD,ih,List.map_cons]
theorem aBG (keep:List Nat) (k:List (Nat × V)→Option β):OX keep fr bl [] k = k []:=rfl
theorem XI (keep:List Nat) (t:Nat) (r:List Nat) (k:List (Nat × V)→Option β):OX keep fr bl (t :: r) k = wZ fr t fun v=>xT keep bl v fun v'=>OX keep fr bl r fun l=>k ((t,v') :: l):=rfl
theorem aBe (keep:List Nat) (k:List (Nat × Option aY)→Option β):OI keep bl [] k = k []:=rfl
theorem XL (keep:List Nat) (i:Nat) (r:List Nat) (k:List (Nat × Option aY)→Option β):OI keep bl (i :: r) k = fI bl i fun b=>CD keep bl b fun b'=>OI keep bl r fun l=>k ((i,b') :: l):=rfl
theorem aIh (live keep:List Nat) (k:List (Nat × V)→List (Nat × Option aY)→Option β):tT ⟨live,keep,[],[],[],[]⟩ fr bl k = OX keep fr bl live fun fr'=>OI keep bl keep fun bl'=>k fr' bl':=by
 rw [aD9,aEJ]; rfl
def lI (keep:List Nat) (i:Nat) (x y:Option β):Option β:=if keep.contains i = true then x else y
theorem O8 (i:Nat) (x y:Option β):lI [] i x y = y:=rfl
theorem PO (i:Nat) (r:List Nat) (x y:Option β):lI (i :: r) i x y = x:=by simp [lI]
theorem OT (a i:Nat) (r:List Nat) (x y:Option β) (h:(i == a) = false):lI (a :: r) i x y = lI r i x y:=by
 unfold lI
 rw [List.contains_cons,h,Bool.false_or]
section
variable (keep:List Nat)
theorem aGo (x:D):xT keep bl (.d x) k = k (.d x):=rfl
theorem aAj:xT keep bl .nil k = k .nil:=rfl
theorem aF7:xT keep bl (.tup []) k = k (.tup []):=rfl
theorem aB6:xT keep bl .any k = k .any:=rfl
def ON (keep:List Nat) (id off:Nat) (b:Option aY) (k:V→Option β):Option β:=match b with
 | some (.box _)=>lI keep id (k (.ptr id off)) (k .any)
 | some (.fbox ds)=>k (.d (.ptr ds off))
 | _=>k .any
theorem YQ (id off:Nat) (cs:List V):ON keep id off (some (.box cs)) k = lI keep id (k (.ptr id off)) (k .any):=rfl
theorem TK (id off:Nat) (ds:List D):ON keep id off (some (.fbox ds)) k = k (.d (.ptr ds off)):=rfl
theorem UW (id off:Nat):ON keep id off none k = k .any:=rfl
theorem aAS (id off:Nat):xT keep bl (.ptr id off) k = fI bl id fun b=>ON keep id off b k:=by
 unfold xT fI ON
 simp only [L3,QM,wM]
 generalize lk bl none id = b
 cases b with
 | none=>rfl
 | some b=>cases b with
  | box cs=>simp only [lI]; split <;> rfl
  | _=>rfl
def F8 (id ver:Nat) (b:Option aY) (k:V→Option β):Option β:=match b with
 | some (.rows v _ _ _)=>if (ver == v) = true then lI keep id (k (.own id 0)) (k .any) else k .any
 | some (.froz v rows)=>if ver = v then k (.d (.sl rows)) else k .any
 | _=>k .any
theorem aAM (id ver:Nat):xT keep bl (.own id ver) k = fI bl id fun b=>F8 keep id ver b k:=by
 unfold xT fI F8 lI
 simp only [L3,QM,wM]
 generalize lk bl none id = b
 cases b with
 | none=>rfl
 | some b=>cases b with
  | rows v e s rows=>simp only; cases (ver == v) <;> cases keep.contains id <;> rfl
  | froz v rows=>simp only; split <;> rfl
  | _=>rfl
theorem U6 (id v e s:Nat) (rows:List (List D)):F8 keep id v (some (.rows v e s rows)) k = lI keep id (k (.own id 0)) (k .any):=by simp [F8]
theorem VJ (id ver v e s:Nat) (rows:List (List D)) (h:(ver == v) = false):F8 keep id ver (some (.rows v e s rows)) k = k .any:=by simp [F8,h]
theorem US (id v:Nat) (rows:List (List D)):F8 keep id v (some (.froz v rows)) k = k (.d (.sl rows)):=if_pos rfl
theorem UD (id v:Nat):F8 keep id v none k = k .any:=rfl
def KX (id ver i off:Nat) (b:Option aY) (k:V→Option β):Option β:=match b with
 | some (.rows v _ _ _)=>if (ver == v) = true then lI keep id (k (.orow id 0 i off)) (k .any) else k .any
 | _=>k .any
theorem XP (id ver i off:Nat):xT keep bl (.orow id ver i off) k = fI bl id fun b=>KX keep id ver i off b k:=by
 unfold xT fI KX lI
 simp only [L3,QM,wM]
 generalize lk bl none id = b
 cases b with
 | none=>rfl
 | some b=>cases b with
  | rows v e s rows=>simp only; cases (ver == v) <;> cases keep.contains id <;> rfl
  | _=>rfl
theorem VA (id v i off e s:Nat) (rows:List (List D)):KX keep id v i off (some (.rows v e s rows)) k = lI keep id (k (.orow id 0 i off)) (k .any):=by simp [KX]
theorem VM (id ver v i off e s:Nat) (rows:List (List D)) (h:(ver == v) = false):KX keep id ver i off (some (.rows v e s rows)) k = k .any:=by simp [KX,h]
def wA (keep:List Nat) (bl:List (Nat × Option aY)):List V→(List V→Option β)→Option β
 | [],k=>k []
 | v :: cs,k=>k (wM keep (lk bl none) v :: cs.map (wM keep (lk bl none)))
theorem xD (cs:List V) (k:List V→Option β):wA keep bl cs k = k (cs.map (wM keep (lk bl none))):=by cases cs <;> rfl
theorem YI (k:List V→Option β):wA keep bl [] k = k []:=rfl
theorem aCI (x:D) (cs:List V) (k:List V→Option β):wA keep bl (.d x :: cs) k = wA keep bl cs fun l=>k (.d x :: l):=by simp only [xD]; rfl
theorem aD7 (cs:List V) (k:List V→Option β):wA keep bl (.nil :: cs) k = wA keep bl cs fun l=>k (.nil :: l):=by simp only [xD]; rfl
theorem YN (cs:List V) (k:List V→Option β):wA keep bl (.any :: cs) k = wA keep bl cs fun l=>k (.any :: l):=by simp only [xD]; rfl
theorem XZ (id ver:Nat) (cs:List V) (k:List V→Option β):wA keep bl (.own id ver :: cs) k = xT keep bl (.own id ver) fun v=>wA keep bl cs fun l=>k (v :: l):=by simp only [xD]; rfl
theorem WY (id off:Nat) (cs:List V) (k:List V→Option β):wA keep bl (.ptr id off :: cs) k = xT keep bl (.ptr id off) fun v=>wA keep bl cs fun l=>k (v :: l):=by simp only [xD]; rfl
theorem aBl (cs:List V):xT keep bl (.agg cs) k = wA keep bl cs fun l=>k (.agg l):=by rw [xD]; rfl
theorem KG (ds:List D) (b:Nat→Option aY):(aC ds).map (wM keep b) = aC ds:=by
 induction ds with
 | nil=>rfl
 | cons x ds ih=>show wM keep b (.d x) :: (aC ds).map (wM keep b) = _; rw [ih]; rfl
theorem YF (ds:List D):xT keep bl (cO ds) k = k (cO ds):=by
 show k (.agg ((aC ds).map (wM keep (lk bl none)))) = _
 rw [KG]; rfl
theorem VC (k:Option aY→Option β):CD keep bl none k = k none:=rfl
theorem VU (c:V) (cs:List V) (k:Option aY→Option β):CD keep bl (some (.box (c :: cs))) k = wA keep bl (c :: cs) fun l=>k (some (.box l)):=by rw [xD]; rfl
theorem UZ (k:Option aY→Option β):CD keep bl (some (.box [])) k = k (some (.box [])):=rfl
theorem PB (ds:List D) (k:Option aY→Option β):CD keep bl (some (.box (aC ds))) k = k (some (.box (aC ds))):=by
 show k (some (.box ((aC ds).map (wM keep (lk bl none))))) = _
 rw [KG]
theorem UV (v e s:Nat) (rows:List (List D)) (k:Option aY→Option β):CD keep bl (some (.rows v e s rows)) k = k (some (.rows 0 e s rows)):=rfl
theorem SZ (ds:List D) (k:Option aY→Option β):CD keep bl (some (.fbox ds)) k = k none:=rfl
theorem TA (v:Nat) (rows:List (List D)) (k:Option aY→Option β):CD keep bl (some (.froz v rows)) k = k none:=rfl
end
def aFv (res:List AE):Ex→St→Option D
 | .normal,s=>match bY (BN s) res with
  | none=>none
  | some [v]=>nR s.blk v
  | some vs=>toD s.blk (.tup vs)
 | .ret,s=>match bY (BN s) res with
  | none=>none
  | some [v]=>nR s.blk v
  | some vs=>toD s.blk (.tup vs)
 | .exit _,_=>none
def LN (fr:List (Nat × V)) (bl:List (Nat × Option aY)):List AE→(List D→Option D)→Option D
 | [],k=>k []
 | .tmp t :: r,k=>wZ fr t fun v=>E2 v bl fun x _=>LN fr bl r fun l=>k (x :: l)
 | .cell t size isAgg :: r,k=>wZ fr t fun p=>AC size isAgg p bl fun v=>E2 v bl fun x _=>LN fr bl r fun l=>k (x :: l)
def VF:List D→Option D
 | [x]=>some x
 | l=>some (.tup l)
theorem TJ (size:Nat) (a:Bool) (p:V):AC size a p bl k = (L4 size a p (lk bl none)).bind fun r=>k r.1:=by
 have h:=UX (T:=fun _=>none) (d:=0) (fr:=[]) (bl:=bl) (k:=k) (kw:=fun v _=>k v) size a (.c p)
 have e:dU [] (.c p) (fun v=>AC size a v bl k) = AC size a p bl k:=rfl
 rw [← e,← h,n6,J1]
 show J4 (L4 size a p (lk bl none)) k (fun v _=>k v) = _
 cases L4 size a p (lk bl none) with
 | none=>rfl
 | some r=>obtain ⟨v,wr⟩:=r; cases wr <;> rfl
theorem OC (fr:List (Nat × V)) (bl:List (Nat × Option aY)):St.blk ⟨fr,bl⟩ = lk bl none:=rfl
theorem aGc (res:List AE):∀ (k:List D→Option D),LN fr bl res k = (bY (BN ⟨fr,bl⟩) res).bind fun vs=>(bY (nR (lk bl none)) vs).bind k:=by
 induction res with
 | nil=>intro k; rfl
 | cons r res ih =>
  intro k
  cases r with
  | tmp t =>
   simp only [LN,wZ,E2,ih,bY,BN,OG,OC]
   cases h1:bY (BN ⟨fr,bl⟩) res with
   | none =>
    simp only [Option.bind_none]
    cases nR (lk bl none) (lk fr .any t) <;> rfl
   | some vs =>
    simp only [Option.bind_some,bY]
    cases nR (lk bl none) (lk fr .any t) with
    | none=>rfl
    | some x=>cases bY (nR (lk bl none)) vs <;> rfl
  | cell t size isAgg =>
   simp only [LN,wZ,TJ,E2,ih,bY,BN,J1,OG,OC]
   cases L4 size isAgg (lk fr .any t) (lk bl none) with
   | none=>rfl
   | some q =>
    obtain ⟨v,wr⟩:=q
    simp only [Option.bind_some]
    cases h1:bY (BN ⟨fr,bl⟩) res with
    | none =>
     simp only [Option.bind_none]
     cases nR (lk bl none) v <;> rfl
    | some vs =>
     simp only [Option.bind_some,bY]
     cases nR (lk bl none) v with
     | none=>rfl
     | some x=>cases bY (nR (lk bl none)) vs <;> rfl
theorem Y9 (res:List AE):(match bY (BN ⟨fr,bl⟩) res with
  | none=>none
  | some [v]=>nR (lk bl none) v
  | some vs=>toD (lk bl none) (.tup vs)) = LN fr bl res VF:=by
 rw [aGc]
 cases bY (BN ⟨fr,bl⟩) res with
 | none=>rfl
 | some vs =>
  simp only [Option.bind_some]
  cases vs with
  | nil=>rfl
  | cons v vs =>
   cases vs with
   | nil =>
    simp only [bY]
    cases nR (lk bl none) v <;> rfl
   | cons w ws =>
    show (bY (nR (lk bl none)) (v :: w :: ws)).map D.tup = _
    simp only [bY]
    cases nR (lk bl none) v with
    | none=>rfl
    | some x=>cases nR (lk bl none) w with
     | none=>rfl
     | some y=>cases bY (nR (lk bl none)) ws <;> rfl
theorem aJY (res:List AE):aFv res .normal ⟨fr,bl⟩ = LN fr bl res VF:=Y9 res
theorem aJQ (res:List AE):aFv res .ret ⟨fr,bl⟩ = LN fr bl res VF:=Y9 res
theorem aJ1 (res:List AE) (i:Nat) (s:St):aFv res (.exit i) s = none:=rfl
theorem aDU (k:List D→Option D):LN fr bl [] k = k []:=rfl
theorem aCG (t:Nat) (r:List AE) (k:List D→Option D):LN fr bl (.tmp t :: r) k = wZ fr t fun v=>E2 v bl fun x _=>LN fr bl r fun l=>k (x :: l):=rfl
theorem aBA (t size:Nat) (isAgg:Bool) (r:List AE) (k:List D→Option D):LN fr bl (.cell t size isAgg :: r) k = wZ fr t fun p=>AC size isAgg p bl fun v=>E2 v bl fun x _=>LN fr bl r fun l=>k (x :: l):=rfl
theorem aIs (x:D):VF [x] = some x:=rfl
theorem aIv (x y:D) (l:List D):VF (x :: y :: l) = some (.tup (x :: y :: l)):=rfl
theorem bQ {T:FU} {f np nt:Nat} {res:List AE} {body:bB} (hf:T f = some (.code ⟨np,nt,res,body,false⟩)) (ds:List D) (hl:ds.length = np):Vm.call T f ds = cP T body ⟨rN 0 ds,[]⟩ (aFv res):=by
 rw [aCO hf ds hl]
 unfold cP
 cases Vm.ev T body ⟨rN 0 ds,[]⟩ with
 | none=>rfl
 | some q =>
  obtain ⟨e,s⟩:=q
  cases e <;> rfl
def UM:List V→V
 | [v]=>v
 | vs=>.tup vs
def LE (fr:List (Nat × V)) (bl:List (Nat × Option aY)):List AE→(List V→Option D)→Option D
 | [],k=>k []
 | .tmp t :: r,k=>wZ fr t fun v=>LE fr bl r fun l=>k (v :: l)
 | .cell t size isAgg :: r,k=>wZ fr t fun p=>AC size isAgg p bl fun v=>LE fr bl r fun l=>k (v :: l)
theorem aGd (res:List AE):∀ (k:List V→Option D),LE fr bl res k = (bY (BN ⟨fr,bl⟩) res).bind k:=by
 induction res with
 | nil=>intro k; rfl
 | cons r res ih =>
  intro k
  cases r with
  | tmp t =>
   simp only [LE,wZ,ih,bY,BN,OG]
   cases bY (BN ⟨fr,bl⟩) res <;> rfl
  | cell t size isAgg =>
   simp only [LE,wZ,TJ,ih,bY,BN,J1,OG,OC]
   cases L4 size isAgg (lk fr .any t) (lk bl none) with
   | none=>rfl
   | some q =>
    obtain ⟨v,wr⟩:=q
    simp only [Option.bind_some]
    cases bY (BN ⟨fr,bl⟩) res <;> rfl
def aJK (res:List AE):Ex→St→Option D
 | .normal,s=>match bY (BN s) res with
  | none=>none
  | some [v]=>uP s.blk v
  | some vs=>uP s.blk (.tup vs)
 | .ret,s=>match bY (BN s) res with
  | none=>none
  | some [v]=>uP s.blk v
  | some vs=>uP s.blk (.tup vs)
 | .exit _,_=>none
theorem Z2 (res:List AE):(match bY (BN ⟨fr,bl⟩) res with
  | none=>none
  | some [v]=>uP (lk bl none) v
  | some vs=>uP (lk bl none) (.tup vs)) = LE fr bl res fun vs=>uP (lk bl none) (UM vs):=by
 rw [aGd]
 cases bY (BN ⟨fr,bl⟩) res with
 | none=>rfl
 | some vs =>
  cases vs with
  | nil=>rfl
  | cons v vs=>cases vs <;> rfl
theorem aJA (res:List AE):aJK res .normal ⟨fr,bl⟩ = LE fr bl res fun vs=>uP (lk bl none) (UM vs):=Z2 res
theorem aJR (res:List AE):aJK res .ret ⟨fr,bl⟩ = LE fr bl res fun vs=>uP (lk bl none) (UM vs):=Z2 res
theorem aJu (res:List AE) (i:Nat) (s:St):aJK res (.exit i) s = none:=rfl
theorem aEG (k:List V→Option D):LE fr bl [] k = k []:=rfl
theorem aD6 (t:Nat) (r:List AE) (k:List V→Option D):LE fr bl (.tmp t :: r) k = wZ fr t fun v=>LE fr bl r fun l=>k (v :: l):=rfl
theorem aAJ (t size:Nat) (isAgg:Bool) (r:List AE) (k:List V→Option D):LE fr bl (.cell t size isAgg :: r) k = wZ fr t fun p=>AC size isAgg p bl fun v=>LE fr bl r fun l=>k (v :: l):=rfl
theorem aGa (x:V):UM [x] = x:=rfl
theorem aH2 (x y:V) (l:List V):UM (x :: y :: l) = .tup (x :: y :: l):=rfl
def P2 (v:V) (b:Option aY) (x y:Option β):Option β:=match v,b with
 | .nil,none=>x
 | _,_=>y
theorem aGA (b:aY) (x y:Option β):P2 .nil (some b) x y = y:=rfl
theorem aKf (x y:Option β):P2 .nil none x y = x:=rfl
theorem aCJ (i v:Nat) (b:Option aY) (x y:Option β):P2 (.own i v) b x y = y:=rfl
theorem aJl (z:D) (b:Option aY) (x y:Option β):P2 (.d z) b x y = y:=rfl
theorem aEz (b:Option aY) (x y:Option β):P2 .any b x y = y:=rfl
theorem aFK (live keep:List Nat) (t i e s:Nat) (l:List (Nat × Nat × Nat × Nat)) (c:List (Nat × Nat × Nat × Nat × Nat)) (ft:List Nat) (fc:List (Nat × Nat)) (k:List (Nat × V)→List (Nat × Option aY)→Option β) (hs:0 < s) :
  tT ⟨live,keep,(t,i,e,s) :: l,c,ft,fc⟩ fr bl k = wZ fr t fun v=>fI bl i fun b=>P2 v b (O5 e [] fun rows=>tT ⟨live,keep,l,c,ft,fc⟩ ((t,.own i 0) :: fr) ((i,some (.rows 0 e s rows)) :: bl) k) (tT ⟨live,keep,l,c,ft,fc⟩ fr bl k):=by
 show tT ⟨live,keep,(t,i,e,s) :: l,c,ft,fc⟩ fr bl k = P2 (lk fr .any t) (lk bl none i) _ _
 unfold tT
 rw [aKU]
 unfold mkT O5
 show k (yK.app ⟨live,keep,l,c,ft,fc⟩ (match lk fr .any t,lk bl none i with | .nil,none=>if 0 < s then _ else _ | _,_=>_)).fr (yK.app ⟨live,keep,l,c,ft,fc⟩ (match lk fr .any t,lk bl none i with | .nil,none=>if 0 < s then _ else _ | _,_=>_)).bl = _
 generalize lk fr .any t = v
 generalize lk bl none i = b
 cases v with
 | nil=>cases b with
  | none=>simp only [P2,if_pos hs]
  | some b=>rfl
 | _=>rfl
def aBC (b0:Option aY) (n:Nat) (b:Option aY) (x:List V→Option β) (y:Option β):Option β:=match b0 with
 | some (.box cs)=>match cs[n]?,b with
  | some .nil,none=>x cs
  | _,_=>y
 | _=>y
theorem aGB (live keep:List Nat) (i n j e s:Nat) (c:List (Nat × Nat × Nat × Nat × Nat)) (ft:List Nat) (fc:List (Nat × Nat)) (k:List (Nat × V)→List (Nat × Option aY)→Option β) (hs:0 < s) :
  tT ⟨live,keep,[],(i,n,j,e,s) :: c,ft,fc⟩ fr bl k = fI bl i fun b0=>fI bl j fun b=>aBC b0 n b (fun cs=>z0 cs n (.own j 0) fun cs'=>O5 e [] fun rows=>tT ⟨live,keep,[],c,ft,fc⟩ fr ((i,some (.box cs')) :: (j,some (.rows 0 e s rows)) :: bl) k) (tT ⟨live,keep,[],c,ft,fc⟩ fr bl k):=by
 show tT ⟨live,keep,[],(i,n,j,e,s) :: c,ft,fc⟩ fr bl k = aBC (lk bl none i) n (lk bl none j) _ _
 unfold tT
 rw [aMl]
 have hm:∀ b0 b,lk bl none i = b0→lk bl none j = b→mkC (i,n,j,e,s) ⟨fr,bl⟩ = (match b0,b with
  | some (.box cs),none=>match cs[n]? with
   | some .nil=>if 0 < s then ⟨fr,(i,some (.box (cs.set n (.own j 0)))) :: (j,some (.rows 0 e s [])) :: bl⟩ else ⟨fr,bl⟩
   | _=>⟨fr,bl⟩
  | _,_=>⟨fr,bl⟩):=by
  rintro _ _ rfl rfl; rfl
 have hm:=hm _ _ rfl rfl
 rw [hm]
 generalize lk bl none i = b0
 generalize lk bl none j = b
 cases b0 with
 | none=>rfl
 | some b0=>cases b0 with
  | box cs =>
   cases b with
   | none =>
    simp only [aBC]
    cases h:cs[n]? with
    | none=>rfl
    | some v =>
     cases v with
     | nil =>
      have hn:n < cs.length:=by
       rw [List.getElem?_eq_some_iff] at h
       exact h.1
      simp only [if_pos hs,SW,O5]
      rw [if_pos (by omega)]
      have:∀ (cs:List V) (n:Nat),n < cs.length→iU cs n [.own j 0] = cs.set n (.own j 0):=by
       intro cs
       induction cs with
       | nil=>intro n h; simp at h
       | cons c cs ih =>
        intro n h
        cases n with
        | zero=>cases cs <;> rfl
        | succ n=>simp only [iU,List.set_cons_succ]; rw [ih n (by simpa using h)]
      rw [this cs n hn]
     | _=>rfl
   | some b=>simp only [aBC]; cases cs[n]? with
    | none=>rfl
    | some v=>cases v <;> rfl
  | _=>cases b <;> rfl
theorem X2 (k:List (Nat × Nat × V)→Option β):I4 fr [] k = k []:=rfl
theorem S1 (o s:Nat) (x:eM) (l:List (Nat × Nat × eM)) (k:List (Nat × Nat × V)→Option β):I4 fr ((o,s,x) :: l) k = dU fr x fun v=>I4 fr l fun vs=>k ((o,s,v) :: vs):=rfl
theorem aBJ (l:List (Nat × Nat × eM)):∀ (k:List (Nat × Nat × V)→Option β),I4 fr l k = k (l.map fun p=>(p.1,p.2.1,dL (lk fr .any) p.2.2)):=by
 induction l with
 | nil=>intro k; rfl
 | cons p l ih=>intro k; obtain ⟨o,s,x⟩:=p; simp only [I4,dU,ih,List.map_cons]
def ND (z:List V):List (Nat × Nat × V)→(List V→Option β)→Option β
 | [],k=>k z
 | (off,size,v) :: r,k=>xF v fun cs=>o8 cs size (dH z off cs fun z'=>ND z' r k)
theorem aBS (z:List V) (k:List V→Option β):ND z [] k = k z:=rfl
theorem WS (z:List V) (off size:Nat) (v:V) (r:List (Nat × Nat × V)) (k:List V→Option β):ND z ((off,size,v) :: r) k = xF v fun cs=>o8 cs size (dH z off cs fun z'=>ND z' r k):=rfl
theorem aCz (ps:List (Nat × Nat × V)):∀ (z:List V) (k:List V→Option β),ND z ps k = (IE z ps).bind k:=by
 induction ps with
 | nil=>intro z k; rfl
 | cons p r ih =>
  intro z k
  obtain ⟨off,size,v⟩:=p
  simp only [ND,IE,xF,o8,dH,ih]
  by_cases h1:v.known = true
  ·by_cases h2:v.cells.length = size
   ·subst h2
    by_cases h3:off + v.cells.length ≤ z.length
    ·rw [if_pos h1,if_pos rfl,if_pos h3,if_pos ⟨rfl,h3,h1⟩]
    ·rw [if_pos h1,if_pos rfl,if_neg h3,if_neg (fun q=>h3 q.2.1)]; rfl
   ·rw [if_pos h1,if_neg h2,if_neg (fun q=>h2 q.1)]; rfl
  ·rw [if_neg h1,if_neg (fun q=>h1 q.2.2)]; rfl
theorem aBm (z:List V) (parts:List (Nat × Nat × eM)):wL T d (.build z parts) fr bl k kw = I4 fr parts fun ps=>ND z ps fun cs=>k (.agg cs):=by
 rw [n6,aBJ,aCz]
 simp only [fP]
 have e1:(parts.map fun x=>match x with | (o,s,x)=>(o,s,dL (lk fr .any) x)) = parts.map fun p=>(p.1,p.2.1,dL (lk fr .any) p.2.2):=rfl
 rw [e1]
 cases IE z (parts.map fun p=>(p.1,p.2.1,dL (lk fr .any) p.2.2)) <;> rfl
theorem aG (ds:List D):(aC ds).length = ds.length:=by simp [aC]
def aJW (bytes:Nat) (a b:V) (x:Nat→Option β):Option β:=match a,b with
 | .d (.int _ n),.d (.int _ m)=>if 0 ≤ n ∧ n ≤ m ∧ (bytes:Int) * m ≤ 281474976710656 ∧ m ≤ 9223372036854775807 then x n.toNat else none
 | _,_=>none
theorem aJv (bytes:Nat) (i j:IntKind) (n m:Int) (x:Nat→Option β):aJW bytes (.d (.int i n)) (.d (.int j m)) x = if 0 ≤ n ∧ n ≤ m ∧ (bytes:Int) * m ≤ 281474976710656 ∧ m ≤ 9223372036854775807 then x n.toNat else none:=rfl
theorem aMk {α:Type} (e size bytes:Nat) (z:List D) (c:α→List D) (x:α) (hz:z = c x) (l cp:eM):wL T d (.makeSlice e size bytes z l cp) fr bl k kw = fI bl d fun b=>s4 b (dU fr l fun a=>dU fr cp fun b=>aJW bytes a b fun n=>kw (.own d 0) [(d,some (.rows 0 e size (cM c (List.replicate n x))))]):=PW e size bytes z c x hz l cp
theorem aDZ {k:Ex→St→Option β} (c:eM) (a b:bB):cP T (.cond c a b) ⟨fr,bl⟩ k = dU fr c fun v=>JM v (cP T a ⟨fr,bl⟩ k) (cP T b ⟨fr,bl⟩ k):=aER c a b _
theorem aGJ (a b c:List (Nat × Option aY)) (t:Nat) (k:Option aY→Option β):fI ((a ++ b) ++ c) t k = fI (a ++ (b ++ c)) t k:=by rw [List.append_assoc]
def U3:List V→Nat→(V→Option β)→Option β→Option β
 | [],_,_,y=>y
 | c :: _,0,x,_=>x c
 | _ :: cs,n + 1,x,y=>U3 cs n x y
theorem aJx (c:V) (cs:List V) (x:V→Option β) (y:Option β):U3 (c :: cs) 0 x y = x c:=rfl
theorem aKh (c:V) (cs:List V) (n:Nat) (x:V→Option β) (y:Option β):U3 (c :: cs) (n + 1) x y = U3 cs n x y:=rfl
theorem aCo (cs:List V) (n:Nat) (b:Option aY) (x:List V→Option β) (y:Option β):aBC (some (.box cs)) n b x y = U3 cs n (fun v=>P2 v b (x cs) y) y:=by
 have:∀ (l:List V) (n:Nat),(match l[n]?,b with | some .nil,none=>x cs | _,_=>y) = U3 l n (fun v=>P2 v b (x cs) y) y:=by
  intro l
  induction l with
  | nil=>intro n; rfl
  | cons c l ih=>intro n; cases n with
   | zero=>cases c <;> cases b <;> rfl
   | succ n=>exact ih n
 exact this cs n
theorem aCb (n:Nat) (b:Option aY) (x:List V→Option β) (y:Option β):aBC none n b x y = y:=rfl
def Y3 (rows:List (List D)) (k:V→Option β):Option β:=k (.d (.int .i64 rows.length))
theorem aGj {α:Type} (c:α→List D) (xs:List α):Y3 (cM c xs) k = k (.d (.int .i64 (xs.length:Int))):=by unfold Y3; rw [aH]
theorem aHd:Y3 [] k = k (.d (.int .i64 0)):=rfl
theorem aGk (x:eM):wL T d (.len x) fr bl k kw = dU fr x fun a=>IG a bl fun rows=>Y3 rows k:=aGO x
def R7 (v:V) (bl:List (Nat × Option aY)) (k:V→List (Nat × Option aY)→Option β) (y:Option β):Option β:=match tF (lk bl none) v with
 | some x=>k (.d x) (G1 (lk bl none) v)
 | none=>y
theorem aJM (x:D) (k:V→List (Nat × Option aY)→Option β) (y:Option β):R7 (.d x) bl k y = k (.d x) []:=rfl
theorem aED (k:V→List (Nat × Option aY)→Option β) (y:Option β):R7 .nil bl k y = k (.d (.sl [])) []:=rfl
theorem aFe (k:V→List (Nat × Option aY)→Option β) (y:Option β):R7 .any bl k y = y:=rfl
def aG7 (id ver:Nat) (b:Option aY) (k:V→List (Nat × Option aY)→Option β) (y:Option β):Option β:=match b with
 | some (.rows v _ _ rows)=>if ver = v then k (.d (.sl rows)) [(id,some (.froz v rows))] else y
 | some (.froz v rows)=>if ver = v then k (.d (.sl rows)) [] else y
 | _=>y
theorem aD5 (id ver:Nat) (k:V→List (Nat × Option aY)→Option β) (y:Option β):R7 (.own id ver) bl k y = fI bl id fun b=>aG7 id ver b k y:=by
 unfold R7 fI aG7
 simp only [tF,G1]
 generalize lk bl none id = b
 cases b with
 | none=>rfl
 | some b=>cases b with
  | rows v e s rows=>simp only; by_cases h:ver = v <;> simp [h]
  | froz v rows=>simp only; by_cases h:ver = v <;> simp [h]
  | _=>rfl
theorem aBo (id v e s:Nat) (rows:List (List D)) (k:V→List (Nat × Option aY)→Option β) (y:Option β):aG7 id v (some (.rows v e s rows)) k y = k (.d (.sl rows)) [(id,some (.froz v rows))]:=if_pos rfl
theorem aBL (id v:Nat) (rows:List (List D)) (k:V→List (Nat × Option aY)→Option β) (y:Option β):aG7 id v (some (.froz v rows)) k y = k (.d (.sl rows)) []:=if_pos rfl
theorem aDi (live keep:List Nat) (t:Nat) (ft:List Nat) (fc:List (Nat × Nat)) (k:List (Nat × V)→List (Nat × Option aY)→Option β) :
  tT ⟨live,keep,[],[],t :: ft,fc⟩ fr bl k = wZ fr t fun v=>R7 v bl (fun v' wr=>tT ⟨live,keep,[],[],ft,fc⟩ ((t,v') :: fr) (wr ++ bl) k) (tT ⟨live,keep,[],[],ft,fc⟩ fr bl k):=by
 unfold tT
 rw [aKg]
 unfold frT wZ R7
 rw [OG,OC]
 dsimp only
 cases tF (lk bl none) (lk fr .any t) <;> rfl
def aEC (n:Nat) (b:Option aY) (bl:List (Nat × Option aY)) (k:List V→List (Nat × Option aY)→Option β) (y:Option β):Option β:=match b with
 | some (.box cs)=>match cs[n]? with
  | some v=>match tF (lk bl none) v with
   | some d=>k (cs.set n (.d d)) (G1 (lk bl none) v)
   | none=>y
  | none=>y
 | _=>y
theorem aE1 (live keep:List Nat) (i n:Nat) (fc:List (Nat × Nat)) (k:List (Nat × V)→List (Nat × Option aY)→Option β) :
  tT ⟨live,keep,[],[],[],(i,n) :: fc⟩ fr bl k = fI bl i fun b=>aEC n b bl (fun cs wr=>tT ⟨live,keep,[],[],[],fc⟩ fr ((i,some (.box cs)) :: (wr ++ bl)) k) (tT ⟨live,keep,[],[],[],fc⟩ fr bl k):=by
 unfold tT
 rw [aJo]
 unfold frC fI aEC
 rw [OC]
 dsimp only
 cases lk bl none i with
 | none=>rfl
 | some b =>
  cases b with
  | box cs =>
   simp only
   cases cs[n]? with
   | none=>rfl
   | some v =>
    simp only
    cases tF (lk bl none) v <;> rfl
  | _=>rfl
theorem aJN (cs:List V) (n:Nat) (w:V) (k:List V→Option β) (h:n < cs.length):z0 cs n w k = k (cs.set n w):=by
 induction cs generalizing n k with
 | nil=>simp at h
 | cons c cs ih=>cases n with
  | zero=>rfl
  | succ n=>simp only [z0,List.set_cons_succ]; rw [ih n _ (by simpa using h)]
theorem aCM (n:Nat) (cs:List V) (k:List V→List (Nat × Option aY)→Option β) (y:Option β):aEC n (some (.box cs)) bl k y = U3 cs n (fun v=>R7 v bl (fun v' wr=>z0 cs n v' fun cs'=>k cs' wr) y) y:=by
 have e:∀ (l:List V) (n:Nat) (x:V→Option β),U3 l n x y = match l[n]? with | some v=>x v | none=>y:=by
  intro l
  induction l with
  | nil=>intro n x; rfl
  | cons c l ih=>intro n x; cases n with
   | zero=>rfl
   | succ n=>exact ih n x
 rw [e]
 simp only [aEC,R7]
 cases h:cs[n]? with
 | none=>rfl
 | some v =>
  simp only
  cases tF (lk bl none) v with
  | none=>rfl
  | some d=>simp only; rw [aJN _ _ _ _ (List.getElem?_eq_some_iff.1 h).1]
theorem aBI (n:Nat) (k:List V→List (Nat × Option aY)→Option β) (y:Option β):aEC n none bl k y = y:=rfl
end
end Vm
end Go.Proofs.Ytfhebiceipgdmaa
set_option linter.unusedVariables false
namespace Go.Proofs.Ytfhebiceipgdmaa
namespace Vm
open Go.RowKit
section
variable {β:Type} {T:FU}
def FY (d:Nat) (op:nS) (fr:List (Nat × V)) (bl:List (Nat × Option aY)) (k:List Nat→Option β):Option β :=
 k ((if op.new = true then [d] else []) ++ ((op.peeks.flatMap fun x=>(dL (lk fr .any) x).ids) ++ op.deeps.flatMap fun x=>(dL (lk fr .any) x).dids (lk bl none)))
def GE (wr:List (Nat × Option aY)) (k:List Nat→Option β):Option β:=k (wr.map (·.1))
theorem aBM (k:List Nat→Option β):GE [] k = k []:=rfl
theorem aFQ (i:Nat) (b:Option aY) (w:List (Nat × Option aY)) (k:List Nat→Option β):GE ((i,b) :: w) k = GE w fun l=>k (i :: l):=rfl
theorem aEZ (w:List (Nat × Option aY)) (k:List Nat→Option β):GE ([] ++ w) k = GE w k:=rfl
theorem aDJ (p:Nat × Option aY) (v w:List (Nat × Option aY)) (k:List Nat→Option β):GE ((p :: v) ++ w) k = GE (p :: (v ++ w)) k:=rfl
theorem aDE (u v w:List (Nat × Option aY)) (k:List Nat→Option β):GE ((u ++ v) ++ w) k = GE (u ++ (v ++ w)) k:=by rw [List.append_assoc]
theorem XF (d:Nat) (op:nS) (l:List cG) (fr:List (Nat × V)) (bl:List (Nat × Option aY)) (fp:List Fp) (k:St→List Fp→Option β) :
  nH T (⟨some d,op,none⟩ :: l) ⟨fr,bl⟩ fp k = wL T d op fr bl (fun v=>FY d op fr bl fun f=>nH T l ⟨(d,v) :: fr,bl⟩ ((f,[]) :: fp) k) (fun v wr=>GE wr fun ws=>FY d op fr bl fun f=>nH T l ⟨(d,v) :: fr,wr ++ bl⟩ ((f,ws) :: fp) k):=by
 rw [OM]
 unfold wL F4 FY
 show (match fP (call T) d (dL (lk fr .any)) (lk bl none) op with | some (v,wr)=>_ | none=>none) = _
 cases fP (call T) d (dL (lk fr .any)) (lk bl none) op with
 | none=>rfl
 | some r=>obtain ⟨v,wr⟩:=r; cases wr <;> rfl
theorem VE (op:nS) (l:List cG) (fr:List (Nat × V)) (bl:List (Nat × Option aY)) (fp:List Fp) (k:St→List Fp→Option β) :
  nH T (⟨none,op,none⟩ :: l) ⟨fr,bl⟩ fp k = wL T 0 op fr bl (fun _=>FY 0 op fr bl fun f=>nH T l ⟨fr,bl⟩ ((f,[]) :: fp) k) (fun _ wr=>GE wr fun ws=>FY 0 op fr bl fun f=>nH T l ⟨fr,wr ++ bl⟩ ((f,ws) :: fp) k):=by
 rw [OM]
 unfold wL F4 FY
 show (match fP (call T) 0 (dL (lk fr .any)) (lk bl none) op with | some (v,wr)=>_ | none=>none) = _
 cases fP (call T) 0 (dL (lk fr .any)) (lk bl none) op with
 | none=>rfl
 | some r=>obtain ⟨v,wr⟩:=r; cases wr <;> rfl
theorem aBE (fr:List (Nat × V)) (bl:List (Nat × Option aY)) (fp:List Fp) (k:St→List Fp→Option β):nH T [] ⟨fr,bl⟩ fp k = k ⟨fr,bl⟩ fp:=rfl
theorem aIk {l:List cG} {ps:List (Nat × Nat)} {s:St} {fp:List Fp} (k:St→Option β) (h:JG l fp.reverse ps = true):aHK l ps k s fp = k s:=if_pos h
theorem DA {d:Option Nat} {g g' : Option (Nat × Bool)} {fr:Nat→V} {bl:Nat→Option aY} {wr:List (Nat × Option aY)} (t:Nat) (b:Bool) (op:nS):wS ⟨d,bN t b op,g⟩ fr bl wr = wS ⟨d,op,g'⟩ fr bl wr:=by
 cases op with
 | pick c x y =>
  cases c with
  | t t' =>
   simp only [bN]
   split <;> rfl
  | c v=>rfl
 | _=>rfl
theorem WT {C:Nat→List D→Option D} {s:St} {t:Nat} {b:Bool} (h:s.get t = .d (.bool b)) (o:cG):kJ C (bM t b o) s = kJ C o s:=by
 obtain ⟨d,op,g⟩:=o
 cases g with
 | some g =>
  obtain ⟨t',w⟩:=g
  simp only [bM]
  split
  ·rename_i e
   subst e
   split
   ·rename_i e
    subst e
    simp only [kJ,cG.wants,h,cG.site,zV h]
    cases w <;> simp only [xV] <;> cases fP C (d.getD 0) (dL s.get) s.blk op <;> first | rfl | (simp [DA (g':=some (t',false)),DA (g':=some (t',true))]; done) | (simp [DA (g':=some (t',false)),DA (g':=some (t',true))]; rfl)
   ·rename_i e
    simp only [kJ,cG.wants,h,cG.site,fP,dL]
    cases w <;> cases b <;> simp_all [xV,wS,nS.new,nS.peeks,nS.deeps]
  ·simp only [kJ,cG.wants,cG.site,zV h]
   cases xV (s.get t') w <;> simp only [] <;> cases fP C (d.getD 0) (dL s.get) s.blk op <;> simp [DA (g':=some (t',w))]
 | none =>
  simp only [bM,kJ,cG.wants,cG.site,zV h]
  cases fP C (d.getD 0) (dL s.get) s.blk op <;> simp [DA (g':=none)]
theorem YD {C:Nat→List D→Option D} {o:cG} {s s' : St} {p:Fp} {t:Nat} (h:¬ o.dst = some t) (e:kJ C o s = some (s',p)):s'.get t = s.get t:=by
 unfold kJ at e
 split at e
 ·split at e
  ·cases e; exact E9 h
  ·cases e
 ·cases e; exact E9 h
 ·cases e
theorem I1 {t:Nat} {b:Bool}:∀ (l:List cG) {s:St} (fp:List Fp) (k:St→List Fp→Option β) (h:s.get t = .d (.bool b)),nH T (bJ t b l) s fp k = nH T l s fp k
 | [],s,fp,k,h=>rfl
 | o :: l,s,fp,k,h=>by
  simp only [bJ,nH,WT h]
  cases e:kJ (call T) o s with
  | none=>rfl
  | some q =>
   obtain ⟨s',p⟩:=q
   simp only
   split
   ·rfl
   ·rename_i hd
    exact I1 l _ k (by rw [YD hd e]; exact h)
noncomputable def EP (T:FU) (v:V) (t:Nat) (l:List cG) (s:St) (fp:List Fp) (k:St→List Fp→Option β):Option β:=match v with
 | .d (.bool b)=>if b = true then nH T (bJ t true l) s fp k else nH T (bJ t false l) s fp k
 | .tup []=>match l with
  | o :: r=>nH T r (s.put o.dst (.tup []) []) (([],[]) :: fp) k
  | []=>none
 | _=>none
theorem TH (d:Option Nat) (op:nS) (t:Nat) (w:Bool) (l:List cG) (fr:List (Nat × V)) (bl:List (Nat × Option aY)) (fp:List Fp) (k:St→List Fp→Option β) :
  nH T (⟨d,op,some (t,w)⟩ :: l) ⟨fr,bl⟩ fp k = wZ fr t fun v=>EP T v t (⟨d,op,some (t,w)⟩ :: l) ⟨fr,bl⟩ fp k:=by
 show _ = EP T (lk fr .any t) t _ _ fp k
 generalize hv:lk fr .any t = v
 have bad:∀ (q:xV v w = .bad),nH T (⟨d,op,some (t,w)⟩ :: l) ⟨fr,bl⟩ fp k = none:=by
  intro q
  simp only [nH,kJ,cG.wants]
  rw [show (St.get ⟨fr,bl⟩ t) = v from hv,q]
 cases v with
 | d x =>
  cases x with
  | bool b =>
   simp only [EP]
   cases b with
   | true=>rw [if_pos rfl,I1 (t:=t) (b:=true) (s:=⟨fr,bl⟩) _ _ _ hv]
   | false=>rw [if_neg (by decide),I1 (t:=t) (b:=false) (s:=⟨fr,bl⟩) _ _ _ hv]
  | _=>exact bad rfl
 | tup vs =>
  cases vs with
  | nil =>
   simp only [EP,nH,kJ,cG.wants]
   rw [show (St.get ⟨fr,bl⟩ t) = _ from hv]
   rfl
  | cons x l=>exact bad rfl
 | _=>exact bad rfl
theorem aBt (b:Bool) (t:Nat) (l:List cG) (s:St) (fp:List Fp) (k:St→List Fp→Option β):EP T (.d (.bool b)) t l s fp k = if b = true then nH T (bJ t true l) s fp k else nH T (bJ t false l) s fp k:=rfl
theorem aCi (t d:Nat) (op:nS) (g:Option (Nat × Bool)) (l:List cG) (fr:List (Nat × V)) (bl:List (Nat × Option aY)) (fp:List Fp) (k:St→List Fp→Option β):EP T (.tup []) t (⟨some d,op,g⟩ :: l) ⟨fr,bl⟩ fp k = nH T l ⟨(d,.tup []) :: fr,bl⟩ (([],[]) :: fp) k:=rfl
theorem YE (t:Nat) (op:nS) (g:Option (Nat × Bool)) (l:List cG) (fr:List (Nat × V)) (bl:List (Nat × Option aY)) (fp:List Fp) (k:St→List Fp→Option β):EP T (.tup []) t (⟨none,op,g⟩ :: l) ⟨fr,bl⟩ fp k = nH T l ⟨fr,bl⟩ (([],[]) :: fp) k:=rfl
theorem pQ {l l' : List cG} {s:St} {fp:List Fp} {k:St→List Fp→Option β} (h:l = l'):nH T l s fp k = nH T l' s fp k:=by rw [h]
theorem aGD (x:D) (ds:List D) (k:D→Option β):cC (x :: ds) 0 k = k x:=rfl
theorem aIb (x:D) (ds:List D) (n:Nat) (k:D→Option β):cC (x :: ds) (n + 1) k = cC ds n k:=rfl
section
variable {d:Nat} {fr:List (Nat × V)} {bl:List (Nat × Option aY)} {k:List Nat→Option β}
def IU (v:V) (k:List Nat→Option β):Option β:=k v.ids
theorem aJs (x:D):IU (.d x) k = k []:=rfl
theorem aDS:IU .nil k = k []:=rfl
theorem aC6:IU .any k = k []:=rfl
theorem aEL (i o:Nat):IU (.ptr i o) k = k [i]:=rfl
theorem aDq (i o:Nat):IU (.own i o) k = k [i]:=rfl
theorem aAh (i v j o:Nat):IU (.orow i v j o) k = k [i]:=rfl
def xA (bl:List (Nat × Option aY)):List V→(List Nat→Option β)→Option β
 | [],k=>k []
 | c :: cs,k=>k (c.dids1 (lk bl none) ++ cs.flatMap (V.dids1 (lk bl none)))
def AZ (bl:List (Nat × Option aY)) (v:V) (k:List Nat→Option β):Option β:=k (v.dids (lk bl none))
theorem zW (cs:List V):xA bl cs k = k (cs.flatMap (V.dids1 (lk bl none))):=by cases cs <;> rfl
theorem YG:xA bl [] k = k []:=rfl
theorem aDF (x:D) (cs:List V):xA bl (.d x :: cs) k = xA bl cs k:=by simp only [zW]; rfl
theorem aCK (cs:List V):xA bl (.nil :: cs) k = xA bl cs k:=by simp only [zW]; rfl
theorem V4 (cs:List V):xA bl (.any :: cs) k = xA bl cs k:=by simp only [zW]; rfl
theorem VL (i o:Nat) (cs:List V):xA bl (.own i o :: cs) k = xA bl cs fun l=>k (i :: l):=by simp only [zW]; rfl
theorem aFI (x:D):AZ bl (.d x) k = k []:=rfl
theorem aBw:AZ bl .nil k = k []:=rfl
theorem aAk (i o:Nat):AZ bl (.own i o) k = k [i]:=rfl
theorem aBs (cs:List V):AZ bl (.agg cs) k = xA bl cs k:=by rw [zW]; rfl
theorem UN (ds:List D):(aC ds).flatMap (V.dids1 (lk bl none)) = []:=by
 induction ds with
 | nil=>rfl
 | cons x ds ih=>exact ih
theorem X8 (ds:List D):AZ bl (cO ds) k = k []:=by
 show k ((aC ds).flatMap (V.dids1 (lk bl none))) = _
 rw [UN]
theorem TP (ds:List D):(aC ds).flatMap V.ids1 = []:=by
 induction ds with
 | nil=>rfl
 | cons x ds ih=>exact ih
def wW:List V→(List Nat→Option β)→Option β
 | [],k=>k []
 | c :: cs,k=>k (c.ids1 ++ cs.flatMap V.ids1)
theorem zS (cs:List V):wW cs k = k (cs.flatMap V.ids1):=by cases cs <;> rfl
theorem X7:wW [] k = k []:=rfl
theorem aC2 (x:D) (cs:List V):wW (.d x :: cs) k = wW cs k:=by simp only [zS]; rfl
theorem aCX (cs:List V):wW (.nil :: cs) k = wW cs k:=by simp only [zS]; rfl
theorem X1 (cs:List V):wW (.any :: cs) k = wW cs k:=by simp only [zS]; rfl
theorem VN (i o:Nat) (cs:List V):wW (.own i o :: cs) k = wW cs fun l=>k (i :: l):=by simp only [zS]; rfl
theorem XB (i o:Nat) (cs:List V):wW (.ptr i o :: cs) k = wW cs fun l=>k (i :: l):=by simp only [zS]; rfl
def QU (b:Option aY) (k:List Nat→Option β):Option β:=match b with
 | some (.box cs)=>k (cs.flatMap V.ids1)
 | _=>k []
theorem aBn (c:V) (cs:List V):QU (some (.box (c :: cs))) k = wW (c :: cs) k:=by rw [zS]; rfl
theorem Q3 (ds:List D):QU (some (.box (aC ds))) k = k []:=by
 show k ((aC ds).flatMap V.ids1) = _
 rw [TP]
theorem WC (ds:List D):QU (some (.fbox ds)) k = k []:=rfl
theorem VV:QU none k = k []:=rfl
theorem aEq (i o:Nat):(V.ptr i o).dids1 (lk bl none) = i :: (match lk bl none i with | some (.box cs)=>cs.flatMap V.ids1 | _=>[]):=rfl
theorem aBV (i o:Nat):AZ bl (.ptr i o) k = fI bl i fun b=>QU b fun l=>k (i :: l):=by
 unfold AZ fI QU
 show k ((V.ptr i o).dids1 (lk bl none)) = _
 rw [aEq]
 cases lk bl none i with
 | none=>rfl
 | some b=>cases b <;> rfl
theorem V3 (i o:Nat) (cs:List V):xA bl (.ptr i o :: cs) k = AZ bl (.ptr i o) fun m=>xA bl cs fun l=>k (m ++ l):=by simp only [zW]; rfl
theorem aDt:FY d .fail fr bl k = k []:=rfl
theorem aEj (x:eM):FY d (.move x) fr bl k = k []:=rfl
theorem aDH (a b c:eM):FY d (.pick a b c) fr bl k = k []:=rfl
theorem aAO (z:List V):FY d (.alloc z) fr bl k = k [d]:=rfl
theorem aHs (x:eM):FY d (.box x) fr bl k = k [d]:=rfl
theorem aBK (z:List V) (ps:List (Nat × Nat × eM)):FY d (.build z ps) fr bl k = k []:=rfl
theorem PR (e s b:Nat) (z:List D) (x y:eM):FY d (.makeSlice e s b z x y) fr bl k = k [d]:=rfl
theorem fp1 (l:List Nat):([]:List Nat) ++ ((l ++ []) ++ []) = l:=by simp
theorem aCr (s:Nat) (a:Bool) (x:eM):FY d (.load s a x) fr bl k = dU fr x fun v=>IU v k:=by
 show k ([] ++ (((dL (lk fr .any) x).ids ++ []) ++ [])) = _
 rw [fp1]; rfl
theorem RV (x:eM):FY d (.nilCheck x) fr bl k = dU fr x fun v=>IU v k:=by
 show k ([] ++ (((dL (lk fr .any) x).ids ++ []) ++ [])) = _
 rw [fp1]; rfl
theorem PH (o:Nat) (x:eM):FY d (.fieldAddr o x) fr bl k = dU fr x fun v=>IU v k:=by
 show k ([] ++ (((dL (lk fr .any) x).ids ++ []) ++ [])) = _
 rw [fp1]; rfl
theorem aIc (x:eM):FY d (.len x) fr bl k = dU fr x fun v=>IU v k:=by
 show k ([] ++ (((dL (lk fr .any) x).ids ++ []) ++ [])) = _
 rw [fp1]; rfl
theorem aAQ (s:Nat) (x:eM) (lo hi:Option eM):FY d (.slice s x lo hi) fr bl k = dU fr x fun v=>IU v k:=by
 show k ([] ++ (((dL (lk fr .any) x).ids ++ []) ++ [])) = _
 rw [fp1]; rfl
theorem PC (s:Nat) (x i:eM):FY d (.indexAddr s x i) fr bl k = dU fr x fun v=>IU v k:=by
 show k ([] ++ (((dL (lk fr .any) x).ids ++ []) ++ [])) = _
 rw [fp1]; rfl
theorem aBq (s:Nat) (x v:eM):FY d (.store s x v) fr bl k = dU fr x fun a=>IU a fun l=>dU fr v fun b=>AZ bl b fun m=>k (l ++ m):=by
 show k ([] ++ (((dL (lk fr .any) x).ids ++ []) ++ ((dL (lk fr .any) v).dids (lk bl none) ++ []))) = _
 rw [List.nil_append,List.append_nil,List.append_nil]; rfl
theorem XW (e s b:Nat) (x y:eM):FY d (.append e s b x y) fr bl k = dU fr x fun u=>IU u fun l=>dU fr y fun v=>IU v fun m=>k (d :: (l ++ m)):=by
 show k ([d] ++ (((dL (lk fr .any) x).ids ++ ((dL (lk fr .any) y).ids ++ [])) ++ [])) = _
 rw [List.append_nil,List.append_nil]; rfl
def FG (fr:List (Nat × V)) (bl:List (Nat × Option aY)):List eM→(List Nat→Option β)→Option β
 | [],k=>k []
 | x :: l,k=>dU fr x fun v=>AZ bl v fun m=>FG fr bl l fun n=>k (m ++ n)
theorem LR (l:List eM):∀ (k:List Nat→Option β),FG fr bl l k = k (l.flatMap fun x=>(dL (lk fr .any) x).dids (lk bl none)):=by
 induction l with
 | nil=>intro k; rfl
 | cons x l ih=>intro k; simp only [FG,dU,AZ,ih,List.flatMap_cons]
theorem WG (k:List Nat→Option β):FG fr bl [] k = k []:=rfl
theorem VD (x:eM) (l:List eM) (k:List Nat→Option β):FG fr bl (x :: l) k = dU fr x fun v=>AZ bl v fun m=>FG fr bl l fun n=>k (m ++ n):=rfl
theorem aCR (f:Nat) (args:List eM):FY d (.call f args) fr bl k = FG fr bl args k:=by
 rw [LR]; rfl
theorem aEI (f:Nat) (args:List eM):FY d (.mkfn f args) fr bl k = FG fr bl args k:=by
 rw [LR]; rfl
theorem aBr (g:eM) (args:List eM):FY d (.callv g args) fr bl k = FG fr bl args k:=by
 rw [LR]; rfl
def IX (fr:List (Nat × V)) (bl:List (Nat × Option aY)):List (Nat × eM)→(List Nat→Option β)→Option β
 | [],k=>k []
 | (_,x) :: l,k=>dU fr x fun v=>AZ bl v fun m=>IX fr bl l fun n=>k (m ++ n)
theorem aAo (l:List (Nat × eM)):∀ (k:List Nat→Option β),IX fr bl l k = k ((l.map fun p=>p.2).flatMap fun x=>(dL (lk fr .any) x).dids (lk bl none)):=by
 induction l with
 | nil=>intro k; rfl
 | cons x l ih=>intro k; obtain ⟨i,x⟩:=x; simp only [IX,dU,AZ,ih,List.map_cons,List.flatMap_cons]
theorem XX (k:List Nat→Option β):IX fr bl [] k = k []:=rfl
theorem TY (i:Nat) (x:eM) (l:List (Nat × eM)) (k:List Nat→Option β):IX fr bl ((i,x) :: l) k = dU fr x fun v=>AZ bl v fun m=>IX fr bl l fun n=>k (m ++ n):=rfl
theorem NL (e s n:Nat) (z:List D) (ps:List (Nat × eM)):FY d (.buildSlice e s z n ps) fr bl k = IX fr bl ps fun l=>k (d :: l):=by
 rw [aAo]; rfl
theorem aFo (c:Nat) (op:BinOp) (x y:eM):FY d (.bin c op x y) fr bl k = k []:=rfl
theorem aHB (ks:List Nat) (n:Bool) (x y:eM):FY d (.eqS ks n x y) fr bl k = k []:=rfl
theorem aJB (op:UnOp) (x:eM):FY d (.un op x) fr bl k = k []:=rfl
theorem aCA (kd:IntKind) (x:eM):FY d (.conv kd x) fr bl k = k []:=rfl
theorem SD (x:eM) (lo hi:Option eM):FY d (.strSlice x lo hi) fr bl k = k []:=rfl
theorem aBW (o s:Nat) (a:Bool) (x:eM):FY d (.field o s a x) fr bl k = k []:=rfl
theorem aCf (x i:eM):FY d (.index x i) fr bl k = k []:=rfl
theorem aCt (x:eM):FY d (.lenS x) fr bl k = k []:=rfl
theorem aGP (l:List eM):FY d (.max l) fr bl k = k []:=rfl
theorem aGF (l:List eM):FY d (.min l) fr bl k = k []:=rfl
theorem aAZ (x:eM):FY d (.bytes x) fr bl k = k []:=rfl
theorem TS (x:eM) (i:Nat):FY d (.extract x i) fr bl k = k []:=rfl
theorem aCW {k:Ex→St→Option β} (l:List cG) (ps:List (Nat × Nat)):cP T (.region l (some ps)) ⟨fr,bl⟩ k = nH T l ⟨fr,bl⟩ [] (aHK l ps (k .normal)):=by
 rw [aCF,aGK]
end
section
variable {d:Nat} {fr:List (Nat × V)} {bl:List (Nat × Option aY)} {k:V→Option β} {kw:V→List (Nat × Option aY)→Option β}
theorem aJz (a b c:List (Nat × Option aY)) (v:V):LK ((a ++ b) ++ c) v k kw = LK (a ++ (b ++ c)) v k kw:=by rw [List.append_assoc]
def fzN (id:Nat) (f:List (Nat × Option aY)) (x:Option β):Option β:=if B0 id f = true then x else none
theorem QQ (id:Nat) (b:List (Nat × Option aY)):∀ a:List (Nat × Option aY),B0 id (a ++ b) = if B0 id a = true then B0 id b else false
 | []=>rfl
 | (i,x) :: a=>by
  simp only [List.cons_append,B0]
  by_cases h:i = id
  ·simp [h]
  ·simp only [if_neg h]; exact QQ id b a
theorem aIo (id:Nat) (x:Option β):fzN id [] x = x:=rfl
theorem aL1 (id i:Nat) (b:Option aY) (w:List (Nat × Option aY)) (x:Option β) (h:(i == id) = false):fzN id ((i,b) :: w) x = fzN id w x:=by
 have h:¬ i = id:=by simpa using h
 simp only [fzN,B0,if_neg h]
theorem aFs (id:Nat) (a b:List (Nat × Option aY)) (x:Option β):fzN id (a ++ b) x = fzN id a (fzN id b x):=by
 unfold fzN
 rw [QQ]
 by_cases h:B0 id a = true
 ·rw [if_pos h,if_pos h]
 ·rw [if_neg h,if_neg h]; rfl
def bT (row:List D) (off:Nat) (ds:List D) (size:Nat) (k:List D→Option β):Option β:=if ds.length = size ∧ off + size ≤ row.length then k (iU row off ds) else none
theorem RZ (c:D) (cs:List D) (off:Nat) (e:D) (ds:List D) (n:Nat) (k:List D→Option β):bT (c :: cs) (off + 1) (e :: ds) n k = bT cs off (e :: ds) n fun l=>k (c :: l):=by
 unfold bT
 simp only [List.length_cons,iU]
 by_cases h:ds.length + 1 = n ∧ off + n ≤ cs.length
 ·exact (if_pos (by omega)).trans (if_pos h).symm
 ·exact (if_neg (by omega)).trans (if_neg h).symm
theorem UE (c:D) (cs:List D) (e:D) (ds:List D) (n:Nat) (k:List D→Option β):bT (c :: cs) 0 (e :: ds) (n + 1) k = bT cs 0 ds n fun l=>k (e :: l):=by
 unfold bT
 simp only [List.length_cons,iU]
 by_cases h:ds.length = n ∧ 0 + n ≤ cs.length
 ·exact (if_pos (by omega)).trans (if_pos h).symm
 ·exact (if_neg (by omega)).trans (if_neg h).symm
theorem SY (cs:List D) (k:List D→Option β):bT cs 0 [] 0 k = k cs:=by
 unfold bT
 rw [if_pos ⟨rfl,by omega⟩,QA]
def G0 (e:Nat) (rows:List (List D)) (i:Nat) (row:List D) (k:List (List D)→Option β):Option β:=k (rows.set i row)
theorem N0 {α:Type} (e:Nat) (c:α→List D) (xs:List α) (i:Nat) (x:α) (k:List (List D)→Option β):G0 e (cM c xs) i (c x) k = k (cM c (xs.set i x)):=by
 unfold G0
 rw [aJ6]
theorem aHG {α:Type} (size v i off id e sz:Nat) (w:V) (c:α→List D) (xs:List α):KF size v i off id w bl (some (.rows v e sz (cM c xs))) kw = M0 w bl fun ds f=>fzN id f (xs[i]?.bind fun x=>bT (c x) off ds size fun row=>G0 e (cM c xs) i row fun rows=>kw .any ((id,some (.rows v e sz rows)) :: f)):=by
 unfold KF M0
 simp only [M9,if_true,cM,List.getElem?_map]
 cases xs[i]? with
 | none =>
  simp only [Option.map_none,Option.bind_none]
  cases bY (m8 (lk bl none)) w.cells with
  | none=>rfl
  | some ds=>simp only [fzN]; split <;> rfl
 | some x =>
  simp only [Option.map_some,Option.bind_some]
  cases bY (m8 (lk bl none)) w.cells with
  | none=>rfl
  | some ds =>
   simp only [bT,G0,fzN]
   by_cases h1:B0 id (yB (lk bl none) w) = true
   ·rw [if_pos h1]
    by_cases h2:ds.length = size ∧ off + size ≤ (c x).length
    ·rw [if_pos h2,if_pos ⟨h2.1,h2.2,h1⟩]; rfl
    ·rw [if_neg h2,if_neg (fun q=>h2 ⟨q.1,q.2.1⟩)]; rfl
   ·rw [if_neg h1,if_neg (fun q=>h1 q.2.2)]; rfl
end
end
section
variable {β:Type} {T:FU} {bl:List (Nat × Option aY)} {k:V→Option β} {kw:V→List (Nat × Option aY)→Option β}
def uH (size id ver:Nat) (lo hi:Option V) (b:Option aY) (k:V→Option β) (kw:V→List (Nat × Option aY)→Option β):Option β:=J4 (vX (fun _=>b) size (.own id ver) lo hi) k kw
theorem VS (size id ver:Nat) (lo hi:Option V):E6 size (.own id ver) lo hi bl k kw = fI bl id fun b=>uH size id ver lo hi b k kw:=by
 unfold E6 fI uH
 congr 1
 cases lo with
 | none=>cases hi with
  | none=>rfl
  | some h=>cases h with
   | d x=>cases x <;> rfl
   | _=>rfl
 | some l=>rfl
theorem vC {α:Type} (size id v:Nat) (c:α→List D) (xs:List α) (hs:sized size (cM c xs) = true) (b:aY) (wr:List (Nat × Option aY)) (lo hi:Option V) (l h:Int) (hl:C4 lo 0 = some l) (hh:C4 hi (xs.length:Int) = some h)
  (hb:kI (fun _=>some b) (.own id v) = some (cM c xs)) (hw:F6 (fun _=>some b) (.own id v) = wr) (hn:lo = none→hi = none) :
  uH size id v lo hi (some b) k kw = if kM xs.length l h then J4 (some (.d (.sl (cM c (dX xs l h))),wr)) k kw else none:=by
 have e0:vX (fun _=>some b) size (.own id v) lo hi = (match C4 hi ((cM c xs).length:Int),C4 lo 0 with
   | some h,some l=>if 0 ≤ l ∧ l ≤ h ∧ h.toNat ≤ (cM c xs).length ∧ sized size (cM c xs) = true then some (.d (.sl (((cM c xs).take h.toNat).drop l.toNat)),wr) else none
   | _,_=>none):=by
  cases lo with
  | none =>
   obtain rfl:=hn rfl
   unfold vX
   simp only [hb,hw]
   rfl
  | some w =>
   unfold vX
   simp only [hb,hw]
   rfl
 unfold uH
 rw [e0,show ((cM c xs).length:Int) = (xs.length:Int) by simp [cM],hl,hh]
 simp only [show (cM c xs).length = xs.length by simp [cM]]
 by_cases q:kM xs.length l h
 ·rw [if_pos q,if_pos ⟨q.1,q.2.1,q.2.2,hs⟩]
  simp only [cM,dX,List.map_drop,List.map_take]
 ·rw [if_neg q,if_neg (fun w=>q ⟨w.1,w.2.1,w.2.2.1⟩)]; rfl
section
variable {α:Type} (size id v:Nat) (c:α→List D) (xs:List α) (hs:sized size (cM c xs) = true)
include hs
theorem WL (e s:Nat) (kd:IntKind) (l:Int):uH size id v (some (.d (.int kd l))) none (some (.rows v e s (cM c xs))) k kw = if kM xs.length l (xs.length:Int) then kw (.d (.sl (cM c (dX xs l (xs.length:Int))))) [(id,some (.froz v (cM c xs)))] else none :=
 vC size id v c xs hs _ _ _ _ _ _ rfl rfl (by simp [kI]) rfl (fun h=>by cases h)
theorem YC (e s:Nat) (kd kd' : IntKind) (l h:Int):uH size id v (some (.d (.int kd l))) (some (.d (.int kd' h))) (some (.rows v e s (cM c xs))) k kw = if kM xs.length l h then kw (.d (.sl (cM c (dX xs l h)))) [(id,some (.froz v (cM c xs)))] else none :=
 vC size id v c xs hs _ _ _ _ _ _ rfl rfl (by simp [kI]) rfl (fun h=>by cases h)
theorem VZ (e s:Nat):uH size id v none none (some (.rows v e s (cM c xs))) k kw = if kM xs.length 0 (xs.length:Int) then kw (.d (.sl (cM c (dX xs 0 (xs.length:Int))))) [(id,some (.froz v (cM c xs)))] else none :=
 vC size id v c xs hs _ _ _ _ _ _ rfl rfl (by simp [kI]) rfl (fun _=>rfl)
theorem VQ (kd:IntKind) (l:Int):uH size id v (some (.d (.int kd l))) none (some (.froz v (cM c xs))) k kw = if kM xs.length l (xs.length:Int) then k (.d (.sl (cM c (dX xs l (xs.length:Int))))) else none :=
 vC size id v c xs hs _ _ _ _ _ _ rfl rfl (by simp [kI]) rfl (fun h=>by cases h)
theorem YO (kd kd' : IntKind) (l h:Int):uH size id v (some (.d (.int kd l))) (some (.d (.int kd' h))) (some (.froz v (cM c xs))) k kw = if kM xs.length l h then k (.d (.sl (cM c (dX xs l h)))) else none :=
 vC size id v c xs hs _ _ _ _ _ _ rfl rfl (by simp [kI]) rfl (fun h=>by cases h)
theorem XT:uH size id v none none (some (.froz v (cM c xs))) k kw = if kM xs.length 0 (xs.length:Int) then k (.d (.sl (cM c (dX xs 0 (xs.length:Int))))) else none :=
 vC size id v c xs hs _ _ _ _ _ _ rfl rfl (by simp [kI]) rfl (fun _=>rfl)
end
theorem YS {α:Type} (size id v e s:Nat) (c:α→List D) (xs:List α) (kd:IntKind) (h:Int):uH size id v none (some (.d (.int kd h))) (some (.rows v e s (cM c xs))) k kw = if 0 ≤ h ∧ h.toNat ≤ xs.length then kw (.own id (v + 1)) [(id,some (.rows (v + 1) e s (cM c (xs.take h.toNat))))] else none:=by
 unfold uH vX
 simp only [cM,List.length_map,true_and,List.map_take]
 split <;> rfl
end
end Vm
end Go.Proofs.Ytfhebiceipgdmaa
