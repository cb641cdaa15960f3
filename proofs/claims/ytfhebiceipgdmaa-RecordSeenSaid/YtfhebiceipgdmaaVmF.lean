/- The small machine, read from the front: slices that are laid out, calls, masks, answers. The small machine, read from the front: regions whose order is drawn. The small machine, read from the front: slices that are lent, cut, cleared. -/
import Derived.Test.YtfhebiceipgdmaaVmE
set_option linter.unusedVariables false
set_option linter.unusedSimpArgs false
namespace Go.Proofs.Ytfhebiceipgdmaa
theorem zA.{u} {α:Type u} {a:α} {l:List α}:(a::l).length = l.length + 1:=rfl
theorem zB.{u} {α:Type u}:([]:List α).length = 0:=rfl
theorem zC:(!true) = false:=rfl
theorem zD:(!false) = true:=rfl
theorem zE.{u} {α:Type u} {n:Nat} {a:α}:List.replicate (n + 1) a = a::List.replicate n a:=rfl
theorem zF.{u} {α:Type u} {a:α}:List.replicate 0 a = []:=rfl
theorem zG.{u,v} {α:Type u} {β:Type v} (a:α) (f:α→Option β):(some a).bind f = f a:=rfl
theorem zH.{u,v} {α:Type u} {β:Type v} (a:α) (f:α→β):(some a).map f = some (f a):=rfl
theorem zI.{u,v} {α:Type u} {β:Type v} (f:α→β):(none:Option α).map f = none:=rfl
theorem zJ.{u,v,w} {α:Type u} {β:Type v} {γ:Sort w} (f:α→γ) (g:β→γ) (x:α):Sum.elim f g (Sum.inl x) = f x:=rfl
theorem zK.{u,v,w} {α:Type u} {β:Type v} {γ:Sort w} (f:α→γ) (g:β→γ) (x:β):Sum.elim f g (Sum.inr x) = g x:=rfl
theorem zL.{u,v,w} {α:Type u} {β:Type v} {γ:Type w} (x:Option α) (f:α→Option β) (g:β→Option γ):(x.bind f).bind g = x.bind fun y=>(f y).bind g:=Option.bind_assoc x f g
theorem zM.{u} {α:Type u} [BEq α] [ReflBEq α] (a:α):(a == a) = true:=beq_self_eq_true a
theorem zN:(¬False) = True:=not_false_eq_true
namespace Vm
open Go.RowKit
section
variable {β:Type} {T:AC} {d:Nat} {fr:List (Nat × V)} {bl:List (Nat × Option aX)} {k:V→Option β} {kw:V→List (Nat × Option aX)→Option β}
def uH (bl:List (Nat × Option aX)):List V→(List D→List (Nat × Option aX)→Option β)→Option β
 | [],k=>k [] []
 | v :: cs,k=>(j9 (lk bl none) v).bind fun x=>uH bl cs fun ds f=>k (x :: ds) (BU (lk bl none) v ++ f)
theorem QJ (cs:List V) (k:List D→List (Nat × Option aX)→Option β):uH bl cs k = (bI (j9 (lk bl none)) cs).bind fun ds=>k ds (cs.flatMap (BU (lk bl none))):=by
 induction cs generalizing k with
 | nil=>rfl
 | cons v cs ih =>
  simp only [uH,bI,ih,List.flatMap_cons]
  cases j9 (lk bl none) v with
  | none=>rfl
  | some x=>cases bI (j9 (lk bl none)) cs <;> rfl
def RZ (v:V) (bl:List (Nat × Option aX)) (k:D→List (Nat × Option aX)→Option β):Option β:=(j9 (lk bl none) v).bind fun x=>k x (BU (lk bl none) v)
theorem aKx (x:D) (k:D→List (Nat × Option aX)→Option β):RZ (.d x) bl k = k x []:=rfl
theorem aEM (k:D→List (Nat × Option aX)→Option β):RZ .nil bl k = k (.sl []) []:=rfl
def d1B (id ver:Nat) (b:Option aX) (k:D→List (Nat × Option aX)→Option β):Option β:=match b with
 | some (.rows v _ _ rows)=>if ver = v then k (.sl rows) [(id,some (.froz v rows))] else none
 | some (.froz v rows)=>if ver = v then k (.sl rows) [] else none
 | _=>none
theorem aD6 (id ver:Nat) (k:D→List (Nat × Option aX)→Option β):RZ (.own id ver) bl k = eD bl id fun b=>d1B id ver b k:=by
 unfold RZ eD d1B
 simp only [j9,BU,pI,CO]
 generalize lk bl none id = b
 cases b with
 | none=>rfl
 | some b=>cases b with
  | rows v e s rows=>simp only; by_cases h:ver = v <;> simp [h]
  | froz v rows=>simp only; by_cases h:ver = v <;> simp [h]
  | _=>rfl
theorem aDd (id v e s:Nat) (rows:List (List D)) (k:D→List (Nat × Option aX)→Option β):d1B id v (some (.rows v e s rows)) k = k (.sl rows) [(id,some (.froz v rows))]:=if_pos rfl
theorem aB1 (id v:Nat) (rows:List (List D)) (k:D→List (Nat × Option aX)→Option β):d1B id v (some (.froz v rows)) k = k (.sl rows) []:=if_pos rfl
def pN (bl:List (Nat × Option aX)):List V→(List D→List (Nat × Option aX)→Option β)→Option β
 | [],k=>k [] []
 | v :: cs,k=>(pI (lk bl none) v).bind fun x=>pN bl cs fun ds f=>k (x :: ds) (CO (lk bl none) v ++ f)
theorem XY (cs:List V) (k:List D→List (Nat × Option aX)→Option β):pN bl cs k = (bI (pI (lk bl none)) cs).bind fun ds=>k ds (cs.flatMap (CO (lk bl none))):=by
 induction cs generalizing k with
 | nil=>rfl
 | cons v cs ih =>
  simp only [pN,bI,ih,List.flatMap_cons]
  cases pI (lk bl none) v with
  | none=>rfl
  | some x=>cases bI (pI (lk bl none)) cs <;> rfl
theorem UI (k:List D→List (Nat × Option aX)→Option β):pN bl [] k = k [] []:=rfl
theorem aDs (x:D) (cs:List V) (k:List D→List (Nat × Option aX)→Option β):pN bl (.d x :: cs) k = pN bl cs fun ds f=>k (x :: ds) f:=rfl
theorem aC5 (cs:List V) (k:List D→List (Nat × Option aX)→Option β):pN bl (.nil :: cs) k = pN bl cs fun ds f=>k (.sl [] :: ds) f:=rfl
theorem U2 (id ver:Nat) (cs:List V) (k:List D→List (Nat × Option aX)→Option β):pN bl (.own id ver :: cs) k = RZ (.own id ver) bl fun x g=>pN bl cs fun ds f=>k (x :: ds) (g ++ f):=rfl
theorem DS (ds:List D) (k:List D→List (Nat × Option aX)→Option β):pN bl (aC ds) k = k ds []:=by
 have:∀ (ds:List D) (k:List D→List (Nat × Option aX)→Option β),pN bl (aC ds) k = k ds []:=by
  intro ds
  induction ds with
  | nil=>intro k; rfl
  | cons x ds ih=>intro k; show pN bl (aC ds) _ = _; rw [ih]; rfl
 exact this ds k
def d1P (id off:Nat) (b:Option aX) (bl:List (Nat × Option aX)) (k:D→List (Nat × Option aX)→Option β):Option β:=match b with
 | some (.box cs)=>pN bl cs fun ds f=>k (.ptr ds off) ((id,some (.fbox ds)) :: f)
 | some (.fbox ds)=>k (.ptr ds off) []
 | _=>none
theorem aEy (id off:Nat) (k:D→List (Nat × Option aX)→Option β):RZ (.ptr id off) bl k = eD bl id fun b=>d1P id off b bl k:=by
 unfold RZ eD d1P
 simp only [j9,BU]
 cases lk bl none id with
 | none=>rfl
 | some b=>cases b with
  | box cs =>
   simp only [XY]
   cases bI (pI (lk bl none)) cs <;> rfl
  | _=>rfl
theorem aF1 (id off:Nat) (c:V) (cs:List V) (k:D→List (Nat × Option aX)→Option β):d1P id off (some (.box (c :: cs))) bl k = pN bl (c :: cs) fun ds f=>k (.ptr ds off) ((id,some (.fbox ds)) :: f):=rfl
theorem UD (id off:Nat) (ds:List D) (k:D→List (Nat × Option aX)→Option β):d1P id off (some (.box (aC ds))) bl k = k (.ptr ds off) [(id,some (.fbox ds))]:=by
 show pN bl (aC ds) _ = _
 rw [DS]
theorem aDh (id off:Nat) (ds:List D) (k:D→List (Nat × Option aX)→Option β):d1P id off (some (.fbox ds)) bl k = k (.ptr ds off) []:=rfl
theorem aAn (id off:Nat) (cs:List V) (k:List D→List (Nat × Option aX)→Option β):uH bl (.ptr id off :: cs) k = RZ (.ptr id off) bl fun x g=>uH bl cs fun ds f=>k (x :: ds) (g ++ f):=rfl
theorem ZS (k:List D→List (Nat × Option aX)→Option β):uH bl [] k = k [] []:=rfl
theorem aEg (x:D) (cs:List V) (k:List D→List (Nat × Option aX)→Option β):uH bl (.d x :: cs) k = uH bl cs fun ds f=>k (x :: ds) f:=rfl
theorem aEK (cs:List V) (k:List D→List (Nat × Option aX)→Option β):uH bl (.nil :: cs) k = uH bl cs fun ds f=>k (.sl [] :: ds) f:=rfl
theorem Z7 (id ver:Nat) (cs:List V) (k:List D→List (Nat × Option aX)→Option β):uH bl (.own id ver :: cs) k = RZ (.own id ver) bl fun x g=>uH bl cs fun ds f=>k (x :: ds) (g ++ f):=rfl
theorem A4 (ds:List D) (k:List D→List (Nat × Option aX)→Option β):uH bl (aC ds) k = k ds []:=by
 have:∀ (ds:List D) (k:List D→List (Nat × Option aX)→Option β),uH bl (aC ds) k = k ds []:=by
  intro ds
  induction ds with
  | nil=>intro k; rfl
  | cons x ds ih=>intro k; show uH bl (aC ds) _ = _; rw [ih]; rfl
 exact this ds k
def wZ (v:V) (bl:List (Nat × Option aX)) (k:D→List (Nat × Option aX)→Option β):Option β:=(iX (lk bl none) v).bind fun x=>k x (sC (lk bl none) v)
theorem aHI (x:D) (k:D→List (Nat × Option aX)→Option β):wZ (.d x) bl k = k x []:=rfl
theorem aCu (k:D→List (Nat × Option aX)→Option β):wZ .nil bl k = k (.sl []) []:=rfl
theorem aBe (id ver:Nat) (k:D→List (Nat × Option aX)→Option β):wZ (.own id ver) bl k = RZ (.own id ver) bl k:=rfl
theorem aB6 (id off:Nat) (k:D→List (Nat × Option aX)→Option β):wZ (.ptr id off) bl k = RZ (.ptr id off) bl k:=rfl
theorem RA (cs:List V) (k:D→List (Nat × Option aX)→Option β):wZ (.agg cs) bl k = uH bl cs fun ds f=>k (.agg ds) f:=by
 rw [QJ]
 show ((bI (j9 (lk bl none)) cs).map D.agg).bind _ = _
 cases bI (j9 (lk bl none)) cs <;> rfl
theorem aAj (ds:List D) (k:D→List (Nat × Option aX)→Option β):wZ (cW ds) bl k = k (.agg ds) []:=by
 show wZ (.agg (aC ds)) bl k = _
 rw [RA,A4]
theorem aIv (x:D) (k:List D→List (Nat × Option aX)→Option β):IL (.d x) bl k = k [x] []:=rfl
theorem PD (cs:List V) (k:List D→List (Nat × Option aX)→Option β):IL (.agg cs) bl k = uH bl cs k:=by
 rw [QJ]
 show (match bI (j9 (lk bl none)) cs with | some row=>k row (cs.flatMap (BU (lk bl none))) | none=>none) = _
 cases bI (j9 (lk bl none)) cs <;> rfl
theorem aAd (ds:List D) (k:List D→List (Nat × Option aX)→Option β):IL (cW ds) bl k = k ds []:=by
 show IL (.agg (aC ds)) bl k = _
 rw [PD,A4]
theorem aBU (k:List D→List (Nat × Option aX)→Option β):IL .nil bl k = k [.sl []] []:=rfl
theorem aCH (id ver:Nat) (k:List D→List (Nat × Option aX)→Option β):IL (.own id ver) bl k = RZ (.own id ver) bl fun x f=>k [x] f:=by
 unfold IL RZ
 show (match bI (j9 (lk bl none)) [.own id ver] with | some row=>k row (BU (lk bl none) (.own id ver)) | none=>none) = _
 simp only [bI]
 cases j9 (lk bl none) (.own id ver) <;> rfl
def Q7 (rs:List (List D)) (i:Nat) (row:List D) (k:List (List D)→Option β):Option β:=if i < rs.length then k (rs.set i row) else none
theorem aIW (r:List D) (rs:List (List D)) (row:List D) (k:List (List D)→Option β):Q7 (r :: rs) 0 row k = k (row :: rs):=by simp [Q7]
theorem aHD (r:List D) (rs:List (List D)) (i:Nat) (row:List D) (k:List (List D)→Option β):Q7 (r :: rs) (i + 1) row k = Q7 rs i row fun l=>k (r :: l):=by
 unfold Q7
 simp only [List.length_cons,List.set_cons_succ]
 by_cases h:i < rs.length
 ·rw [if_pos h,if_pos (by omega)]
 ·rw [if_neg h,if_neg (by omega)]
def bsF (fr:List (Nat × V)) (bl:List (Nat × Option aX)) (size:Nat) (rs:List (List D)):List (Nat × cY)→List (Nat × Option aX)→(List (List D)→List (Nat × Option aX)→Option β)→Option β
 | [],wr,k=>k rs wr
 | (i,x) :: r,wr,k=>dH fr x fun v=>IL v bl fun row f=>gP row size (Q7 rs i row fun rs'=>bsF fr bl size rs' r (wr ++ f) k)
theorem aFv (size:Nat) (rs:List (List D)) (wr:List (Nat × Option aX)) (k:List (List D)→List (Nat × Option aX)→Option β):bsF fr bl size rs [] wr k = k rs wr:=rfl
theorem aDF (size:Nat) (rs:List (List D)) (i:Nat) (x:cY) (r:List (Nat × cY)) (wr:List (Nat × Option aX)) (k:List (List D)→List (Nat × Option aX)→Option β):bsF fr bl size rs ((i,x) :: r) wr k = dH fr x fun v=>IL v bl fun row f=>gP row size (Q7 rs i row fun rs'=>bsF fr bl size rs' r (wr ++ f) k):=rfl
theorem aH3 (size:Nat) (parts:List (Nat × cY)):∀ (rs:List (List D)) (wr:List (Nat × Option aX)) (k:List (List D)→List (Nat × Option aX)→Option β),bsF fr bl size rs parts wr k = (jT (lk bl none) size rs (parts.map fun p=>(p.1,cQ (lk fr .any) p.2))).bind fun rs'=>k rs' (wr ++ parts.flatMap fun p=>sC (lk bl none) (cQ (lk fr .any) p.2)):=by
 induction parts with
 | nil=>intro rs wr k; simp [bsF,jT]
 | cons p r ih =>
  intro rs wr k
  obtain ⟨i,x⟩:=p
  simp only [bsF,dH,IL,List.map_cons,jT,List.flatMap_cons]
  cases bI (j9 (lk bl none)) (cQ (lk fr .any) x).cells with
  | none=>rfl
  | some row =>
   simp only [gP,Q7]
   by_cases h1:row.length = size
   ·by_cases h2:i < rs.length
    ·rw [if_pos h1,if_pos h2,if_pos ⟨h1,h2⟩,ih,List.append_assoc]
    ·rw [if_pos h1,if_neg h2,if_neg (fun q=>h2 q.2)]; rfl
   ·rw [if_neg h1,if_neg (fun q=>h1 q.1)]; rfl
theorem JG (e size n:Nat) (z:List D) (parts:List (Nat × cY)):sE T d (.buildSlice e size z n parts) fr bl k kw = eD bl d fun b=>vC b (bsF fr bl size (List.replicate n z) parts [] fun rows wr=>F2 e rows fun rows=>kw (.own d 0) ((d,some (.rows 0 e size rows)) :: wr)):=by
 rw [jB]
 unfold eD vC F2
 simp only [dW,aH3,List.nil_append]
 cases lk bl none d with
 | some b=>rfl
 | none =>
  simp only
  have e1:(parts.map fun x=>match x with | (i,x)=>(i,cQ (lk fr .any) x)) = parts.map fun p=>(p.1,cQ (lk fr .any) p.2):=rfl
  have e2:(parts.flatMap fun x=>match x with | (_,x)=>sC (lk bl none) (cQ (lk fr .any) x)) = parts.flatMap fun p=>sC (lk bl none) (cQ (lk fr .any) p.2):=rfl
  rw [e1,e2]
  cases jT (lk bl none) size (List.replicate n z) (parts.map fun p=>(p.1,cQ (lk fr .any) p.2)) <;> rfl
theorem MA {α:Type} (e size bytes:Nat) (z:List D) (c:α→List D) (x:α) (hz:z = c x) (l cp:cY):sE T d (.makeSlice e size bytes z l cp) fr bl k kw = eD bl d fun b=>vC b (dH fr l fun a=>dH fr cp fun b=>match a,b with
   | .d (.int _ n),.d (.int _ m)=>if 0 ≤ n ∧ n ≤ m ∧ (bytes:Int) * m ≤ 281474976710656 ∧ m ≤ 9223372036854775807 then kw (.own d 0) [(d,some (.rows 0 e size (cM c (List.replicate n.toNat x))))] else none
   | _,_=>none):=by
 subst hz
 rw [jB]
 unfold eD vC dH
 simp only [dW,NR]
 generalize cQ (lk fr .any) l = a
 generalize cQ (lk fr .any) cp = b
 cases lk bl none d with
 | some b=>rfl
 | none =>
  simp only
  split
  ·rename_i n _ m
   simp only
   by_cases h:0 ≤ n ∧ n ≤ m ∧ (bytes:Int) * m ≤ 281474976710656 ∧ m ≤ 9223372036854775807
   ·rw [if_pos h,if_pos h]; rfl
   ·rw [if_neg h,if_neg h]; rfl
  ·rename_i h
   split
   ·rename_i n _ m
    exact absurd rfl (h _ _ _ _ rfl)
   ·rfl
def KG (fr:List (Nat × V)) (bl:List (Nat × Option aX)):List cY→(List D→List (Nat × Option aX)→Option β)→Option β
 | [],k=>k [] []
 | x :: l,k=>dH fr x fun v=>wZ v bl fun y f=>KG fr bl l fun ds g=>k (y :: ds) (f ++ g)
theorem aAC (k:List D→List (Nat × Option aX)→Option β):KG fr bl [] k = k [] []:=rfl
theorem SB (x:cY) (l:List cY) (k:List D→List (Nat × Option aX)→Option β):KG fr bl (x :: l) k = dH fr x fun v=>wZ v bl fun y f=>KG fr bl l fun ds g=>k (y :: ds) (f ++ g):=rfl
theorem aDM (l:List cY) (k:List D→List (Nat × Option aX)→Option β):KG fr bl l k = (bI (fun x=>iX (lk bl none) (cQ (lk fr .any) x)) l).bind fun ds=>k ds (l.flatMap fun x=>sC (lk bl none) (cQ (lk fr .any) x)):=by
 induction l generalizing k with
 | nil=>rfl
 | cons x l ih =>
  simp only [KG,dH,wZ,bI,ih,List.flatMap_cons]
  cases iX (lk bl none) (cQ (lk fr .any) x) with
  | none=>rfl
  | some y=>cases bI (fun x=>iX (lk bl none) (cQ (lk fr .any) x)) l <;> rfl
def T8 (fz:List (Nat × Option aX)) (v:V) (k:V→Option β) (kw:V→List (Nat × Option aX)→Option β):Option β:=match fz with
 | []=>k v
 | p :: w=>kw v (p :: w)
theorem aGM (v:V):T8 [] v k kw = k v:=rfl
theorem aH7 (l:List (Nat × Option aX)) (v:V):T8 ([] ++ l) v k kw = T8 l v k kw:=rfl
theorem aIq (p:Nat × Option aX) (w l:List (Nat × Option aX)) (v:V):T8 ((p :: w) ++ l) v k kw = kw v ((p :: w) ++ l):=rfl
theorem aDw (p:Nat × Option aX) (w:List (Nat × Option aX)) (v:V):T8 (p :: w) v k kw = kw v (p :: w):=rfl
noncomputable def dM (T:AC) (d:Nat) (bl:List (Nat × Option aX)) (f:Nat) (ds:List D) (fz:List (Nat × Option aX)) (k:V→Option β) (kw:V→List (Nat × Option aX)→Option β):Option β:=match call T f ds with
 | none=>none
 | some r=>DC (sH d (lk bl none) fz r) k kw
theorem aAO (f:Nat) (args:List cY):sE T d (.call f args) fr bl k kw = KG fr bl args fun ds fz=>dM T d bl f ds fz k kw:=by
 rw [jB,aDM]
 simp only [dW]
 cases bI (fun x=>iX (lk bl none) (cQ (lk fr .any) x)) args with
 | none=>rfl
 | some ds =>
  simp only [Option.bind_some,dM]
  cases call T f ds <;> rfl
def D.calm:D→Bool
 | .own _ _ _=>false
 | _=>true
theorem WT {x:D} (h:x.calm = true):∀ y es rs,x ≠ .own y es rs:=fun y es rs e=>by rw [e] at h; cases h
theorem YI {x:D} (h:EN x = true):x.calm = true:=by cases x <;> first | rfl | cases h
theorem bR {α:Type} {f:Nat} {ds:List D} {o:Option α} {enc:α→D} (h:call T f ds = o.map enc) (hf:∀ x,EN (enc x) = true) (fz:List (Nat × Option aX)):dM T d bl f ds fz k kw = o.bind fun x=>k (toV (enc x)):=by
 unfold dM
 rw [h]
 cases o with
 | none=>rfl
 | some x=>simp only [Option.map_some,Option.bind_some]; rw [BB (WT (YI (hf x))),if_pos (hf x)]; rfl
theorem sV {α:Type} {f:Nat} {ds:List D} {o:Option α} {enc:α→D} (h:call T f ds = o.map enc) (hf:∀ x,EN (enc x) = false) (hc:∀ x,(enc x).calm = true) (fz:List (Nat × Option aX)):dM T d bl f ds fz k kw = o.bind fun x=>T8 fz (toV (enc x)) k kw:=by
 unfold dM
 rw [h]
 cases o with
 | none=>rfl
 | some x=>simp only [Option.map_some,Option.bind_some]; rw [BB (WT (hc x)),if_neg (by rw [hf x]; decide)]; cases fz <;> rfl
def KH (fr:List (Nat × V)) (bl:List (Nat × Option aX)):List cY→(List D→List (Nat × Option aX)→Option β)→Option β
 | [],k=>k [] []
 | x :: l,k=>dH fr x fun v=>RZ v bl fun y f=>KH fr bl l fun ds g=>k (y :: ds) (f ++ g)
theorem XE (k:List D→List (Nat × Option aX)→Option β):KH fr bl [] k = k [] []:=rfl
theorem U4 (x:cY) (l:List cY) (k:List D→List (Nat × Option aX)→Option β):KH fr bl (x :: l) k = dH fr x fun v=>RZ v bl fun y f=>KH fr bl l fun ds g=>k (y :: ds) (f ++ g):=rfl
theorem aCN (l:List cY) (k:List D→List (Nat × Option aX)→Option β):KH fr bl l k = (bI (fun x=>j9 (lk bl none) (cQ (lk fr .any) x)) l).bind fun ds=>k ds (l.flatMap fun x=>BU (lk bl none) (cQ (lk fr .any) x)):=by
 induction l generalizing k with
 | nil=>rfl
 | cons x l ih =>
  simp only [KH,dH,RZ,bI,ih,List.flatMap_cons]
  cases j9 (lk bl none) (cQ (lk fr .any) x) with
  | none=>rfl
  | some y=>cases bI (fun x=>j9 (lk bl none) (cQ (lk fr .any) x)) l <;> rfl
theorem aDb (f:Nat) (caps:List cY):sE T d (.mkfn f caps) fr bl k kw = KH fr bl caps fun ds fz=>T8 fz (.d (.fn f ds)) k kw:=by
 rw [jB,aCN]
 simp only [dW]
 cases bI (fun x=>j9 (lk bl none) (cQ (lk fr .any) x)) caps with
 | none=>rfl
 | some ds =>
  simp only [Option.bind_some]
  cases caps.flatMap fun x=>BU (lk bl none) (cQ (lk fr .any) x) <;> rfl
def HJ (fr:List (Nat × V)) (bl:List (Nat × Option aX)) (caps:List D):List cY→(List D→List (Nat × Option aX)→Option β)→Option β
 | [],k=>k caps []
 | x :: l,k=>dH fr x fun v=>wZ v bl fun y f=>HJ fr bl caps l fun ds g=>k (y :: ds) (f ++ g)
theorem YA (caps:List D) (k:List D→List (Nat × Option aX)→Option β):HJ fr bl caps [] k = k caps []:=rfl
theorem SO (caps:List D) (x:cY) (l:List cY) (k:List D→List (Nat × Option aX)→Option β):HJ fr bl caps (x :: l) k = dH fr x fun v=>wZ v bl fun y f=>HJ fr bl caps l fun ds g=>k (y :: ds) (f ++ g):=rfl
theorem aCX (caps:List D) (l:List cY) (k:List D→List (Nat × Option aX)→Option β):HJ fr bl caps l k = (bI (fun x=>iX (lk bl none) (cQ (lk fr .any) x)) l).bind fun ds=>k (ds ++ caps) (l.flatMap fun x=>sC (lk bl none) (cQ (lk fr .any) x)):=by
 induction l generalizing k with
 | nil=>rfl
 | cons x l ih =>
  simp only [HJ,dH,wZ,bI,ih,List.flatMap_cons]
  cases iX (lk bl none) (cQ (lk fr .any) x) with
  | none=>rfl
  | some y=>cases bI (fun x=>iX (lk bl none) (cQ (lk fr .any) x)) l <;> rfl
noncomputable def U5 (T:AC) (d:Nat) (v:V) (args:List cY) (fr:List (Nat × V)) (bl:List (Nat × Option aX)) (k:V→Option β) (kw:V→List (Nat × Option aX)→Option β):Option β:=match v with
 | .d (.fn f caps)=>HJ fr bl caps args fun ds fz=>dM T d bl f ds fz k kw
 | _=>none
theorem aBN (f:Nat) (caps:List D) (args:List cY):U5 T d (.d (.fn f caps)) args fr bl k kw = HJ fr bl caps args fun ds fz=>dM T d bl f ds fz k kw:=rfl
theorem Z2 (g:cY) (args:List cY):sE T d (.callv g args) fr bl k kw = dH fr g fun v=>U5 T d v args fr bl k kw:=by
 rw [jB]
 unfold dH
 simp only [dW]
 generalize cQ (lk fr .any) g = v
 cases v with
 | d x=>cases x with
  | fn f caps =>
   simp only [U5,aCX]
   cases bI (fun x=>iX (lk bl none) (cQ (lk fr .any) x)) args with
   | none=>rfl
   | some ds =>
    simp only [Option.bind_some,dM]
    cases call T f (ds ++ caps) <;> rfl
  | _=>rfl
 | _=>rfl
def aIH (v:V) (i:Nat) (k:V→Option β):Option β:=match v with
 | .tup vs=>xV vs i k
 | _=>none
theorem RY (x:cY) (i:Nat):sE T d (.extract x i) fr bl k kw = dH fr x fun v=>aIH v i k:=by
 unfold sE dH
 simp only [dW]
 generalize cQ (lk fr .any) x = v
 cases v with
 | tup vs=>simp only [aIH,FK]; cases vs[i]? <;> rfl
 | _=>rfl
theorem aHQ (vs:List V) (i:Nat):aIH (.tup vs) i k = xV vs i k:=rfl
def pQ (m:tG) (fr:List (Nat × V)) (bl:List (Nat × Option aX)) (k:List (Nat × V)→List (Nat × Option aX)→Option β):Option β:=k (m.app ⟨fr,bl⟩).fr (m.app ⟨fr,bl⟩).bl
theorem aFT {k:Ex→St→Option β} (m:tG) (a:a8):cX T (.pre m a) ⟨fr,bl⟩ k = pQ m fr bl fun fr' bl'=>cX T a ⟨fr',bl'⟩ k:=by
 rw [aEH]; rfl
theorem aGn {k:Ex→St→Option β} (m:tG):P5 m k .normal ⟨fr,bl⟩ = pQ m fr bl fun fr' bl'=>k .normal ⟨fr',bl'⟩:=by
 rw [aG2]; rfl
def uC (keep:List Nat) (bl:List (Nat × Option aX)) (v:V) (k:V→Option β):Option β:=k (HO keep (lk bl none) v)
def KE (keep:List Nat) (fr:List (Nat × V)) (bl:List (Nat × Option aX)):List Nat→(List (Nat × V)→Option β)→Option β
 | [],k=>k []
 | t :: r,k=>mK fr t fun v=>uC keep bl v fun v'=>KE keep fr bl r fun l=>k ((t,v') :: l)
theorem aBy (keep:List Nat) (l:List Nat):∀ (k:List (Nat × V)→Option β),KE keep fr bl l k = k (l.map fun t=>(t,HO keep (lk bl none) (lk fr .any t))):=by
 induction l with
 | nil=>intro k; rfl
 | cons t l ih=>intro k; simp only [KE,mK,uC,ih,List.map_cons]
def yH (keep:List Nat) (bl:List (Nat × Option aX)) (b:Option aX) (k:Option aX→Option β):Option β:=k (b.bind (DU keep (lk bl none)))
def LB (keep:List Nat) (bl:List (Nat × Option aX)):List Nat→(List (Nat × Option aX)→Option β)→Option β
 | [],k=>k []
 | i :: r,k=>eD bl i fun b=>yH keep bl b fun b'=>LB keep bl r fun l=>k ((i,b') :: l)
theorem aBm (keep:List Nat) (l:List Nat):∀ (k:List (Nat × Option aX)→Option β),LB keep bl l k = k (l.map fun i=>(i,(lk bl none i).bind (DU keep (lk bl none)))):=by
 induction l with
 | nil=>intro k; rfl
 | cons t l ih=>intro k; simp only [LB,eD,yH,ih,List.map_cons]
theorem YJ (keep:List Nat) (k:List (Nat × V)→Option β):KE keep fr bl [] k = k []:=rfl
theorem TX (keep:List Nat) (t:Nat) (r:List Nat) (k:List (Nat × V)→Option β):KE keep fr bl (t :: r) k = mK fr t fun v=>uC keep bl v fun v'=>KE keep fr bl r fun l=>k ((t,v') :: l):=rfl
theorem ZM (keep:List Nat) (k:List (Nat × Option aX)→Option β):LB keep bl [] k = k []:=rfl
theorem TY (keep:List Nat) (i:Nat) (r:List Nat) (k:List (Nat × Option aX)→Option β):LB keep bl (i :: r) k = eD bl i fun b=>yH keep bl b fun b'=>LB keep bl r fun l=>k ((i,b') :: l):=rfl
theorem aEd (live keep:List Nat) (k:List (Nat × V)→List (Nat × Option aX)→Option β):pQ ⟨live,keep,[],[],[],[]⟩ fr bl k = KE keep fr bl live fun fr'=>LB keep bl keep fun bl'=>k fr' bl':=by
 rw [aBy,aBm]; rfl
def iR (keep:List Nat) (i:Nat) (x y:Option β):Option β:=if keep.contains i = true then x else y
theorem LR (i:Nat) (x y:Option β):iR [] i x y = y:=rfl
theorem LP (i:Nat) (r:List Nat) (x y:Option β):iR (i :: r) i x y = x:=by simp [iR]
theorem KY (a i:Nat) (r:List Nat) (x y:Option β) (h:(i == a) = false):iR (a :: r) i x y = iR r i x y:=by
 unfold iR
 rw [List.contains_cons,h,Bool.false_or]
section
variable (keep:List Nat)
theorem aFS (x:D):uC keep bl (.d x) k = k (.d x):=rfl
theorem ZH:uC keep bl .nil k = k .nil:=rfl
theorem aE1:uC keep bl (.tup []) k = k (.tup []):=rfl
theorem X2:uC keep bl .any k = k .any:=rfl
def KP (keep:List Nat) (id off:Nat) (b:Option aX) (k:V→Option β):Option β:=match b with
 | some (.box _)=>iR keep id (k (.ptr id off)) (k .any)
 | some (.fbox ds)=>k (.d (.ptr ds off))
 | _=>k .any
theorem VI (id off:Nat) (cs:List V):KP keep id off (some (.box cs)) k = iR keep id (k (.ptr id off)) (k .any):=rfl
theorem P4 (id off:Nat) (ds:List D):KP keep id off (some (.fbox ds)) k = k (.d (.ptr ds off)):=rfl
theorem PA (id off:Nat):KP keep id off none k = k .any:=rfl
theorem XU (id off:Nat):uC keep bl (.ptr id off) k = eD bl id fun b=>KP keep id off b k:=by
 unfold uC eD KP
 simp only [HO,NC,sR]
 generalize lk bl none id = b
 cases b with
 | none=>rfl
 | some b=>cases b with
  | box cs=>simp only [iR]; split <;> rfl
  | _=>rfl
def B2 (id ver:Nat) (b:Option aX) (k:V→Option β):Option β:=match b with
 | some (.rows v _ _ _)=>if (ver == v) = true then iR keep id (k (.own id 0)) (k .any) else k .any
 | some (.froz v rows)=>if ver = v then k (.d (.sl rows)) else k .any
 | _=>k .any
theorem YT (id ver:Nat):uC keep bl (.own id ver) k = eD bl id fun b=>B2 keep id ver b k:=by
 unfold uC eD B2 iR
 simp only [HO,NC,sR]
 generalize lk bl none id = b
 cases b with
 | none=>rfl
 | some b=>cases b with
  | rows v e s rows=>simp only; cases (ver == v) <;> cases keep.contains id <;> rfl
  | froz v rows=>simp only; split <;> rfl
  | _=>rfl
theorem O7 (id v e s:Nat) (rows:List (List D)):B2 keep id v (some (.rows v e s rows)) k = iR keep id (k (.own id 0)) (k .any):=by simp [B2]
theorem ST (id ver v e s:Nat) (rows:List (List D)) (h:(ver == v) = false):B2 keep id ver (some (.rows v e s rows)) k = k .any:=by simp [B2,h]
theorem QB (id v:Nat) (rows:List (List D)):B2 keep id v (some (.froz v rows)) k = k (.d (.sl rows)):=if_pos rfl
theorem QK (id v:Nat):B2 keep id v none k = k .any:=rfl
def HD (id ver i off:Nat) (b:Option aX) (k:V→Option β):Option β:=match b with
 | some (.rows v _ _ _)=>if (ver == v) = true then iR keep id (k (.orow id 0 i off)) (k .any) else k .any
 | _=>k .any
theorem TD (id ver i off:Nat):uC keep bl (.orow id ver i off) k = eD bl id fun b=>HD keep id ver i off b k:=by
 unfold uC eD HD iR
 simp only [HO,NC,sR]
 generalize lk bl none id = b
 cases b with
 | none=>rfl
 | some b=>cases b with
  | rows v e s rows=>simp only; cases (ver == v) <;> cases keep.contains id <;> rfl
  | _=>rfl
theorem Q1 (id v i off e s:Nat) (rows:List (List D)):HD keep id v i off (some (.rows v e s rows)) k = iR keep id (k (.orow id 0 i off)) (k .any):=by simp [HD]
theorem S2 (id ver v i off e s:Nat) (rows:List (List D)) (h:(ver == v) = false):HD keep id ver i off (some (.rows v e s rows)) k = k .any:=by simp [HD,h]
def sI (keep:List Nat) (bl:List (Nat × Option aX)):List V→(List V→Option β)→Option β
 | [],k=>k []
 | v :: cs,k=>k (sR keep (lk bl none) v :: cs.map (sR keep (lk bl none)))
theorem tN (cs:List V) (k:List V→Option β):sI keep bl cs k = k (cs.map (sR keep (lk bl none))):=by cases cs <;> rfl
theorem VE (k:List V→Option β):sI keep bl [] k = k []:=rfl
theorem aCf (x:D) (cs:List V) (k:List V→Option β):sI keep bl (.d x :: cs) k = sI keep bl cs fun l=>k (.d x :: l):=by simp only [tN]; rfl
theorem aDt (cs:List V) (k:List V→Option β):sI keep bl (.nil :: cs) k = sI keep bl cs fun l=>k (.nil :: l):=by simp only [tN]; rfl
theorem U1 (cs:List V) (k:List V→Option β):sI keep bl (.any :: cs) k = sI keep bl cs fun l=>k (.any :: l):=by simp only [tN]; rfl
theorem UQ (id ver:Nat) (cs:List V) (k:List V→Option β):sI keep bl (.own id ver :: cs) k = uC keep bl (.own id ver) fun v=>sI keep bl cs fun l=>k (v :: l):=by simp only [tN]; rfl
theorem VO (id off:Nat) (cs:List V) (k:List V→Option β):sI keep bl (.ptr id off :: cs) k = uC keep bl (.ptr id off) fun v=>sI keep bl cs fun l=>k (v :: l):=by simp only [tN]; rfl
theorem ZY (cs:List V):uC keep bl (.agg cs) k = sI keep bl cs fun l=>k (.agg l):=by rw [tN]; rfl
theorem EV (ds:List D) (b:Nat→Option aX):(aC ds).map (sR keep b) = aC ds:=by
 induction ds with
 | nil=>rfl
 | cons x ds ih=>show sR keep b (.d x) :: (aC ds).map (sR keep b) = _; rw [ih]; rfl
theorem UY (ds:List D):uC keep bl (cW ds) k = k (cW ds):=by
 show k (.agg ((aC ds).map (sR keep (lk bl none)))) = _
 rw [EV]; rfl
theorem P3 (k:Option aX→Option β):yH keep bl none k = k none:=rfl
theorem TQ (c:V) (cs:List V) (k:Option aX→Option β):yH keep bl (some (.box (c :: cs))) k = sI keep bl (c :: cs) fun l=>k (some (.box l)):=by rw [tN]; rfl
theorem P7 (k:Option aX→Option β):yH keep bl (some (.box [])) k = k (some (.box [])):=rfl
theorem LJ (ds:List D) (k:Option aX→Option β):yH keep bl (some (.box (aC ds))) k = k (some (.box (aC ds))):=by
 show k (some (.box ((aC ds).map (sR keep (lk bl none))))) = _
 rw [EV]
theorem RS (v e s:Nat) (rows:List (List D)) (k:Option aX→Option β):yH keep bl (some (.rows v e s rows)) k = k (some (.rows 0 e s rows)):=rfl
theorem RC (ds:List D) (k:Option aX→Option β):yH keep bl (some (.fbox ds)) k = k none:=rfl
theorem P9 (v:Nat) (rows:List (List D)) (k:Option aX→Option β):yH keep bl (some (.froz v rows)) k = k none:=rfl
end
def aD1 (res:List sQ):Ex→St→Option D
 | .normal,s=>match bI (vQ s) res with
  | none=>none
  | some [v]=>iX s.blk v
  | some vs=>toD s.blk (.tup vs)
 | .ret,s=>match bI (vQ s) res with
  | none=>none
  | some [v]=>iX s.blk v
  | some vs=>toD s.blk (.tup vs)
 | .exit _,_=>none
def C8 (fr:List (Nat × V)) (bl:List (Nat × Option aX)):List sQ→(List D→Option D)→Option D
 | [],k=>k []
 | .tmp t :: r,k=>mK fr t fun v=>wZ v bl fun x _=>C8 fr bl r fun l=>k (x :: l)
 | .cell t size isAgg :: r,k=>mK fr t fun p=>wT size isAgg p bl fun v=>wZ v bl fun x _=>C8 fr bl r fun l=>k (x :: l)
def EZ:List D→Option D
 | [x]=>some x
 | l=>some (.tup l)
theorem RO (size:Nat) (a:Bool) (p:V):wT size a p bl k = (HS size a p (lk bl none)).bind fun r=>k r.1:=by
 have h:=RR (T:=fun _=>none) (d:=0) (fr:=[]) (bl:=bl) (k:=k) (kw:=fun v _=>k v) size a (.c p)
 have e:dH [] (.c p) (fun v=>wT size a v bl k) = wT size a p bl k:=rfl
 rw [← e,← h,jB,FA]
 show DC (HS size a p (lk bl none)) k (fun v _=>k v) = _
 cases HS size a p (lk bl none) with
 | none=>rfl
 | some r=>obtain ⟨v,wr⟩:=r; cases wr <;> rfl
theorem BA (fr:List (Nat × V)) (bl:List (Nat × Option aX)):St.blk ⟨fr,bl⟩ = lk bl none:=rfl
theorem aGZ (res:List sQ):∀ (k:List D→Option D),C8 fr bl res k = (bI (vQ ⟨fr,bl⟩) res).bind fun vs=>(bI (iX (lk bl none)) vs).bind k:=by
 induction res with
 | nil=>intro k; rfl
 | cons r res ih =>
  intro k
  cases r with
  | tmp t =>
   simp only [C8,mK,wZ,ih,bI,vQ,CB,BA]
   cases h1:bI (vQ ⟨fr,bl⟩) res with
   | none =>
    simp only [Option.bind_none]
    cases iX (lk bl none) (lk fr .any t) <;> rfl
   | some vs =>
    simp only [Option.bind_some,bI]
    cases iX (lk bl none) (lk fr .any t) with
    | none=>rfl
    | some x=>cases bI (iX (lk bl none)) vs <;> rfl
  | cell t size isAgg =>
   simp only [C8,mK,RO,wZ,ih,bI,vQ,FA,CB,BA]
   cases HS size isAgg (lk fr .any t) (lk bl none) with
   | none=>rfl
   | some q =>
    obtain ⟨v,wr⟩:=q
    simp only [Option.bind_some]
    cases h1:bI (vQ ⟨fr,bl⟩) res with
    | none =>
     simp only [Option.bind_none]
     cases iX (lk bl none) v <;> rfl
    | some vs =>
     simp only [Option.bind_some,bI]
     cases iX (lk bl none) v with
     | none=>rfl
     | some x=>cases bI (iX (lk bl none)) vs <;> rfl
theorem NL (res:List sQ):(match bI (vQ ⟨fr,bl⟩) res with
  | none=>none
  | some [v]=>iX (lk bl none) v
  | some vs=>toD (lk bl none) (.tup vs)) = C8 fr bl res EZ:=by
 rw [aGZ]
 cases bI (vQ ⟨fr,bl⟩) res with
 | none=>rfl
 | some vs =>
  simp only [Option.bind_some]
  cases vs with
  | nil=>rfl
  | cons v vs =>
   cases vs with
   | nil =>
    simp only [bI]
    cases iX (lk bl none) v <;> rfl
   | cons w ws =>
    show (bI (iX (lk bl none)) (v :: w :: ws)).map D.tup = _
    simp only [bI]
    cases iX (lk bl none) v with
    | none=>rfl
    | some x=>cases iX (lk bl none) w with
     | none=>rfl
     | some y=>cases bI (iX (lk bl none)) ws <;> rfl
theorem aIa (res:List sQ):aD1 res .normal ⟨fr,bl⟩ = C8 fr bl res EZ:=NL res
theorem aH0 (res:List sQ):aD1 res .ret ⟨fr,bl⟩ = C8 fr bl res EZ:=NL res
theorem aH8 (res:List sQ) (i:Nat) (s:St):aD1 res (.exit i) s = none:=rfl
theorem aAU (k:List D→Option D):C8 fr bl [] k = k []:=rfl
theorem aBD (t:Nat) (r:List sQ) (k:List D→Option D):C8 fr bl (.tmp t :: r) k = mK fr t fun v=>wZ v bl fun x _=>C8 fr bl r fun l=>k (x :: l):=rfl
theorem X9 (t size:Nat) (isAgg:Bool) (r:List sQ) (k:List D→Option D):C8 fr bl (.cell t size isAgg :: r) k = mK fr t fun p=>wT size isAgg p bl fun v=>wZ v bl fun x _=>C8 fr bl r fun l=>k (x :: l):=rfl
theorem aEW (x:D):EZ [x] = some x:=rfl
theorem aG9 (x y:D) (l:List D):EZ (x :: y :: l) = some (.tup (x :: y :: l)):=rfl
theorem bX {T:AC} {f np nt:Nat} {res:List sQ} {body:a8} (hf:T f = some (.code ⟨np,nt,res,body,false,false⟩)) (ds:List D) (hl:ds.length = np) (hlt:lF 0 ds = none):Vm.call T f ds = cX T body ⟨m8 0 ds,[]⟩ (aD1 res):=by
 rw [aAZ hf ds hl hlt]
 unfold cX
 cases Vm.ev T body ⟨m8 0 ds,[]⟩ with
 | none=>rfl
 | some q =>
  obtain ⟨e,s⟩:=q
  cases e <;> rfl
def OY:List V→V
 | [v]=>v
 | vs=>.tup vs
def GE (fr:List (Nat × V)) (bl:List (Nat × Option aX)):List sQ→(List V→Option D)→Option D
 | [],k=>k []
 | .tmp t :: r,k=>mK fr t fun v=>GE fr bl r fun l=>k (v :: l)
 | .cell t size isAgg :: r,k=>mK fr t fun p=>wT size isAgg p bl fun v=>GE fr bl r fun l=>k (v :: l)
theorem aGS (res:List sQ):∀ (k:List V→Option D),GE fr bl res k = (bI (vQ ⟨fr,bl⟩) res).bind k:=by
 induction res with
 | nil=>intro k; rfl
 | cons r res ih =>
  intro k
  cases r with
  | tmp t =>
   simp only [GE,mK,ih,bI,vQ,CB]
   cases bI (vQ ⟨fr,bl⟩) res <;> rfl
  | cell t size isAgg =>
   simp only [GE,mK,RO,ih,bI,vQ,FA,CB,BA]
   cases HS size isAgg (lk fr .any t) (lk bl none) with
   | none=>rfl
   | some q =>
    obtain ⟨v,wr⟩:=q
    simp only [Option.bind_some]
    cases bI (vQ ⟨fr,bl⟩) res <;> rfl
def aIm (res:List sQ):Ex→St→Option D
 | .normal,s=>match bI (vQ s) res with
  | none=>none
  | some [v]=>qK s.blk v
  | some vs=>qK s.blk (.tup vs)
 | .ret,s=>match bI (vQ s) res with
  | none=>none
  | some [v]=>qK s.blk v
  | some vs=>qK s.blk (.tup vs)
 | .exit _,_=>none
theorem V5 (res:List sQ):(match bI (vQ ⟨fr,bl⟩) res with
  | none=>none
  | some [v]=>qK (lk bl none) v
  | some vs=>qK (lk bl none) (.tup vs)) = GE fr bl res fun vs=>qK (lk bl none) (OY vs):=by
 rw [aGS]
 cases bI (vQ ⟨fr,bl⟩) res with
 | none=>rfl
 | some vs =>
  cases vs with
  | nil=>rfl
  | cons v vs=>cases vs <;> rfl
theorem aHN (res:List sQ):aIm res .normal ⟨fr,bl⟩ = GE fr bl res fun vs=>qK (lk bl none) (OY vs):=V5 res
theorem aIA (res:List sQ):aIm res .ret ⟨fr,bl⟩ = GE fr bl res fun vs=>qK (lk bl none) (OY vs):=V5 res
theorem aI5 (res:List sQ) (i:Nat) (s:St):aIm res (.exit i) s = none:=rfl
theorem aA4 (k:List V→Option D):GE fr bl [] k = k []:=rfl
theorem aCB (t:Nat) (r:List sQ) (k:List V→Option D):GE fr bl (.tmp t :: r) k = mK fr t fun v=>GE fr bl r fun l=>k (v :: l):=rfl
theorem aAg (t size:Nat) (isAgg:Bool) (r:List sQ) (k:List V→Option D):GE fr bl (.cell t size isAgg :: r) k = mK fr t fun p=>wT size isAgg p bl fun v=>GE fr bl r fun l=>k (v :: l):=rfl
theorem aEQ (x:V):OY [x] = x:=rfl
theorem aEo (x y:V) (l:List V):OY (x :: y :: l) = .tup (x :: y :: l):=rfl
def MB (v:V) (b:Option aX) (x y:Option β):Option β:=match v,b with
 | .nil,none=>x
 | _,_=>y
theorem aGE (b:aX) (x y:Option β):MB .nil (some b) x y = y:=rfl
theorem aI3 (x y:Option β):MB .nil none x y = x:=rfl
theorem aDA (i v:Nat) (b:Option aX) (x y:Option β):MB (.own i v) b x y = y:=rfl
theorem aIM (z:D) (b:Option aX) (x y:Option β):MB (.d z) b x y = y:=rfl
theorem aCQ (b:Option aX) (x y:Option β):MB .any b x y = y:=rfl
theorem aG0 (live keep:List Nat) (t i e s:Nat) (l:List (Nat × Nat × Nat × Nat)) (c:List (Nat × Nat × Nat × Nat × Nat)) (ft:List Nat) (fc:List (Nat × Nat)) (k:List (Nat × V)→List (Nat × Option aX)→Option β) (hs:0 < s) :
  pQ ⟨live,keep,(t,i,e,s) :: l,c,ft,fc⟩ fr bl k = mK fr t fun v=>eD bl i fun b=>MB v b (F2 e [] fun rows=>pQ ⟨live,keep,l,c,ft,fc⟩ ((t,.own i 0) :: fr) ((i,some (.rows 0 e s rows)) :: bl) k) (pQ ⟨live,keep,l,c,ft,fc⟩ fr bl k):=by
 show pQ ⟨live,keep,(t,i,e,s) :: l,c,ft,fc⟩ fr bl k = MB (lk fr .any t) (lk bl none i) _ _
 unfold pQ
 rw [aJF]
 unfold mkT F2
 show k (tG.app ⟨live,keep,l,c,ft,fc⟩ (match lk fr .any t,lk bl none i with | .nil,none=>if 0 < s then _ else _ | _,_=>_)).fr (tG.app ⟨live,keep,l,c,ft,fc⟩ (match lk fr .any t,lk bl none i with | .nil,none=>if 0 < s then _ else _ | _,_=>_)).bl = _
 generalize lk fr .any t = v
 generalize lk bl none i = b
 cases v with
 | nil=>cases b with
  | none=>simp only [MB,if_pos hs]
  | some b=>rfl
 | _=>rfl
def aAH (b0:Option aX) (n:Nat) (b:Option aX) (x:List V→Option β) (y:Option β):Option β:=match b0 with
 | some (.box cs)=>match cs[n]?,b with
  | some .nil,none=>x cs
  | _,_=>y
 | _=>y
theorem aGe (live keep:List Nat) (i n j e s:Nat) (c:List (Nat × Nat × Nat × Nat × Nat)) (ft:List Nat) (fc:List (Nat × Nat)) (k:List (Nat × V)→List (Nat × Option aX)→Option β) (hs:0 < s) :
  pQ ⟨live,keep,[],(i,n,j,e,s) :: c,ft,fc⟩ fr bl k = eD bl i fun b0=>eD bl j fun b=>aAH b0 n b (fun cs=>vZ cs n (.own j 0) fun cs'=>F2 e [] fun rows=>pQ ⟨live,keep,[],c,ft,fc⟩ fr ((i,some (.box cs')) :: (j,some (.rows 0 e s rows)) :: bl) k) (pQ ⟨live,keep,[],c,ft,fc⟩ fr bl k):=by
 show pQ ⟨live,keep,[],(i,n,j,e,s) :: c,ft,fc⟩ fr bl k = aAH (lk bl none i) n (lk bl none j) _ _
 unfold pQ
 rw [aJW]
 have hm:∀ b0 b,lk bl none i = b0→lk bl none j = b→mkC (i,n,j,e,s) ⟨fr,bl⟩ = (match b0,b with
  | some (.box cs),none=>match cs[n]? with
   | some .nil=>if 0 < s then ⟨fr,(i,some (.box (cs.set n (.own j 0)))) :: (j,some (.rows 0 e s [])) :: bl⟩ else ⟨fr,bl⟩
   | _=>⟨fr,bl⟩
  | _,_=>⟨fr,bl⟩):=by
  rintro _ _ rfl rfl; rfl
 have hm:=hm _ _ rfl rfl
 rw [hm]
 generalize lk bl none i = b0
 generalize lk bl none j = b
 cases b0 with
 | none=>rfl
 | some b0=>cases b0 with
  | box cs =>
   cases b with
   | none =>
    simp only [aAH]
    cases h:cs[n]? with
    | none=>rfl
    | some v =>
     cases v with
     | nil =>
      have hn:n < cs.length:=by
       rw [List.getElem?_eq_some_iff] at h
       exact h.1
      simp only [if_pos hs,O1,F2]
      rw [if_pos (by omega)]
      have:∀ (cs:List V) (n:Nat),n < cs.length→gK cs n [.own j 0] = cs.set n (.own j 0):=by
       intro cs
       induction cs with
       | nil=>intro n h; simp at h
       | cons c cs ih =>
        intro n h
        cases n with
        | zero=>cases cs <;> rfl
        | succ n=>simp only [gK,List.set_cons_succ]; rw [ih n (by simpa using h)]
      rw [this cs n hn]
     | _=>rfl
   | some b=>simp only [aAH]; cases cs[n]? with
    | none=>rfl
    | some v=>cases v <;> rfl
  | _=>cases b <;> rfl
theorem U6 (k:List (Nat × Nat × V)→Option β):EJ fr [] k = k []:=rfl
theorem PZ (o s:Nat) (x:cY) (l:List (Nat × Nat × cY)) (k:List (Nat × Nat × V)→Option β):EJ fr ((o,s,x) :: l) k = dH fr x fun v=>EJ fr l fun vs=>k ((o,s,v) :: vs):=rfl
theorem YQ (l:List (Nat × Nat × cY)):∀ (k:List (Nat × Nat × V)→Option β),EJ fr l k = k (l.map fun p=>(p.1,p.2.1,cQ (lk fr .any) p.2.2)):=by
 induction l with
 | nil=>intro k; rfl
 | cons p l ih=>intro k; obtain ⟨o,s,x⟩:=p; simp only [EJ,dH,ih,List.map_cons]
def JQ (z:List V):List (Nat × Nat × V)→(List V→Option β)→Option β
 | [],k=>k z
 | (off,size,v) :: r,k=>sW v fun cs=>kW cs size (dA z off cs fun z'=>JQ z' r k)
theorem aAk (z:List V) (k:List V→Option β):JQ z [] k = k z:=rfl
theorem SD (z:List V) (off size:Nat) (v:V) (r:List (Nat × Nat × V)) (k:List V→Option β):JQ z ((off,size,v) :: r) k = sW v fun cs=>kW cs size (dA z off cs fun z'=>JQ z' r k):=rfl
theorem aBc (ps:List (Nat × Nat × V)):∀ (z:List V) (k:List V→Option β),JQ z ps k = (CI z ps).bind k:=by
 induction ps with
 | nil=>intro z k; rfl
 | cons p r ih =>
  intro z k
  obtain ⟨off,size,v⟩:=p
  simp only [JQ,CI,sW,kW,dA,ih]
  by_cases h1:v.known = true
  ·by_cases h2:v.cells.length = size
   ·subst h2
    by_cases h3:off + v.cells.length ≤ z.length
    ·rw [if_pos h1,if_pos rfl,if_pos h3,if_pos ⟨rfl,h3,h1⟩]
    ·rw [if_pos h1,if_pos rfl,if_neg h3,if_neg (fun q=>h3 q.2.1)]; rfl
   ·rw [if_pos h1,if_neg h2,if_neg (fun q=>h2 q.1)]; rfl
  ·rw [if_neg h1,if_neg (fun q=>h1 q.2.2)]; rfl
theorem X6 (z:List V) (parts:List (Nat × Nat × cY)):sE T d (.build z parts) fr bl k kw = EJ fr parts fun ps=>JQ z ps fun cs=>k (.agg cs):=by
 rw [jB,YQ,aBc]
 simp only [dW]
 have e1:(parts.map fun x=>match x with | (o,s,x)=>(o,s,cQ (lk fr .any) x)) = parts.map fun p=>(p.1,p.2.1,cQ (lk fr .any) p.2.2):=rfl
 rw [e1]
 cases CI z (parts.map fun p=>(p.1,p.2.1,cQ (lk fr .any) p.2.2)) <;> rfl
theorem aE (ds:List D):(aC ds).length = ds.length:=by simp [aC]
def aIx (bytes:Nat) (a b:V) (x:Nat→Option β):Option β:=match a,b with
 | .d (.int _ n),.d (.int _ m)=>if 0 ≤ n ∧ n ≤ m ∧ (bytes:Int) * m ≤ 281474976710656 ∧ m ≤ 9223372036854775807 then x n.toNat else none
 | _,_=>none
theorem aIt (bytes:Nat) (i j:IntKind) (n m:Int) (x:Nat→Option β):aIx bytes (.d (.int i n)) (.d (.int j m)) x = if 0 ≤ n ∧ n ≤ m ∧ (bytes:Int) * m ≤ 281474976710656 ∧ m ≤ 9223372036854775807 then x n.toNat else none:=rfl
theorem aJ5 {α:Type} (e size bytes:Nat) (z:List D) (c:α→List D) (x:α) (hz:z = c x) (l cp:cY):sE T d (.makeSlice e size bytes z l cp) fr bl k kw = eD bl d fun b=>vC b (dH fr l fun a=>dH fr cp fun b=>aIx bytes a b fun n=>kw (.own d 0) [(d,some (.rows 0 e size (cM c (List.replicate n x))))]):=MA e size bytes z c x hz l cp
theorem aCh {k:Ex→St→Option β} (c:cY) (a b:a8):cX T (.cond c a b) ⟨fr,bl⟩ k = dH fr c fun v=>FF v (cX T a ⟨fr,bl⟩ k) (cX T b ⟨fr,bl⟩ k):=aBr c a b _
theorem aEv (a b c:List (Nat × Option aX)) (t:Nat) (k:Option aX→Option β):eD ((a ++ b) ++ c) t k = eD (a ++ (b ++ c)) t k:=by rw [List.append_assoc]
def QV:List V→Nat→(V→Option β)→Option β→Option β
 | [],_,_,y=>y
 | c :: _,0,x,_=>x c
 | _ :: cs,n + 1,x,y=>QV cs n x y
theorem aIn (c:V) (cs:List V) (x:V→Option β) (y:Option β):QV (c :: cs) 0 x y = x c:=rfl
theorem aHU (c:V) (cs:List V) (n:Nat) (x:V→Option β) (y:Option β):QV (c :: cs) (n + 1) x y = QV cs n x y:=rfl
theorem aCr (cs:List V) (n:Nat) (b:Option aX) (x:List V→Option β) (y:Option β):aAH (some (.box cs)) n b x y = QV cs n (fun v=>MB v b (x cs) y) y:=by
 have:∀ (l:List V) (n:Nat),(match l[n]?,b with | some .nil,none=>x cs | _,_=>y) = QV l n (fun v=>MB v b (x cs) y) y:=by
  intro l
  induction l with
  | nil=>intro n; rfl
  | cons c l ih=>intro n; cases n with
   | zero=>cases c <;> cases b <;> rfl
   | succ n=>exact ih n
 exact this cs n
theorem XO (n:Nat) (b:Option aX) (x:List V→Option β) (y:Option β):aAH none n b x y = y:=rfl
def V9 (rows:List (List D)) (k:V→Option β):Option β:=k (.d (.int .i64 rows.length))
theorem aFU {α:Type} (c:α→List D) (xs:List α):V9 (cM c xs) k = k (.d (.int .i64 (xs.length:Int))):=by unfold V9; rw [aH]
theorem aGu:V9 [] k = k (.d (.int .i64 0)):=rfl
theorem aGH (x:cY):sE T d (.len x) fr bl k kw = dH fr x fun a=>DM a bl fun rows=>V9 rows k:=aF4 x
def OK (v:V) (bl:List (Nat × Option aX)) (k:V→List (Nat × Option aX)→Option β) (y:Option β):Option β:=match pI (lk bl none) v with
 | some x=>k (.d x) (CO (lk bl none) v)
 | none=>y
theorem aHL (x:D) (k:V→List (Nat × Option aX)→Option β) (y:Option β):OK (.d x) bl k y = k (.d x) []:=rfl
theorem aBd (k:V→List (Nat × Option aX)→Option β) (y:Option β):OK .nil bl k y = k (.d (.sl [])) []:=rfl
theorem aDr (k:V→List (Nat × Option aX)→Option β) (y:Option β):OK .any bl k y = y:=rfl
def aEc (id ver:Nat) (b:Option aX) (k:V→List (Nat × Option aX)→Option β) (y:Option β):Option β:=match b with
 | some (.rows v _ _ rows)=>if ver = v then k (.d (.sl rows)) [(id,some (.froz v rows))] else y
 | some (.froz v rows)=>if ver = v then k (.d (.sl rows)) [] else y
 | _=>y
theorem aB7 (id ver:Nat) (k:V→List (Nat × Option aX)→Option β) (y:Option β):OK (.own id ver) bl k y = eD bl id fun b=>aEc id ver b k y:=by
 unfold OK eD aEc
 simp only [pI,CO]
 generalize lk bl none id = b
 cases b with
 | none=>rfl
 | some b=>cases b with
  | rows v e s rows=>simp only; by_cases h:ver = v <;> simp [h]
  | froz v rows=>simp only; by_cases h:ver = v <;> simp [h]
  | _=>rfl
theorem aAr (id v e s:Nat) (rows:List (List D)) (k:V→List (Nat × Option aX)→Option β) (y:Option β):aEc id v (some (.rows v e s rows)) k y = k (.d (.sl rows)) [(id,some (.froz v rows))]:=if_pos rfl
theorem YK (id v:Nat) (rows:List (List D)) (k:V→List (Nat × Option aX)→Option β) (y:Option β):aEc id v (some (.froz v rows)) k y = k (.d (.sl rows)) []:=if_pos rfl
theorem aBt (live keep:List Nat) (t:Nat) (ft:List Nat) (fc:List (Nat × Nat)) (k:List (Nat × V)→List (Nat × Option aX)→Option β) :
  pQ ⟨live,keep,[],[],t :: ft,fc⟩ fr bl k = mK fr t fun v=>OK v bl (fun v' wr=>pQ ⟨live,keep,[],[],ft,fc⟩ ((t,v') :: fr) (wr ++ bl) k) (pQ ⟨live,keep,[],[],ft,fc⟩ fr bl k):=by
 unfold pQ
 rw [aHP]
 unfold frT mK OK
 rw [CB,BA]
 dsimp only
 cases pI (lk bl none) (lk fr .any t) <;> rfl
def aCR (n:Nat) (b:Option aX) (bl:List (Nat × Option aX)) (k:List V→List (Nat × Option aX)→Option β) (y:Option β):Option β:=match b with
 | some (.box cs)=>match cs[n]? with
  | some v=>match pI (lk bl none) v with
   | some d=>k (cs.set n (.d d)) (CO (lk bl none) v)
   | none=>y
  | none=>y
 | _=>y
theorem aCi (live keep:List Nat) (i n:Nat) (fc:List (Nat × Nat)) (k:List (Nat × V)→List (Nat × Option aX)→Option β) :
  pQ ⟨live,keep,[],[],[],(i,n) :: fc⟩ fr bl k = eD bl i fun b=>aCR n b bl (fun cs wr=>pQ ⟨live,keep,[],[],[],fc⟩ fr ((i,some (.box cs)) :: (wr ++ bl)) k) (pQ ⟨live,keep,[],[],[],fc⟩ fr bl k):=by
 unfold pQ
 rw [aIc]
 unfold frC eD aCR
 rw [BA]
 dsimp only
 cases lk bl none i with
 | none=>rfl
 | some b =>
  cases b with
  | box cs =>
   simp only
   cases cs[n]? with
   | none=>rfl
   | some v =>
    simp only
    cases pI (lk bl none) v <;> rfl
  | _=>rfl
theorem aIz (cs:List V) (n:Nat) (w:V) (k:List V→Option β) (h:n < cs.length):vZ cs n w k = k (cs.set n w):=by
 induction cs generalizing n k with
 | nil=>simp at h
 | cons c cs ih=>cases n with
  | zero=>rfl
  | succ n=>simp only [vZ,List.set_cons_succ]; rw [ih n _ (by simpa using h)]
theorem aBK (n:Nat) (cs:List V) (k:List V→List (Nat × Option aX)→Option β) (y:Option β):aCR n (some (.box cs)) bl k y = QV cs n (fun v=>OK v bl (fun v' wr=>vZ cs n v' fun cs'=>k cs' wr) y) y:=by
 have e:∀ (l:List V) (n:Nat) (x:V→Option β),QV l n x y = match l[n]? with | some v=>x v | none=>y:=by
  intro l
  induction l with
  | nil=>intro n x; rfl
  | cons c l ih=>intro n x; cases n with
   | zero=>rfl
   | succ n=>exact ih n x
 rw [e]
 simp only [aCR,OK]
 cases h:cs[n]? with
 | none=>rfl
 | some v =>
  simp only
  cases pI (lk bl none) v with
  | none=>rfl
  | some d=>simp only; rw [aIz _ _ _ _ (List.getElem?_eq_some_iff.1 h).1]
theorem aAu (n:Nat) (k:List V→List (Nat × Option aX)→Option β) (y:Option β):aCR n none bl k y = y:=rfl
end
end Vm
end Go.Proofs.Ytfhebiceipgdmaa
set_option linter.unusedVariables false
set_option linter.unusedSimpArgs false
namespace Go.Proofs.Ytfhebiceipgdmaa
namespace Vm
open Go.RowKit
section
variable {β:Type} {T:AC}
def BT (d:Nat) (op:jA) (fr:List (Nat × V)) (bl:List (Nat × Option aX)) (k:List Nat→Option β):Option β :=
 k ((if op.new = true then [d] else []) ++ ((op.peeks.flatMap fun x=>(cQ (lk fr .any) x).ids) ++ op.deeps.flatMap fun x=>(cQ (lk fr .any) x).dids (lk bl none)))
def CG (wr:List (Nat × Option aX)) (k:List Nat→Option β):Option β:=k (wr.map (·.1))
theorem XI (k:List Nat→Option β):CG [] k = k []:=rfl
theorem aD2 (i:Nat) (b:Option aX) (w:List (Nat × Option aX)) (k:List Nat→Option β):CG ((i,b) :: w) k = CG w fun l=>k (i :: l):=rfl
theorem aDc (w:List (Nat × Option aX)) (k:List Nat→Option β):CG ([] ++ w) k = CG w k:=rfl
theorem aA7 (p:Nat × Option aX) (v w:List (Nat × Option aX)) (k:List Nat→Option β):CG ((p :: v) ++ w) k = CG (p :: (v ++ w)) k:=rfl
theorem aCp (u v w:List (Nat × Option aX)) (k:List Nat→Option β):CG ((u ++ v) ++ w) k = CG (u ++ (v ++ w)) k:=by rw [List.append_assoc]
theorem VN (d:Nat) (op:jA) (l:List bT) (fr:List (Nat × V)) (bl:List (Nat × Option aX)) (fp:List Fp) (k:St→List Fp→Option β) :
  kD T (⟨some d,op,none⟩ :: l) ⟨fr,bl⟩ fp k = sE T d op fr bl (fun v=>BT d op fr bl fun f=>kD T l ⟨(d,v) :: fr,bl⟩ ((f,[]) :: fp) k) (fun v wr=>CG wr fun ws=>BT d op fr bl fun f=>kD T l ⟨(d,v) :: fr,wr ++ bl⟩ ((f,ws) :: fp) k):=by
 rw [JV]
 unfold sE BQ BT
 show (match dW (call T) d (cQ (lk fr .any)) (lk bl none) op with | some (v,wr)=>_ | none=>none) = _
 cases dW (call T) d (cQ (lk fr .any)) (lk bl none) op with
 | none=>rfl
 | some r=>obtain ⟨v,wr⟩:=r; cases wr <;> rfl
theorem PU (op:jA) (l:List bT) (fr:List (Nat × V)) (bl:List (Nat × Option aX)) (fp:List Fp) (k:St→List Fp→Option β) :
  kD T (⟨none,op,none⟩ :: l) ⟨fr,bl⟩ fp k = sE T 0 op fr bl (fun _=>BT 0 op fr bl fun f=>kD T l ⟨fr,bl⟩ ((f,[]) :: fp) k) (fun _ wr=>CG wr fun ws=>BT 0 op fr bl fun f=>kD T l ⟨fr,wr ++ bl⟩ ((f,ws) :: fp) k):=by
 rw [JV]
 unfold sE BQ BT
 show (match dW (call T) 0 (cQ (lk fr .any)) (lk bl none) op with | some (v,wr)=>_ | none=>none) = _
 cases dW (call T) 0 (cQ (lk fr .any)) (lk bl none) op with
 | none=>rfl
 | some r=>obtain ⟨v,wr⟩:=r; cases wr <;> rfl
theorem YS (fr:List (Nat × V)) (bl:List (Nat × Option aX)) (fp:List Fp) (k:St→List Fp→Option β):kD T [] ⟨fr,bl⟩ fp k = k ⟨fr,bl⟩ fp:=rfl
theorem aGy {l:List bT} {ps:List (Nat × Nat)} {s:St} {fp:List Fp} (k:St→Option β) (h:FU l fp.reverse ps = true):aEO l ps k s fp = k s:=if_pos h
theorem yQ {d:Option Nat} {g g' : Option (Nat × Bool)} {fr:Nat→V} {bl:Nat→Option aX} {wr:List (Nat × Option aX)} (t:Nat) (b:Bool) (op:jA):sZ ⟨d,bP t b op,g⟩ fr bl wr = sZ ⟨d,op,g'⟩ fr bl wr:=by
 cases op with
 | pick c x y =>
  cases c with
  | t t' =>
   simp only [bP]
   split <;> rfl
  | c v=>rfl
 | _=>rfl
theorem UF {C:Nat→List D→Option D} {s:St} {t:Nat} {b:Bool} (h:s.get t = .d (.bool b)) (o:bT):iJ C (bO t b o) s = iJ C o s:=by
 obtain ⟨d,op,g⟩:=o
 cases g with
 | some g =>
  obtain ⟨t',w⟩:=g
  simp only [bO]
  split
  ·rename_i e
   subst e
   split
   ·rename_i e
    subst e
    simp only [iJ,bT.wants,h,bT.site,vU h]
    cases w <;> simp only [tZ] <;> cases dW C (d.getD 0) (cQ s.get) s.blk op <;> first | rfl | (simp [yQ (g':=some (t',false)),yQ (g':=some (t',true))]; done) | (simp [yQ (g':=some (t',false)),yQ (g':=some (t',true))]; rfl)
   ·rename_i e
    simp only [iJ,bT.wants,h,bT.site,dW,cQ]
    cases w <;> cases b <;> simp_all [tZ,sZ,jA.new,jA.peeks,jA.deeps]
  ·simp only [iJ,bT.wants,bT.site,vU h]
   cases tZ (s.get t') w <;> simp only [] <;> cases dW C (d.getD 0) (cQ s.get) s.blk op <;> simp [yQ (g':=some (t',w))]
 | none =>
  simp only [bO,iJ,bT.wants,bT.site,vU h]
  cases dW C (d.getD 0) (cQ s.get) s.blk op <;> simp [yQ (g':=none)]
theorem S5 {C:Nat→List D→Option D} {o:bT} {s s' : St} {p:Fp} {t:Nat} (h:¬ o.dst = some t) (e:iJ C o s = some (s',p)):s'.get t = s.get t:=by
 unfold iJ at e
 split at e
 ·split at e
  ·cases e; exact A8 h
  ·cases e
 ·cases e; exact A8 h
 ·cases e
theorem ED {t:Nat} {b:Bool}:∀ (l:List bT) {s:St} (fp:List Fp) (k:St→List Fp→Option β) (h:s.get t = .d (.bool b)),kD T (bL t b l) s fp k = kD T l s fp k
 | [],s,fp,k,h=>rfl
 | o :: l,s,fp,k,h=>by
  simp only [bL,kD,UF h]
  cases e:iJ (call T) o s with
  | none=>rfl
  | some q =>
   obtain ⟨s',p⟩:=q
   simp only
   split
   ·rfl
   ·rename_i hd
    exact ED l _ k (by rw [S5 hd e]; exact h)
noncomputable def A9 (T:AC) (v:V) (t:Nat) (l:List bT) (s:St) (fp:List Fp) (k:St→List Fp→Option β):Option β:=match v with
 | .d (.bool b)=>if b = true then kD T (bL t true l) s fp k else kD T (bL t false l) s fp k
 | .tup []=>match l with
  | o :: r=>kD T r (s.put o.dst (.tup []) []) (([],[]) :: fp) k
  | []=>none
 | _=>none
theorem RM (d:Option Nat) (op:jA) (t:Nat) (w:Bool) (l:List bT) (fr:List (Nat × V)) (bl:List (Nat × Option aX)) (fp:List Fp) (k:St→List Fp→Option β) :
  kD T (⟨d,op,some (t,w)⟩ :: l) ⟨fr,bl⟩ fp k = mK fr t fun v=>A9 T v t (⟨d,op,some (t,w)⟩ :: l) ⟨fr,bl⟩ fp k:=by
 show _ = A9 T (lk fr .any t) t _ _ fp k
 generalize hv:lk fr .any t = v
 have bad:∀ (q:tZ v w = .bad),kD T (⟨d,op,some (t,w)⟩ :: l) ⟨fr,bl⟩ fp k = none:=by
  intro q
  simp only [kD,iJ,bT.wants]
  rw [show (St.get ⟨fr,bl⟩ t) = v from hv,q]
 cases v with
 | d x =>
  cases x with
  | bool b =>
   simp only [A9]
   cases b with
   | true=>rw [if_pos rfl,ED (t:=t) (b:=true) (s:=⟨fr,bl⟩) _ _ _ hv]
   | false=>rw [if_neg (by decide),ED (t:=t) (b:=false) (s:=⟨fr,bl⟩) _ _ _ hv]
  | _=>exact bad rfl
 | tup vs =>
  cases vs with
  | nil =>
   simp only [A9,kD,iJ,bT.wants]
   rw [show (St.get ⟨fr,bl⟩ t) = _ from hv]
   rfl
  | cons x l=>exact bad rfl
 | _=>exact bad rfl
theorem aAm (b:Bool) (t:Nat) (l:List bT) (s:St) (fp:List Fp) (k:St→List Fp→Option β):A9 T (.d (.bool b)) t l s fp k = if b = true then kD T (bL t true l) s fp k else kD T (bL t false l) s fp k:=rfl
theorem aAG (t d:Nat) (op:jA) (g:Option (Nat × Bool)) (l:List bT) (fr:List (Nat × V)) (bl:List (Nat × Option aX)) (fp:List Fp) (k:St→List Fp→Option β):A9 T (.tup []) t (⟨some d,op,g⟩ :: l) ⟨fr,bl⟩ fp k = kD T l ⟨(d,.tup []) :: fr,bl⟩ (([],[]) :: fp) k:=rfl
theorem SH (t:Nat) (op:jA) (g:Option (Nat × Bool)) (l:List bT) (fr:List (Nat × V)) (bl:List (Nat × Option aX)) (fp:List Fp) (k:St→List Fp→Option β):A9 T (.tup []) t (⟨none,op,g⟩ :: l) ⟨fr,bl⟩ fp k = kD T l ⟨fr,bl⟩ (([],[]) :: fp) k:=rfl
theorem uN {l l' : List bT} {s:St} {fp:List Fp} {k:St→List Fp→Option β} (h:l = l'):kD T l s fp k = kD T l' s fp k:=by rw [h]
theorem aE9 (x:D) (ds:List D) (k:D→Option β):bK (x :: ds) 0 k = k x:=rfl
theorem aEZ (x:D) (ds:List D) (n:Nat) (k:D→Option β):bK (x :: ds) (n + 1) k = bK ds n k:=rfl
section
variable {d:Nat} {fr:List (Nat × V)} {bl:List (Nat × Option aX)} {k:List Nat→Option β}
def D5 (v:V) (k:List Nat→Option β):Option β:=k v.ids
theorem aIj (x:D):D5 (.d x) k = k []:=rfl
theorem aB4:D5 .nil k = k []:=rfl
theorem aBB:D5 .any k = k []:=rfl
theorem aCI (i o:Nat):D5 (.ptr i o) k = k [i]:=rfl
theorem aDR (i o:Nat):D5 (.own i o) k = k [i]:=rfl
theorem XD (i v j o:Nat):D5 (.orow i v j o) k = k [i]:=rfl
def s4 (bl:List (Nat × Option aX)):List V→(List Nat→Option β)→Option β
 | [],k=>k []
 | c :: cs,k=>k (c.dids1 (lk bl none) ++ cs.flatMap (V.dids1 (lk bl none)))
def wR (bl:List (Nat × Option aX)) (v:V) (k:List Nat→Option β):Option β:=k (v.dids (lk bl none))
theorem vV (cs:List V):s4 bl cs k = k (cs.flatMap (V.dids1 (lk bl none))):=by cases cs <;> rfl
theorem VA:s4 bl [] k = k []:=rfl
theorem aCL (x:D) (cs:List V):s4 bl (.d x :: cs) k = s4 bl cs k:=by simp only [vV]; rfl
theorem aB9 (cs:List V):s4 bl (.nil :: cs) k = s4 bl cs k:=by simp only [vV]; rfl
theorem SG (cs:List V):s4 bl (.any :: cs) k = s4 bl cs k:=by simp only [vV]; rfl
theorem TO (i o:Nat) (cs:List V):s4 bl (.own i o :: cs) k = s4 bl cs fun l=>k (i :: l):=by simp only [vV]; rfl
theorem aEC (x:D):wR bl (.d x) k = k []:=rfl
theorem YB:wR bl .nil k = k []:=rfl
theorem XX (i o:Nat):wR bl (.own i o) k = k [i]:=rfl
theorem YU (cs:List V):wR bl (.agg cs) k = s4 bl cs k:=by rw [vV]; rfl
theorem RU (ds:List D):(aC ds).flatMap (V.dids1 (lk bl none)) = []:=by
 induction ds with
 | nil=>rfl
 | cons x ds ih=>exact ih
theorem UP (ds:List D):wR bl (cW ds) k = k []:=by
 show k ((aC ds).flatMap (V.dids1 (lk bl none))) = _
 rw [RU]
theorem PY (ds:List D):(aC ds).flatMap V.ids1 = []:=by
 induction ds with
 | nil=>rfl
 | cons x ds ih=>exact ih
def s7:List V→(List Nat→Option β)→Option β
 | [],k=>k []
 | c :: cs,k=>k (c.ids1 ++ cs.flatMap V.ids1)
theorem vT (cs:List V):s7 cs k = k (cs.flatMap V.ids1):=by cases cs <;> rfl
theorem U3:s7 [] k = k []:=rfl
theorem aDv (x:D) (cs:List V):s7 (.d x :: cs) k = s7 cs k:=by simp only [vT]; rfl
theorem aBn (cs:List V):s7 (.nil :: cs) k = s7 cs k:=by simp only [vT]; rfl
theorem TU (cs:List V):s7 (.any :: cs) k = s7 cs k:=by simp only [vT]; rfl
theorem R6 (i o:Nat) (cs:List V):s7 (.own i o :: cs) k = s7 cs fun l=>k (i :: l):=by simp only [vT]; rfl
theorem TF (i o:Nat) (cs:List V):s7 (.ptr i o :: cs) k = s7 cs fun l=>k (i :: l):=by simp only [vT]; rfl
def MF (b:Option aX) (k:List Nat→Option β):Option β:=match b with
 | some (.box cs)=>k (cs.flatMap V.ids1)
 | _=>k []
theorem aAE (c:V) (cs:List V):MF (some (.box (c :: cs))) k = s7 (c :: cs) k:=by rw [vT]; rfl
theorem OA (ds:List D):MF (some (.box (aC ds))) k = k []:=by
 show k ((aC ds).flatMap V.ids1) = _
 rw [PY]
theorem UC (ds:List D):MF (some (.fbox ds)) k = k []:=rfl
theorem T1:MF none k = k []:=rfl
theorem aCZ (i o:Nat):(V.ptr i o).dids1 (lk bl none) = i :: (match lk bl none i with | some (.box cs)=>cs.flatMap V.ids1 | _=>[]):=rfl
theorem Z8 (i o:Nat):wR bl (.ptr i o) k = eD bl i fun b=>MF b fun l=>k (i :: l):=by
 unfold wR eD MF
 show k ((V.ptr i o).dids1 (lk bl none)) = _
 rw [aCZ]
 cases lk bl none i with
 | none=>rfl
 | some b=>cases b <;> rfl
theorem SN (i o:Nat) (cs:List V):s4 bl (.ptr i o :: cs) k = wR bl (.ptr i o) fun m=>s4 bl cs fun l=>k (m ++ l):=by simp only [vV]; rfl
theorem aCs:BT d .fail fr bl k = k []:=rfl
theorem aDL (x:cY):BT d (.move x) fr bl k = k []:=rfl
theorem aBY (a b c:cY):BT d (.pick a b c) fr bl k = k []:=rfl
theorem aAc (z:List V):BT d (.alloc z) fr bl k = k [d]:=rfl
theorem aF0 (x:cY):BT d (.box x) fr bl k = k [d]:=rfl
theorem YL (z:List V) (ps:List (Nat × Nat × cY)):BT d (.build z ps) fr bl k = k []:=rfl
theorem LX (e s b:Nat) (z:List D) (x y:cY):BT d (.makeSlice e s b z x y) fr bl k = k [d]:=rfl
theorem fp1 (l:List Nat):([]:List Nat) ++ ((l ++ []) ++ []) = l:=by simp
theorem aC2 (s:Nat) (a:Bool) (x:cY):BT d (.load s a x) fr bl k = dH fr x fun v=>D5 v k:=by
 show k ([] ++ (((cQ (lk fr .any) x).ids ++ []) ++ [])) = _
 rw [fp1]; rfl
theorem N0 (x:cY):BT d (.nilCheck x) fr bl k = dH fr x fun v=>D5 v k:=by
 show k ([] ++ (((cQ (lk fr .any) x).ids ++ []) ++ [])) = _
 rw [fp1]; rfl
theorem L9 (o:Nat) (x:cY):BT d (.fieldAddr o x) fr bl k = dH fr x fun v=>D5 v k:=by
 show k ([] ++ (((cQ (lk fr .any) x).ids ++ []) ++ [])) = _
 rw [fp1]; rfl
theorem aFW (x:cY):BT d (.len x) fr bl k = dH fr x fun v=>D5 v k:=by
 show k ([] ++ (((cQ (lk fr .any) x).ids ++ []) ++ [])) = _
 rw [fp1]; rfl
theorem YN (s:Nat) (x:cY) (lo hi:Option cY):BT d (.slice s x lo hi) fr bl k = dH fr x fun v=>D5 v k:=by
 show k ([] ++ (((cQ (lk fr .any) x).ids ++ []) ++ [])) = _
 rw [fp1]; rfl
theorem LI (s:Nat) (x i:cY):BT d (.indexAddr s x i) fr bl k = dH fr x fun v=>D5 v k:=by
 show k ([] ++ (((cQ (lk fr .any) x).ids ++ []) ++ [])) = _
 rw [fp1]; rfl
theorem aAB (s:Nat) (x v:cY):BT d (.store s x v) fr bl k = dH fr x fun a=>D5 a fun l=>dH fr v fun b=>wR bl b fun m=>k (l ++ m):=by
 show k ([] ++ (((cQ (lk fr .any) x).ids ++ []) ++ ((cQ (lk fr .any) v).dids (lk bl none) ++ []))) = _
 rw [List.nil_append,List.append_nil,List.append_nil]; rfl
theorem TJ (e s b:Nat) (x y:cY):BT d (.append e s b x y) fr bl k = dH fr x fun u=>D5 u fun l=>dH fr y fun v=>D5 v fun m=>k (d :: (l ++ m)):=by
 show k ([d] ++ (((cQ (lk fr .any) x).ids ++ ((cQ (lk fr .any) y).ids ++ [])) ++ [])) = _
 rw [List.append_nil,List.append_nil]; rfl
def AZ (fr:List (Nat × V)) (bl:List (Nat × Option aX)):List cY→(List Nat→Option β)→Option β
 | [],k=>k []
 | x :: l,k=>dH fr x fun v=>wR bl v fun m=>AZ fr bl l fun n=>k (m ++ n)
theorem GL (l:List cY):∀ (k:List Nat→Option β),AZ fr bl l k = k (l.flatMap fun x=>(cQ (lk fr .any) x).dids (lk bl none)):=by
 induction l with
 | nil=>intro k; rfl
 | cons x l ih=>intro k; simp only [AZ,dH,wR,ih,List.flatMap_cons]
theorem UB (k:List Nat→Option β):AZ fr bl [] k = k []:=rfl
theorem PM (x:cY) (l:List cY) (k:List Nat→Option β):AZ fr bl (x :: l) k = dH fr x fun v=>wR bl v fun m=>AZ fr bl l fun n=>k (m ++ n):=rfl
theorem aC1 (f:Nat) (args:List cY):BT d (.call f args) fr bl k = AZ fr bl args k:=by
 rw [GL]; rfl
theorem aDN (f:Nat) (args:List cY):BT d (.mkfn f args) fr bl k = AZ fr bl args k:=by
 rw [GL]; rfl
theorem ZO (g:cY) (args:List cY):BT d (.callv g args) fr bl k = AZ fr bl args k:=by
 rw [GL]; rfl
def EB (fr:List (Nat × V)) (bl:List (Nat × Option aX)):List (Nat × cY)→(List Nat→Option β)→Option β
 | [],k=>k []
 | (_,x) :: l,k=>dH fr x fun v=>wR bl v fun m=>EB fr bl l fun n=>k (m ++ n)
theorem aAh (l:List (Nat × cY)):∀ (k:List Nat→Option β),EB fr bl l k = k ((l.map fun p=>p.2).flatMap fun x=>(cQ (lk fr .any) x).dids (lk bl none)):=by
 induction l with
 | nil=>intro k; rfl
 | cons x l ih=>intro k; obtain ⟨i,x⟩:=x; simp only [EB,dH,wR,ih,List.map_cons,List.flatMap_cons]
theorem UR (k:List Nat→Option β):EB fr bl [] k = k []:=rfl
theorem QM (i:Nat) (x:cY) (l:List (Nat × cY)) (k:List Nat→Option β):EB fr bl ((i,x) :: l) k = dH fr x fun v=>wR bl v fun m=>EB fr bl l fun n=>k (m ++ n):=rfl
theorem JO (e s n:Nat) (z:List D) (ps:List (Nat × cY)):BT d (.buildSlice e s z n ps) fr bl k = EB fr bl ps fun l=>k (d :: l):=by
 rw [aAh]; rfl
theorem aE4 (c:Nat) (op:BinOp) (x y:cY):BT d (.bin c op x y) fr bl k = k []:=rfl
theorem aFt (ks:List Nat) (n:Bool) (x y:cY):BT d (.eqS ks n x y) fr bl k = k []:=rfl
theorem aIl (op:UnOp) (x:cY):BT d (.un op x) fr bl k = k []:=rfl
theorem aDg (kd:IntKind) (x:cY):BT d (.conv kd x) fr bl k = k []:=rfl
theorem OC (x:cY) (lo hi:Option cY):BT d (.strSlice x lo hi) fr bl k = k []:=rfl
theorem XP (o s:Nat) (a:Bool) (x:cY):BT d (.field o s a x) fr bl k = k []:=rfl
theorem aAD (x i:cY):BT d (.index x i) fr bl k = k []:=rfl
theorem aDW (x:cY):BT d (.lenS x) fr bl k = k []:=rfl
theorem aGT (l:List cY):BT d (.max l) fr bl k = k []:=rfl
theorem aFm (l:List cY):BT d (.min l) fr bl k = k []:=rfl
theorem aAx (x:cY):BT d (.bytes x) fr bl k = k []:=rfl
theorem QS (x:cY) (i:Nat):BT d (.extract x i) fr bl k = k []:=rfl
theorem aDm {k:Ex→St→Option β} (l:List bT) (ps:List (Nat × Nat)):cX T (.region l (some ps)) ⟨fr,bl⟩ k = kD T l ⟨fr,bl⟩ [] (aEO l ps (k .normal)):=by
 rw [aCF,aGJ]
end
section
variable {d:Nat} {fr:List (Nat × V)} {bl:List (Nat × Option aX)} {k:V→Option β} {kw:V→List (Nat × Option aX)→Option β}
theorem aIX (a b c:List (Nat × Option aX)) (v:V):T8 ((a ++ b) ++ c) v k kw = T8 (a ++ (b ++ c)) v k kw:=by rw [List.append_assoc]
def X1 (id:Nat) (f:List (Nat × Option aX)) (x:Option β):Option β:=if wB id f = true then x else none
theorem NE (id:Nat) (b:List (Nat × Option aX)):∀ a:List (Nat × Option aX),wB id (a ++ b) = if wB id a = true then wB id b else false
 | []=>rfl
 | (i,x) :: a=>by
  simp only [List.cons_append,wB]
  by_cases h:i = id
  ·simp [h]
  ·simp only [if_neg h]; exact NE id b a
theorem aGU (id:Nat) (x:Option β):X1 id [] x = x:=rfl
theorem aJp (id i:Nat) (b:Option aX) (w:List (Nat × Option aX)) (x:Option β) (h:(i == id) = false):X1 id ((i,b) :: w) x = X1 id w x:=by
 have h:¬ i = id:=by simpa using h
 simp only [X1,wB,if_neg h]
theorem aFH (id:Nat) (a b:List (Nat × Option aX)) (x:Option β):X1 id (a ++ b) x = X1 id a (X1 id b x):=by
 unfold X1
 rw [NE]
 by_cases h:wB id a = true
 ·rw [if_pos h,if_pos h]
 ·rw [if_neg h,if_neg h]; rfl
def bH (row:List D) (off:Nat) (ds:List D) (size:Nat) (k:List D→Option β):Option β:=if ds.length = size ∧ off + size ≤ row.length then k (gK row off ds) else none
theorem NV (c:D) (cs:List D) (off:Nat) (e:D) (ds:List D) (n:Nat) (k:List D→Option β):bH (c :: cs) (off + 1) (e :: ds) n k = bH cs off (e :: ds) n fun l=>k (c :: l):=by
 unfold bH
 simp only [List.length_cons,gK]
 by_cases h:ds.length + 1 = n ∧ off + n ≤ cs.length
 ·exact (if_pos (by omega)).trans (if_pos h).symm
 ·exact (if_neg (by omega)).trans (if_neg h).symm
theorem PO (c:D) (cs:List D) (e:D) (ds:List D) (n:Nat) (k:List D→Option β):bH (c :: cs) 0 (e :: ds) (n + 1) k = bH cs 0 ds n fun l=>k (e :: l):=by
 unfold bH
 simp only [List.length_cons,gK]
 by_cases h:ds.length = n ∧ 0 + n ≤ cs.length
 ·exact (if_pos (by omega)).trans (if_pos h).symm
 ·exact (if_neg (by omega)).trans (if_neg h).symm
theorem PL (cs:List D) (k:List D→Option β):bH cs 0 [] 0 k = k cs:=by
 unfold bH
 rw [if_pos ⟨rfl,by omega⟩,NB]
def B1 (e:Nat) (rows:List (List D)) (i:Nat) (row:List D) (k:List (List D)→Option β):Option β:=k (rows.set i row)
theorem JZ {α:Type} (e:Nat) (c:α→List D) (xs:List α) (i:Nat) (x:α) (k:List (List D)→Option β):B1 e (cM c xs) i (c x) k = k (cM c (xs.set i x)):=by
 unfold B1
 rw [aII]
theorem aEL {α:Type} (size v i off id e sz:Nat) (w:V) (c:α→List D) (xs:List α):FV size v i off id w bl (some (.rows v e sz (cM c xs))) kw = IL w bl fun ds f=>X1 id f (xs[i]?.bind fun x=>bH (c x) off ds size fun row=>B1 e (cM c xs) i row fun rows=>kw .any ((id,some (.rows v e sz rows)) :: f)):=by
 unfold FV IL
 simp only [J0,if_true,cM,List.getElem?_map]
 cases xs[i]? with
 | none =>
  simp only [Option.map_none,Option.bind_none]
  cases bI (j9 (lk bl none)) w.cells with
  | none=>rfl
  | some ds=>simp only [X1]; split <;> rfl
 | some x =>
  simp only [Option.map_some,Option.bind_some]
  cases bI (j9 (lk bl none)) w.cells with
  | none=>rfl
  | some ds =>
   simp only [bH,B1,X1]
   by_cases h1:wB id (sC (lk bl none) w) = true
   ·rw [if_pos h1]
    by_cases h2:ds.length = size ∧ off + size ≤ (c x).length
    ·rw [if_pos h2,if_pos ⟨h2.1,h2.2,h1⟩]; rfl
    ·rw [if_neg h2,if_neg (fun q=>h2 ⟨q.1,q.2.1⟩)]; rfl
   ·rw [if_neg h1,if_neg (fun q=>h1 q.2.2)]; rfl
end
end
section
variable {β:Type} {T:AC} {bl:List (Nat × Option aX)} {k:V→Option β} {kw:V→List (Nat × Option aX)→Option β}
def qE (size id ver:Nat) (lo hi:Option V) (b:Option aX) (k:V→Option β) (kw:V→List (Nat × Option aX)→Option β):Option β:=DC (rW (fun _=>b) size (.own id ver) lo hi) k kw
theorem T3 (size id ver:Nat) (lo hi:Option V):AS size (.own id ver) lo hi bl k kw = eD bl id fun b=>qE size id ver lo hi b k kw:=by
 unfold AS eD qE
 congr 1
 cases lo with
 | none=>cases hi with
  | none=>rfl
  | some h=>cases h with
   | d x=>cases x <;> rfl
   | _=>rfl
 | some l=>rfl
theorem qO {α:Type} (size id v:Nat) (c:α→List D) (xs:List α) (hs:sized size (cM c xs) = true) (b:aX) (wr:List (Nat × Option aX)) (lo hi:Option V) (l h:Int) (hl:yG lo 0 = some l) (hh:yG hi (xs.length:Int) = some h)
  (hb:iI (fun _=>some b) (.own id v) = some (cM c xs)) (hw:BU (fun _=>some b) (.own id v) = wr) (hn:lo = none→hi = none) :
  qE size id v lo hi (some b) k kw = if fW xs.length l h then DC (some (.d (.sl (cM c (dB xs l h))),wr)) k kw else none:=by
 have e0:rW (fun _=>some b) size (.own id v) lo hi = (match yG hi ((cM c xs).length:Int),yG lo 0 with
   | some h,some l=>if 0 ≤ l ∧ l ≤ h ∧ h.toNat ≤ (cM c xs).length ∧ sized size (cM c xs) = true then some (.d (.sl (((cM c xs).take h.toNat).drop l.toNat)),wr) else none
   | _,_=>none):=by
  cases lo with
  | none =>
   obtain rfl:=hn rfl
   unfold rW
   simp only [hb,hw]
   rfl
  | some w =>
   unfold rW
   simp only [hb,hw]
   rfl
 unfold qE
 rw [e0,show ((cM c xs).length:Int) = (xs.length:Int) by simp [cM],hl,hh]
 simp only [show (cM c xs).length = xs.length by simp [cM]]
 by_cases q:fW xs.length l h
 ·rw [if_pos q,if_pos ⟨q.1,q.2.1,q.2.2,hs⟩]
  simp only [cM,dB,List.map_drop,List.map_take]
 ·rw [if_neg q,if_neg (fun w=>q ⟨w.1,w.2.1,w.2.2.1⟩)]; rfl
section
variable {α:Type} (size id v:Nat) (c:α→List D) (xs:List α) (hs:sized size (cM c xs) = true)
include hs
theorem SP (e s:Nat) (kd:IntKind) (l:Int):qE size id v (some (.d (.int kd l))) none (some (.rows v e s (cM c xs))) k kw = if fW xs.length l (xs.length:Int) then kw (.d (.sl (cM c (dB xs l (xs.length:Int))))) [(id,some (.froz v (cM c xs)))] else none :=
 qO size id v c xs hs _ _ _ _ _ _ rfl rfl (by simp [iI]) rfl (fun h=>by cases h)
theorem UL (e s:Nat) (kd kd' : IntKind) (l h:Int):qE size id v (some (.d (.int kd l))) (some (.d (.int kd' h))) (some (.rows v e s (cM c xs))) k kw = if fW xs.length l h then kw (.d (.sl (cM c (dB xs l h)))) [(id,some (.froz v (cM c xs)))] else none :=
 qO size id v c xs hs _ _ _ _ _ _ rfl rfl (by simp [iI]) rfl (fun h=>by cases h)
theorem TW (e s:Nat):qE size id v none none (some (.rows v e s (cM c xs))) k kw = if fW xs.length 0 (xs.length:Int) then kw (.d (.sl (cM c (dB xs 0 (xs.length:Int))))) [(id,some (.froz v (cM c xs)))] else none :=
 qO size id v c xs hs _ _ _ _ _ _ rfl rfl (by simp [iI]) rfl (fun _=>rfl)
theorem SX (kd:IntKind) (l:Int):qE size id v (some (.d (.int kd l))) none (some (.froz v (cM c xs))) k kw = if fW xs.length l (xs.length:Int) then k (.d (.sl (cM c (dB xs l (xs.length:Int))))) else none :=
 qO size id v c xs hs _ _ _ _ _ _ rfl rfl (by simp [iI]) rfl (fun h=>by cases h)
theorem SQ (kd kd' : IntKind) (l h:Int):qE size id v (some (.d (.int kd l))) (some (.d (.int kd' h))) (some (.froz v (cM c xs))) k kw = if fW xs.length l h then k (.d (.sl (cM c (dB xs l h)))) else none :=
 qO size id v c xs hs _ _ _ _ _ _ rfl rfl (by simp [iI]) rfl (fun h=>by cases h)
theorem T4:qE size id v none none (some (.froz v (cM c xs))) k kw = if fW xs.length 0 (xs.length:Int) then k (.d (.sl (cM c (dB xs 0 (xs.length:Int))))) else none :=
 qO size id v c xs hs _ _ _ _ _ _ rfl rfl (by simp [iI]) rfl (fun _=>rfl)
end
theorem SI {α:Type} (size id v e s:Nat) (c:α→List D) (xs:List α) (kd:IntKind) (h:Int):qE size id v none (some (.d (.int kd h))) (some (.rows v e s (cM c xs))) k kw = if 0 ≤ h ∧ h.toNat ≤ xs.length then kw (.own id (v + 1)) [(id,some (.rows (v + 1) e s (cM c (xs.take h.toNat))))] else none:=by
 unfold qE rW
 simp only [cM,List.length_map,true_and,List.map_take]
 split <;> rfl
end
end Vm
end Go.Proofs.Ytfhebiceipgdmaa
set_option linter.unusedVariables false
set_option linter.unusedSimpArgs false
namespace Go.Proofs.Ytfhebiceipgdmaa
namespace Vm
open Go.RowKit
section
variable {β:Type} {T:AC} {d:Nat} {fr:List (Nat × V)} {bl:List (Nat × Option aX)} {k:V→Option β} {kw:V→List (Nat × Option aX)→Option β}
def aI4 (size:Nat) (a:V) (lo hi:Option V) (bl:List (Nat × Option aX)) (kw:V→List (Nat × Option aX)→Option β):Option β:=match EG (lk bl none) size a lo hi with
 | some (v,wr)=>kw v wr
 | none=>none
def KJ (size id ver:Nat) (lo hi:Option V) (b:Option aX) (kw:V→List (Nat × Option aX)→Option β):Option β:=match EG (fun _=>b) size (.own id ver) lo hi with
 | some (v,wr)=>kw v wr
 | none=>none
theorem aFf {bl:Nat→Option aX} {size:Nat} {a:V} {lo hi:Option V} {v:V} {wr:List (Nat × Option aX)} (h:EG bl size a lo hi = some (v,wr)):∃ p l,wr = p :: l:=by
 unfold EG at h
 split at h
 ·split at h
  ·split at h
   ·split at h
    ·cases h; exact ⟨_,_,rfl⟩
    ·cases h
   ·cases h
  ·cases h
 ·cases h
theorem aEb (size:Nat) (x:cY) (lo hi:Option cY):sE T d (.cut size x lo hi) fr bl k kw = dH fr x fun a=>R0 fr lo fun l=>R0 fr hi fun h=>aI4 size a l h bl kw:=by
 rw [jB]
 simp only [dW]
 have e:∀ (o:Option cY) (g:Option V→Option β),R0 fr o g = g (o.map (cQ (lk fr .any))):=fun o g=>by cases o <;> rfl
 simp only [e,dH,aI4,DC]
 cases h:EG (lk bl none) size (cQ (lk fr .any) x) (lo.map (cQ (lk fr .any))) (hi.map (cQ (lk fr .any))) with
 | none=>rfl
 | some r =>
  obtain ⟨v,wr⟩:=r
  obtain ⟨p,l,rfl⟩:=aFf h
  rfl
theorem aCk (size id ver:Nat) (lo hi:Option V):aI4 size (.own id ver) lo hi bl kw = eD bl id fun b=>KJ size id ver lo hi b kw:=rfl
theorem aBV {α:Type} (c:α→List D) (xs:List α) (e s id v:Nat) (kd:IntKind) (l:Int):KJ s id v (some (.d (.int kd l))) none (some (.rows v e s (cM c xs))) kw = if fW xs.length l (xs.length:Int) then kw (.own id (v + 1)) [(id,some (.rows (v + 1) e s (cM c (dB xs l (xs.length:Int)))))] else none:=by
 have e1:(cM c xs).length = xs.length:=List.length_map ..
 have e2:((cM c xs).take (Int.toNat (xs.length:Int))).drop l.toNat = cM c (dB xs l (xs.length:Int)):=by unfold cM dB; rw [List.map_drop,List.map_take]
 by_cases h:fW xs.length l (xs.length:Int)
 ·rw [if_pos h]
  simp only [KJ,EG,e1,e2]
  rw [if_pos ⟨trivial,trivial,h⟩]
 ·rw [if_neg h]
  simp only [KJ,EG,e1,e2]
  rw [if_neg fun q=>h q.2.2]
theorem aA8 {α:Type} (c:α→List D) (xs:List α) (e s id v:Nat) (kd kd' : IntKind) (l m:Int):KJ s id v (some (.d (.int kd l))) (some (.d (.int kd' m))) (some (.rows v e s (cM c xs))) kw = if fW xs.length l m then kw (.own id (v + 1)) [(id,some (.rows (v + 1) e s (cM c (dB xs l m))))] else none:=by
 have e1:(cM c xs).length = xs.length:=List.length_map ..
 have e2:((cM c xs).take m.toNat).drop l.toNat = cM c (dB xs l m):=by unfold cM dB; rw [List.map_drop,List.map_take]
 by_cases h:fW xs.length l m
 ·rw [if_pos h]
  simp only [KJ,EG,e1,e2]
  rw [if_pos ⟨trivial,trivial,h⟩]
 ·rw [if_neg h]
  simp only [KJ,EG,e1,e2]
  rw [if_neg fun q=>h q.2.2]
def NN (z:List D) (a:V) (bl:List (Nat × Option aX)) (k:V→Option β) (kw:V→List (Nat × Option aX)→Option β):Option β:=DC (match a with
  | .nil=>some (.any,[])
  | .own id ver=>match lk bl none id with
   | some (.rows v e size rows)=>if ver = v ∧ z.length = size then some (.any,[(id,some (.rows v e size (List.replicate rows.length z)))]) else none
   | _=>none
  | _=>none) k kw
def W4 (z:List D) (id ver:Nat) (b:Option aX) (kw:V→List (Nat × Option aX)→Option β):Option β:=match b with
 | some (.rows v e size rows)=>if ver = v ∧ z.length = size then kw .any [(id,some (.rows v e size (List.replicate rows.length z)))] else none
 | _=>none
theorem Y3 (z:List D) (x:cY):sE T d (.clear z x) fr bl k kw = dH fr x fun a=>NN z a bl k kw:=by
 rw [jB]
 rfl
theorem SJ (z:List D):NN z .nil bl k kw = k .any:=rfl
theorem UV (z:List D) (id ver:Nat):NN z (.own id ver) bl k kw = eD bl id fun b=>W4 z id ver b kw:=by
 unfold NN eD W4
 simp only
 cases lk bl none id with
 | none=>rfl
 | some b =>
  cases b with
  | rows v e size rows =>
   simp only
   split <;> rfl
  | _=>rfl
def ZR:List cY→Nat→(cY→Option β)→Option β
 | [],_,_=>none
 | x :: _,0,g=>g x
 | _ :: l,n + 1,g=>ZR l n g
theorem aIp (x:cY) (l:List cY) (g:cY→Option β):ZR (x :: l) 0 g = g x:=rfl
theorem aH4 (x:cY) (l:List cY) (n:Nat) (g:cY→Option β):ZR (x :: l) (n + 1) g = ZR l n g:=rfl
theorem V4 (g:cY→Option β):∀ (l:List cY) (n:Nat),ZR l n g = l[n]?.bind g
 | [],_=>rfl
 | _ :: _,0=>rfl
 | _ :: l,n + 1=>V4 g l n
def OR (v:V) (g:Nat→Nat→Option β):Option β:=match v with
 | .own id ver=>g id ver
 | _=>none
theorem aHR (id ver:Nat) (g:Nat→Nat→Option β):OR (.own id ver) g = g id ver:=rfl
def RI (v:V) (bl:List (Nat × Option aX)) (g:D→Option β):Option β:=(FX (lk bl none) v).bind g
def UG (ver:Nat) (b:Option aX) (g:D→Option β):Option β:=match b with
 | some (.rows v e size rows)=>if ver = v then g (.own (.ref 0) [(e,size)] [rows]) else none
 | _=>none
theorem Z5 (id ver:Nat) (g:D→Option β):RI (.own id ver) bl g = eD bl id fun b=>UG ver b g:=by
 unfold RI eD UG FX
 simp only
 cases lk bl none id with
 | none=>rfl
 | some b =>
  cases b with
  | rows v e size rows=>simp only; split <;> rfl
  | _=>rfl
theorem RQ (v e s:Nat) (rows:List (List D)) (g:D→Option β):UG v (some (.rows v e s rows)) g = g (.own (.ref 0) [(e,s)] [rows]):=if_pos rfl
def BD (fr:List (Nat × V)) (bl:List (Nat × Option aX)) (t:Nat):Nat→List cY→(List D→List (Nat × Option aX)→Option β)→Option β
 | _,[],g=>g [] []
 | i,x :: l,g=>dH fr x fun v=>if i = t then RI v bl fun y=>BD fr bl t (i + 1) l fun ds f=>g (y :: ds) f else wZ v bl fun y f=>BD fr bl t (i + 1) l fun ds f'=>g (y :: ds) (f ++ f')
theorem Y0 (t i:Nat) (g:List D→List (Nat × Option aX)→Option β):BD fr bl t i [] g = g [] []:=rfl
theorem ZU (t i:Nat) (x:cY) (l:List cY) (g:List D→List (Nat × Option aX)→Option β) (h:(i == t) = true):BD fr bl t i (x :: l) g = dH fr x fun v=>RI v bl fun y=>BD fr bl t (i + 1) l fun ds f=>g (y :: ds) f:=by
 have:i = t:=by simpa using h
 simp only [BD,if_pos this]
theorem UK (t i:Nat) (x:cY) (l:List cY) (g:List D→List (Nat × Option aX)→Option β) (h:(i == t) = false):BD fr bl t i (x :: l) g = dH fr x fun v=>wZ v bl fun y f=>BD fr bl t (i + 1) l fun ds f'=>g (y :: ds) (f ++ f'):=by
 have:¬ i = t:=by simpa using h
 simp only [BD,if_neg this]
theorem JX (t:Nat):∀ (l:List cY) (i:Nat) (g:List D→List (Nat × Option aX)→Option β),BD fr bl t i l g = (z0 (lk bl none) t i (l.map (cQ (lk fr .any)))).bind fun ds=>g ds (pL (lk bl none) t i (l.map (cQ (lk fr .any))))
 | [],i,g=>rfl
 | x :: l,i,g=>by
  simp only [BD,List.map_cons,z0,pL,dH]
  by_cases h:i = t
  ·simp only [if_pos h,RI,JX t l (i + 1)]
   cases FX (lk bl none) (cQ (lk fr .any) x) with
   | none=>rfl
   | some y =>
    cases z0 (lk bl none) t (i + 1) (l.map (cQ (lk fr .any))) with
    | none=>rfl
    | some ds=>simp
  ·simp only [if_neg h,wZ,JX t l (i + 1)]
   cases iX (lk bl none) (cQ (lk fr .any) x) with
   | none=>rfl
   | some y=>cases z0 (lk bl none) t (i + 1) (l.map (cQ (lk fr .any))) <;> rfl
noncomputable def aHw (T:AC) (bl:List (Nat × Option aX)) (f id ver:Nat) (ds:List D) (kw:V→List (Nat × Option aX)→Option β):Option β:=match call T f ds with
 | some (.own y [(e,size)] [rows'])=>match lk bl none id with
  | some (.rows v e' size' _)=>if ver = v ∧ e = e' ∧ size = size' ∧ EN y = true ∧ FG rows' = true then kw (toV y) [(id,some (.rows v e size rows'))] else none
  | _=>none
 | _=>none
theorem aAP (f:Nat) (args:List cY) (t:Nat):sE T d (.lend f args t) fr bl k kw = ZR args t fun x=>dH fr x fun v=>OR v fun id ver=>BD fr bl t 0 args fun ds fz=>X1 id fz (aHw T bl f id ver ds kw):=by
 rw [jB,V4]
 simp only [dW,List.getElem?_map]
 cases args[t]? with
 | none=>rfl
 | some x =>
  simp only [Option.map_some,Option.bind_some,dH]
  generalize cQ (lk fr .any) x = v
  cases v with
  | own id ver =>
   simp only [OR,JX]
   cases z0 (lk bl none) t 0 (args.map (cQ (lk fr .any))) with
   | none=>rfl
   | some ds =>
    simp only [Option.bind_some,X1]
    split
    ·unfold aHw
     generalize call T f ds = r
     generalize lk bl none id = b
     split
     ·split
      ·split
       ·rename_i hq
        exact (if_pos hq).symm
       ·rename_i hq
        exact (if_neg hq).symm
      ·rename_i hq
       cases b with
       | none=>rfl
       | some b=>cases b <;> first | rfl | exact absurd rfl (hq _ _ _ _)
     ·rename_i hq
      split
      ·exact absurd rfl (hq _ _ _ _)
      ·rfl
    ·rfl
  | _=>rfl
def aHZ (ver e size:Nat) (rows' : List (List D)) (b:Option aX) (g:Option aX→Option β):Option β:=match b with
 | some (.rows v e' s' _)=>if ver = v ∧ e = e' ∧ size = s' then g (some (.rows v e size rows')) else none
 | _=>none
theorem QO (v e s:Nat) (rows rows' : List (List D)) (g:Option aX→Option β):aHZ v e s rows' (some (.rows v e s rows)) g = g (some (.rows v e s rows')):=if_pos ⟨rfl,rfl,rfl⟩
def aHS (res:List sQ) (t:Nat):Ex→St→Option D
 | .normal,s=>xE ⟨0,0,res,.skip,true,true⟩ s t
 | .ret,s=>xE ⟨0,0,res,.skip,true,true⟩ s t
 | .exit _,_=>none
def RX (ver:Nat) (b:Option aX) (g:Nat→Nat→List (List D)→Option D):Option D:=match b with
 | some (.rows v e size rows)=>if ver = v then g e size rows else none
 | _=>none
theorem T6 (v e s:Nat) (rows:List (List D)) (g:Nat→Nat→List (List D)→Option D):RX v (some (.rows v e s rows)) g = g e s rows:=if_pos rfl
def F7 (e s:Nat) (rows:List (List D)) (y:D):Option D:=if EN y = true then some (.own y [(e,s)] [rows]) else none
theorem aAV (e s:Nat) (rows:List (List D)):F7 e s rows (.tup []) = some (.own (.tup []) [(e,s)] [rows]):=rfl
theorem aDK (e s:Nat) (rows:List (List D)) (k:IntKind) (n:Int):F7 e s rows (.int k n) = some (.own (.int k n) [(e,s)] [rows]):=rfl
theorem aA0 (e s:Nat) (rows:List (List D)) (b:Bool):F7 e s rows (.bool b) = some (.own (.bool b) [(e,s)] [rows]):=rfl
theorem W5 (res:List sQ) (t:Nat):xE ⟨0,0,res,.skip,true,true⟩ ⟨fr,bl⟩ t = mK fr t fun v=>OR v fun id ver=>eD bl id fun b=>RX ver b fun e s rows=>(C8 fr bl res EZ).bind (F7 e s rows):=by
 unfold xE mK
 rw [CB]
 cases lk fr .any t with
 | own id ver =>
  simp only [OR,eD,RX]
  rw [BA]
  cases lk bl none id with
  | none=>rfl
  | some b =>
   cases b with
   | rows v e size rows =>
    simp only
    split
    ·rw [← NL]
     cases bI (vQ ⟨fr,bl⟩) res with
     | none=>rfl
     | some us =>
      cases us with
      | nil=>rfl
      | cons u us=>cases us with
       | nil=>simp only [BA]; cases iX (lk bl none) u <;> rfl
       | cons w us=>simp only [BA]; cases toD (lk bl none) (.tup (u :: w :: us)) <;> rfl
    ·rfl
   | _=>rfl
 | _=>rfl
theorem aIN (res:List sQ) (t:Nat):aHS res t .normal ⟨fr,bl⟩ = mK fr t fun v=>OR v fun id ver=>eD bl id fun b=>RX ver b fun e s rows=>(C8 fr bl res EZ).bind (F7 e s rows):=W5 res t
theorem aH1 (res:List sQ) (t:Nat):aHS res t .ret ⟨fr,bl⟩ = mK fr t fun v=>OR v fun id ver=>eD bl id fun b=>RX ver b fun e s rows=>(C8 fr bl res EZ).bind (F7 e s rows):=W5 res t
theorem aId (res:List sQ) (t i:Nat) (s:St):aHS res t (.exit i) s = none:=rfl
theorem aGb:EZ [] = some (.tup []):=rfl
end
end Vm
end Go.Proofs.Ytfhebiceipgdmaa
