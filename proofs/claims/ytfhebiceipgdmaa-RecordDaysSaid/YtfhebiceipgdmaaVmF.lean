/- The small machine, read from the front: slices that are laid out, calls, masks, answers. The small machine, read from the front: regions whose order is drawn. The small machine, read from the front: slices that are lent, cut, cleared. -/
import Derived.Test.YtfhebiceipgdmaaVmE
set_option linter.unusedVariables false
set_option linter.unusedSimpArgs false
namespace Go.Proofs.Ytfhebiceipgdmaa
theorem zA.{u} {α:Type u} {a:α} {l:List α}:(a::l).length = l.length + 1:=rfl
theorem zB.{u} {α:Type u}:([]:List α).length = 0:=rfl
theorem zC:(!true) = false:=rfl
theorem zD:(!false) = true:=rfl
theorem zE.{u} {α:Type u} {n:Nat} {a:α}:List.replicate (n + 1) a = a::List.replicate n a:=rfl
theorem zF.{u} {α:Type u} {a:α}:List.replicate 0 a = []:=rfl
theorem zG.{u,v} {α:Type u} {β:Type v} (a:α) (f:α→Option β):(some a).bind f = f a:=rfl
theorem zH.{u,v} {α:Type u} {β:Type v} (a:α) (f:α→β):(some a).map f = some (f a):=rfl
theorem zI.{u,v} {α:Type u} {β:Type v} (f:α→β):(none:Option α).map f = none:=rfl
theorem zJ.{u,v,w} {α:Type u} {β:Type v} {γ:Sort w} (f:α→γ) (g:β→γ) (x:α):Sum.elim f g (Sum.inl x) = f x:=rfl
theorem zK.{u,v,w} {α:Type u} {β:Type v} {γ:Sort w} (f:α→γ) (g:β→γ) (x:β):Sum.elim f g (Sum.inr x) = g x:=rfl
theorem zL.{u,v,w} {α:Type u} {β:Type v} {γ:Type w} (x:Option α) (f:α→Option β) (g:β→Option γ):(x.bind f).bind g = x.bind fun y=>(f y).bind g:=Option.bind_assoc x f g
theorem zM.{u} {α:Type u} [BEq α] [ReflBEq α] (a:α):(a == a) = true:=beq_self_eq_true a
theorem zN:(¬False) = True:=not_false_eq_true
namespace Vm
open Go.RowKit
section
variable {β:Type} {T:AL} {d:Nat} {fr:List (Nat × V)} {bl:List (Nat × Option aX)} {k:V→Option β} {kw:V→List (Nat × Option aX)→Option β}
def uE (bl:List (Nat × Option aX)):List V→(List D→List (Nat × Option aX)→Option β)→Option β
 | [],k=>k [] []
 | v :: cs,k=>(j7 (lk bl none) v).bind fun x=>uE bl cs fun ds f=>k (x :: ds) (BU (lk bl none) v ++ f)
theorem PL (cs:List V) (k:List D→List (Nat × Option aX)→Option β):uE bl cs k = (bI (j7 (lk bl none)) cs).bind fun ds=>k ds (cs.flatMap (BU (lk bl none))):=by
 induction cs generalizing k with
 | nil=>rfl
 | cons v cs ih =>
  simp only [uE,bI,ih,List.flatMap_cons]
  cases j7 (lk bl none) v with
  | none=>rfl
  | some x=>cases bI (j7 (lk bl none)) cs <;> rfl
def RZ (v:V) (bl:List (Nat × Option aX)) (k:D→List (Nat × Option aX)→Option β):Option β:=(j7 (lk bl none) v).bind fun x=>k x (BU (lk bl none) v)
theorem aJ1 (x:D) (k:D→List (Nat × Option aX)→Option β):RZ (.d x) bl k = k x []:=rfl
theorem aF1 (k:D→List (Nat × Option aX)→Option β):RZ .nil bl k = k (.sl []) []:=rfl
def d1B (id ver:Nat) (b:Option aX) (k:D→List (Nat × Option aX)→Option β):Option β:=match b with
 | some (.rows v _ _ rows)=>if ver = v then k (.sl rows) [(id,some (.froz v rows))] else none
 | some (.froz v rows)=>if ver = v then k (.sl rows) [] else none
 | _=>none
theorem aGB (id ver:Nat) (k:D→List (Nat × Option aX)→Option β):RZ (.own id ver) bl k = eD bl id fun b=>d1B id ver b k:=by
 unfold RZ eD d1B
 simp only [j7,BU,pK,CO]
 generalize lk bl none id = b
 cases b with
 | none=>rfl
 | some b=>cases b with
  | rows v e s rows=>simp only; by_cases h:ver = v <;> simp [h]
  | froz v rows=>simp only; by_cases h:ver = v <;> simp [h]
  | _=>rfl
theorem aBf (id v e s:Nat) (rows:List (List D)) (k:D→List (Nat × Option aX)→Option β):d1B id v (some (.rows v e s rows)) k = k (.sl rows) [(id,some (.froz v rows))]:=if_pos rfl
theorem aB2 (id v:Nat) (rows:List (List D)) (k:D→List (Nat × Option aX)→Option β):d1B id v (some (.froz v rows)) k = k (.sl rows) []:=if_pos rfl
def pN (bl:List (Nat × Option aX)):List V→(List D→List (Nat × Option aX)→Option β)→Option β
 | [],k=>k [] []
 | v :: cs,k=>(pK (lk bl none) v).bind fun x=>pN bl cs fun ds f=>k (x :: ds) (CO (lk bl none) v ++ f)
theorem aAq (cs:List V) (k:List D→List (Nat × Option aX)→Option β):pN bl cs k = (bI (pK (lk bl none)) cs).bind fun ds=>k ds (cs.flatMap (CO (lk bl none))):=by
 induction cs generalizing k with
 | nil=>rfl
 | cons v cs ih =>
  simp only [pN,bI,ih,List.flatMap_cons]
  cases pK (lk bl none) v with
  | none=>rfl
  | some x=>cases bI (pK (lk bl none)) cs <;> rfl
theorem TA (k:List D→List (Nat × Option aX)→Option β):pN bl [] k = k [] []:=rfl
theorem aCD (x:D) (cs:List V) (k:List D→List (Nat × Option aX)→Option β):pN bl (.d x :: cs) k = pN bl cs fun ds f=>k (x :: ds) f:=rfl
theorem aDJ (cs:List V) (k:List D→List (Nat × Option aX)→Option β):pN bl (.nil :: cs) k = pN bl cs fun ds f=>k (.sl [] :: ds) f:=rfl
theorem TS (id ver:Nat) (cs:List V) (k:List D→List (Nat × Option aX)→Option β):pN bl (.own id ver :: cs) k = RZ (.own id ver) bl fun x g=>pN bl cs fun ds f=>k (x :: ds) (g ++ f):=rfl
theorem DW (ds:List D) (k:List D→List (Nat × Option aX)→Option β):pN bl (aC ds) k = k ds []:=by
 have:∀ (ds:List D) (k:List D→List (Nat × Option aX)→Option β),pN bl (aC ds) k = k ds []:=by
  intro ds
  induction ds with
  | nil=>intro k; rfl
  | cons x ds ih=>intro k; show pN bl (aC ds) _ = _; rw [ih]; rfl
 exact this ds k
def d1P (id off:Nat) (b:Option aX) (bl:List (Nat × Option aX)) (k:D→List (Nat × Option aX)→Option β):Option β:=match b with
 | some (.box cs)=>pN bl cs fun ds f=>k (.ptr ds off) ((id,some (.fbox ds)) :: f)
 | some (.fbox ds)=>k (.ptr ds off) []
 | _=>none
theorem aEN (id off:Nat) (k:D→List (Nat × Option aX)→Option β):RZ (.ptr id off) bl k = eD bl id fun b=>d1P id off b bl k:=by
 unfold RZ eD d1P
 simp only [j7,BU]
 cases lk bl none id with
 | none=>rfl
 | some b=>cases b with
  | box cs =>
   simp only [aAq]
   cases bI (pK (lk bl none)) cs <;> rfl
  | _=>rfl
theorem aGf (id off:Nat) (c:V) (cs:List V) (k:D→List (Nat × Option aX)→Option β):d1P id off (some (.box (c :: cs))) bl k = pN bl (c :: cs) fun ds f=>k (.ptr ds off) ((id,some (.fbox ds)) :: f):=rfl
theorem T7 (id off:Nat) (ds:List D) (k:D→List (Nat × Option aX)→Option β):d1P id off (some (.box (aC ds))) bl k = k (.ptr ds off) [(id,some (.fbox ds))]:=by
 show pN bl (aC ds) _ = _
 rw [DW]
theorem aBo (id off:Nat) (ds:List D) (k:D→List (Nat × Option aX)→Option β):d1P id off (some (.fbox ds)) bl k = k (.ptr ds off) []:=rfl
theorem Z4 (id off:Nat) (cs:List V) (k:List D→List (Nat × Option aX)→Option β):uE bl (.ptr id off :: cs) k = RZ (.ptr id off) bl fun x g=>uE bl cs fun ds f=>k (x :: ds) (g ++ f):=rfl
theorem aAp (k:List D→List (Nat × Option aX)→Option β):uE bl [] k = k [] []:=rfl
theorem aGs (x:D) (cs:List V) (k:List D→List (Nat × Option aX)→Option β):uE bl (.d x :: cs) k = uE bl cs fun ds f=>k (x :: ds) f:=rfl
theorem aFP (cs:List V) (k:List D→List (Nat × Option aX)→Option β):uE bl (.nil :: cs) k = uE bl cs fun ds f=>k (.sl [] :: ds) f:=rfl
theorem aAE (id ver:Nat) (cs:List V) (k:List D→List (Nat × Option aX)→Option β):uE bl (.own id ver :: cs) k = RZ (.own id ver) bl fun x g=>uE bl cs fun ds f=>k (x :: ds) (g ++ f):=rfl
theorem A7 (ds:List D) (k:List D→List (Nat × Option aX)→Option β):uE bl (aC ds) k = k ds []:=by
 have:∀ (ds:List D) (k:List D→List (Nat × Option aX)→Option β),uE bl (aC ds) k = k ds []:=by
  intro ds
  induction ds with
  | nil=>intro k; rfl
  | cons x ds ih=>intro k; show uE bl (aC ds) _ = _; rw [ih]; rfl
 exact this ds k
def wZ (v:V) (bl:List (Nat × Option aX)) (k:D→List (Nat × Option aX)→Option β):Option β:=(iY (lk bl none) v).bind fun x=>k x (rS (lk bl none) v)
theorem aIE (x:D) (k:D→List (Nat × Option aX)→Option β):wZ (.d x) bl k = k x []:=rfl
theorem aCx (k:D→List (Nat × Option aX)→Option β):wZ .nil bl k = k (.sl []) []:=rfl
theorem aC7 (id ver:Nat) (k:D→List (Nat × Option aX)→Option β):wZ (.own id ver) bl k = RZ (.own id ver) bl k:=rfl
theorem aDU (id off:Nat) (k:D→List (Nat × Option aX)→Option β):wZ (.ptr id off) bl k = RZ (.ptr id off) bl k:=rfl
theorem QR (cs:List V) (k:D→List (Nat × Option aX)→Option β):wZ (.agg cs) bl k = uE bl cs fun ds f=>k (.agg ds) f:=by
 rw [PL]
 show ((bI (j7 (lk bl none)) cs).map D.agg).bind _ = _
 cases bI (j7 (lk bl none)) cs <;> rfl
theorem XC (ds:List D) (k:D→List (Nat × Option aX)→Option β):wZ (cW ds) bl k = k (.agg ds) []:=by
 show wZ (.agg (aC ds)) bl k = _
 rw [QR,A7]
theorem aIr (x:D) (k:List D→List (Nat × Option aX)→Option β):IP (.d x) bl k = k [x] []:=rfl
theorem QH (cs:List V) (k:List D→List (Nat × Option aX)→Option β):IP (.agg cs) bl k = uE bl cs k:=by
 rw [PL]
 show (match bI (j7 (lk bl none)) cs with | some row=>k row (cs.flatMap (BU (lk bl none))) | none=>none) = _
 cases bI (j7 (lk bl none)) cs <;> rfl
theorem X9 (ds:List D) (k:List D→List (Nat × Option aX)→Option β):IP (cW ds) bl k = k ds []:=by
 show IP (.agg (aC ds)) bl k = _
 rw [QH,A7]
theorem aCn (k:List D→List (Nat × Option aX)→Option β):IP .nil bl k = k [.sl []] []:=rfl
theorem aCt (id ver:Nat) (k:List D→List (Nat × Option aX)→Option β):IP (.own id ver) bl k = RZ (.own id ver) bl fun x f=>k [x] f:=by
 unfold IP RZ
 show (match bI (j7 (lk bl none)) [.own id ver] with | some row=>k row (BU (lk bl none) (.own id ver)) | none=>none) = _
 simp only [bI]
 cases j7 (lk bl none) (.own id ver) <;> rfl
def Q5 (rs:List (List D)) (i:Nat) (row:List D) (k:List (List D)→Option β):Option β:=if i < rs.length then k (rs.set i row) else none
theorem aI4 (r:List D) (rs:List (List D)) (row:List D) (k:List (List D)→Option β):Q5 (r :: rs) 0 row k = k (row :: rs):=by simp [Q5]
theorem aHO (r:List D) (rs:List (List D)) (i:Nat) (row:List D) (k:List (List D)→Option β):Q5 (r :: rs) (i + 1) row k = Q5 rs i row fun l=>k (r :: l):=by
 unfold Q5
 simp only [List.length_cons,List.set_cons_succ]
 by_cases h:i < rs.length
 ·rw [if_pos h,if_pos (by omega)]
 ·rw [if_neg h,if_neg (by omega)]
def bsF (fr:List (Nat × V)) (bl:List (Nat × Option aX)) (size:Nat) (rs:List (List D)):List (Nat × cY)→List (Nat × Option aX)→(List (List D)→List (Nat × Option aX)→Option β)→Option β
 | [],wr,k=>k rs wr
 | (i,x) :: r,wr,k=>dH fr x fun v=>IP v bl fun row f=>hZ row size (Q5 rs i row fun rs'=>bsF fr bl size rs' r (wr ++ f) k)
theorem aD3 (size:Nat) (rs:List (List D)) (wr:List (Nat × Option aX)) (k:List (List D)→List (Nat × Option aX)→Option β):bsF fr bl size rs [] wr k = k rs wr:=rfl
theorem aBB (size:Nat) (rs:List (List D)) (i:Nat) (x:cY) (r:List (Nat × cY)) (wr:List (Nat × Option aX)) (k:List (List D)→List (Nat × Option aX)→Option β):bsF fr bl size rs ((i,x) :: r) wr k = dH fr x fun v=>IP v bl fun row f=>hZ row size (Q5 rs i row fun rs'=>bsF fr bl size rs' r (wr ++ f) k):=rfl
theorem aI3 (size:Nat) (parts:List (Nat × cY)):∀ (rs:List (List D)) (wr:List (Nat × Option aX)) (k:List (List D)→List (Nat × Option aX)→Option β),bsF fr bl size rs parts wr k = (jT (lk bl none) size rs (parts.map fun p=>(p.1,cQ (lk fr .any) p.2))).bind fun rs'=>k rs' (wr ++ parts.flatMap fun p=>rS (lk bl none) (cQ (lk fr .any) p.2)):=by
 induction parts with
 | nil=>intro rs wr k; simp [bsF,jT]
 | cons p r ih =>
  intro rs wr k
  obtain ⟨i,x⟩:=p
  simp only [bsF,dH,IP,List.map_cons,jT,List.flatMap_cons]
  cases bI (j7 (lk bl none)) (cQ (lk fr .any) x).cells with
  | none=>rfl
  | some row =>
   simp only [hZ,Q5]
   by_cases h1:row.length = size
   ·by_cases h2:i < rs.length
    ·rw [if_pos h1,if_pos h2,if_pos ⟨h1,h2⟩,ih,List.append_assoc]
    ·rw [if_pos h1,if_neg h2,if_neg (fun q=>h2 q.2)]; rfl
   ·rw [if_neg h1,if_neg (fun q=>h1 q.1)]; rfl
theorem K4 (e size n:Nat) (z:List D) (parts:List (Nat × cY)):sK T d (.buildSlice e size z n parts) fr bl k kw = eD bl d fun b=>vJ b (bsF fr bl size (List.replicate n z) parts [] fun rows wr=>F2 e rows fun rows=>kw (.own d 0) ((d,some (.rows 0 e size rows)) :: wr)):=by
 rw [jH]
 unfold eD vJ F2
 simp only [dV,aI3,List.nil_append]
 cases lk bl none d with
 | some b=>rfl
 | none =>
  simp only
  have e1:(parts.map fun x=>match x with | (i,x)=>(i,cQ (lk fr .any) x)) = parts.map fun p=>(p.1,cQ (lk fr .any) p.2):=rfl
  have e2:(parts.flatMap fun x=>match x with | (_,x)=>rS (lk bl none) (cQ (lk fr .any) x)) = parts.flatMap fun p=>rS (lk bl none) (cQ (lk fr .any) p.2):=rfl
  rw [e1,e2]
  cases jT (lk bl none) size (List.replicate n z) (parts.map fun p=>(p.1,cQ (lk fr .any) p.2)) <;> rfl
theorem LZ {α:Type} (e size bytes:Nat) (z:List D) (c:α→List D) (x:α) (hz:z = c x) (l cp:cY):sK T d (.makeSlice e size bytes z l cp) fr bl k kw = eD bl d fun b=>vJ b (dH fr l fun a=>dH fr cp fun b=>match a,b with
   | .d (.int _ n),.d (.int _ m)=>if 0 ≤ n ∧ n ≤ m ∧ (bytes:Int) * m ≤ 281474976710656 ∧ m ≤ 9223372036854775807 then kw (.own d 0) [(d,some (.rows 0 e size (cM c (List.replicate n.toNat x))))] else none
   | _,_=>none):=by
 subst hz
 rw [jH]
 unfold eD vJ dH
 simp only [dV,OC]
 generalize cQ (lk fr .any) l = a
 generalize cQ (lk fr .any) cp = b
 cases lk bl none d with
 | some b=>rfl
 | none =>
  simp only
  split
  ·rename_i n _ m
   simp only
   by_cases h:0 ≤ n ∧ n ≤ m ∧ (bytes:Int) * m ≤ 281474976710656 ∧ m ≤ 9223372036854775807
   ·rw [if_pos h,if_pos h]; rfl
   ·rw [if_neg h,if_neg h]; rfl
  ·rename_i h
   split
   ·rename_i n _ m
    exact absurd rfl (h _ _ _ _ rfl)
   ·rfl
def JC (fr:List (Nat × V)) (bl:List (Nat × Option aX)):List cY→(List D→List (Nat × Option aX)→Option β)→Option β
 | [],k=>k [] []
 | x :: l,k=>dH fr x fun v=>wZ v bl fun y f=>JC fr bl l fun ds g=>k (y :: ds) (f ++ g)
theorem Z3 (k:List D→List (Nat × Option aX)→Option β):JC fr bl [] k = k [] []:=rfl
theorem T3 (x:cY) (l:List cY) (k:List D→List (Nat × Option aX)→Option β):JC fr bl (x :: l) k = dH fr x fun v=>wZ v bl fun y f=>JC fr bl l fun ds g=>k (y :: ds) (f ++ g):=rfl
theorem aDg (l:List cY) (k:List D→List (Nat × Option aX)→Option β):JC fr bl l k = (bI (fun x=>iY (lk bl none) (cQ (lk fr .any) x)) l).bind fun ds=>k ds (l.flatMap fun x=>rS (lk bl none) (cQ (lk fr .any) x)):=by
 induction l generalizing k with
 | nil=>rfl
 | cons x l ih =>
  simp only [JC,dH,wZ,bI,ih,List.flatMap_cons]
  cases iY (lk bl none) (cQ (lk fr .any) x) with
  | none=>rfl
  | some y=>cases bI (fun x=>iY (lk bl none) (cQ (lk fr .any) x)) l <;> rfl
def TJ (fz:List (Nat × Option aX)) (v:V) (k:V→Option β) (kw:V→List (Nat × Option aX)→Option β):Option β:=match fz with
 | []=>k v
 | p :: w=>kw v (p :: w)
theorem aGE (v:V):TJ [] v k kw = k v:=rfl
theorem aIp (l:List (Nat × Option aX)) (v:V):TJ ([] ++ l) v k kw = TJ l v k kw:=rfl
theorem aH3 (p:Nat × Option aX) (w l:List (Nat × Option aX)) (v:V):TJ ((p :: w) ++ l) v k kw = kw v ((p :: w) ++ l):=rfl
theorem aAT (p:Nat × Option aX) (w:List (Nat × Option aX)) (v:V):TJ (p :: w) v k kw = kw v (p :: w):=rfl
noncomputable def dM (T:AL) (d:Nat) (bl:List (Nat × Option aX)) (f:Nat) (ds:List D) (fz:List (Nat × Option aX)) (k:V→Option β) (kw:V→List (Nat × Option aX)→Option β):Option β:=match call T f ds with
 | none=>none
 | some r=>DD (sH d (lk bl none) fz r) k kw
theorem aDq (f:Nat) (args:List cY):sK T d (.call f args) fr bl k kw = JC fr bl args fun ds fz=>dM T d bl f ds fz k kw:=by
 rw [jH,aDg]
 simp only [dV]
 cases bI (fun x=>iY (lk bl none) (cQ (lk fr .any) x)) args with
 | none=>rfl
 | some ds =>
  simp only [Option.bind_some,dM]
  cases call T f ds <;> rfl
def D.calm:D→Bool
 | .own _ _ _=>false
 | _=>true
theorem V8 {x:D} (h:x.calm = true):∀ y es rs,x ≠ .own y es rs:=fun y es rs e=>by rw [e] at h; cases h
theorem XY {x:D} (h:D6 x = true):x.calm = true:=by cases x <;> first | rfl | cases h
theorem bR {α:Type} {f:Nat} {ds:List D} {o:Option α} {enc:α→D} (h:call T f ds = o.map enc) (hf:∀ x,D6 (enc x) = true) (fz:List (Nat × Option aX)):dM T d bl f ds fz k kw = o.bind fun x=>k (toV (enc x)):=by
 unfold dM
 rw [h]
 cases o with
 | none=>rfl
 | some x=>simp only [Option.map_some,Option.bind_some]; rw [AS (V8 (XY (hf x))),if_pos (hf x)]; rfl
theorem s4 {α:Type} {f:Nat} {ds:List D} {o:Option α} {enc:α→D} (h:call T f ds = o.map enc) (hf:∀ x,D6 (enc x) = false) (hc:∀ x,(enc x).calm = true) (fz:List (Nat × Option aX)):dM T d bl f ds fz k kw = o.bind fun x=>TJ fz (toV (enc x)) k kw:=by
 unfold dM
 rw [h]
 cases o with
 | none=>rfl
 | some x=>simp only [Option.map_some,Option.bind_some]; rw [AS (V8 (hc x)),if_neg (by rw [hf x]; decide)]; cases fz <;> rfl
def JL (fr:List (Nat × V)) (bl:List (Nat × Option aX)):List cY→(List D→List (Nat × Option aX)→Option β)→Option β
 | [],k=>k [] []
 | x :: l,k=>dH fr x fun v=>RZ v bl fun y f=>JL fr bl l fun ds g=>k (y :: ds) (f ++ g)
theorem ZA (k:List D→List (Nat × Option aX)→Option β):JL fr bl [] k = k [] []:=rfl
theorem UO (x:cY) (l:List cY) (k:List D→List (Nat × Option aX)→Option β):JL fr bl (x :: l) k = dH fr x fun v=>RZ v bl fun y f=>JL fr bl l fun ds g=>k (y :: ds) (f ++ g):=rfl
theorem aDh (l:List cY) (k:List D→List (Nat × Option aX)→Option β):JL fr bl l k = (bI (fun x=>j7 (lk bl none) (cQ (lk fr .any) x)) l).bind fun ds=>k ds (l.flatMap fun x=>BU (lk bl none) (cQ (lk fr .any) x)):=by
 induction l generalizing k with
 | nil=>rfl
 | cons x l ih =>
  simp only [JL,dH,RZ,bI,ih,List.flatMap_cons]
  cases j7 (lk bl none) (cQ (lk fr .any) x) with
  | none=>rfl
  | some y=>cases bI (fun x=>j7 (lk bl none) (cQ (lk fr .any) x)) l <;> rfl
theorem aAO (f:Nat) (caps:List cY):sK T d (.mkfn f caps) fr bl k kw = JL fr bl caps fun ds fz=>TJ fz (.d (.fn f ds)) k kw:=by
 rw [jH,aDh]
 simp only [dV]
 cases bI (fun x=>j7 (lk bl none) (cQ (lk fr .any) x)) caps with
 | none=>rfl
 | some ds =>
  simp only [Option.bind_some]
  cases caps.flatMap fun x=>BU (lk bl none) (cQ (lk fr .any) x) <;> rfl
def HO (fr:List (Nat × V)) (bl:List (Nat × Option aX)) (caps:List D):List cY→(List D→List (Nat × Option aX)→Option β)→Option β
 | [],k=>k caps []
 | x :: l,k=>dH fr x fun v=>wZ v bl fun y f=>HO fr bl caps l fun ds g=>k (y :: ds) (f ++ g)
theorem YD (caps:List D) (k:List D→List (Nat × Option aX)→Option β):HO fr bl caps [] k = k caps []:=rfl
theorem UB (caps:List D) (x:cY) (l:List cY) (k:List D→List (Nat × Option aX)→Option β):HO fr bl caps (x :: l) k = dH fr x fun v=>wZ v bl fun y f=>HO fr bl caps l fun ds g=>k (y :: ds) (f ++ g):=rfl
theorem aBK (caps:List D) (l:List cY) (k:List D→List (Nat × Option aX)→Option β):HO fr bl caps l k = (bI (fun x=>iY (lk bl none) (cQ (lk fr .any) x)) l).bind fun ds=>k (ds ++ caps) (l.flatMap fun x=>rS (lk bl none) (cQ (lk fr .any) x)):=by
 induction l generalizing k with
 | nil=>rfl
 | cons x l ih =>
  simp only [HO,dH,wZ,bI,ih,List.flatMap_cons]
  cases iY (lk bl none) (cQ (lk fr .any) x) with
  | none=>rfl
  | some y=>cases bI (fun x=>iY (lk bl none) (cQ (lk fr .any) x)) l <;> rfl
noncomputable def UR (T:AL) (d:Nat) (v:V) (args:List cY) (fr:List (Nat × V)) (bl:List (Nat × Option aX)) (k:V→Option β) (kw:V→List (Nat × Option aX)→Option β):Option β:=match v with
 | .d (.fn f caps)=>HO fr bl caps args fun ds fz=>dM T d bl f ds fz k kw
 | _=>none
theorem aDB (f:Nat) (caps:List D) (args:List cY):UR T d (.d (.fn f caps)) args fr bl k kw = HO fr bl caps args fun ds fz=>dM T d bl f ds fz k kw:=rfl
theorem ZH (g:cY) (args:List cY):sK T d (.callv g args) fr bl k kw = dH fr g fun v=>UR T d v args fr bl k kw:=by
 rw [jH]
 unfold dH
 simp only [dV]
 generalize cQ (lk fr .any) g = v
 cases v with
 | d x=>cases x with
  | fn f caps =>
   simp only [UR,aBK]
   cases bI (fun x=>iY (lk bl none) (cQ (lk fr .any) x)) args with
   | none=>rfl
   | some ds =>
    simp only [Option.bind_some,dM]
    cases call T f (ds ++ caps) <;> rfl
  | _=>rfl
 | _=>rfl
def aIG (v:V) (i:Nat) (k:V→Option β):Option β:=match v with
 | .tup vs=>xT vs i k
 | _=>none
theorem O7 (x:cY) (i:Nat):sK T d (.extract x i) fr bl k kw = dH fr x fun v=>aIG v i k:=by
 unfold sK dH
 simp only [dV]
 generalize cQ (lk fr .any) x = v
 cases v with
 | tup vs=>simp only [aIG,FY]; cases vs[i]? <;> rfl
 | _=>rfl
theorem aIO (vs:List V) (i:Nat):aIG (.tup vs) i k = xT vs i k:=rfl
def pQ (m:tG) (fr:List (Nat × V)) (bl:List (Nat × Option aX)) (k:List (Nat × V)→List (Nat × Option aX)→Option β):Option β:=k (m.app ⟨fr,bl⟩).fr (m.app ⟨fr,bl⟩).bl
theorem aEZ {k:Ex→St→Option β} (m:tG) (a:a8):cX T (.pre m a) ⟨fr,bl⟩ k = pQ m fr bl fun fr' bl'=>cX T a ⟨fr',bl'⟩ k:=by
 rw [aEG]; rfl
theorem aEg {k:Ex→St→Option β} (m:tG):RN m k .normal ⟨fr,bl⟩ = pQ m fr bl fun fr' bl'=>k .normal ⟨fr',bl'⟩:=by
 rw [aGP]; rfl
def uJ (keep:List Nat) (bl:List (Nat × Option aX)) (v:V) (k:V→Option β):Option β:=k (HJ keep (lk bl none) v)
def JD (keep:List Nat) (fr:List (Nat × V)) (bl:List (Nat × Option aX)):List Nat→(List (Nat × V)→Option β)→Option β
 | [],k=>k []
 | t :: r,k=>mE fr t fun v=>uJ keep bl v fun v'=>JD keep fr bl r fun l=>k ((t,v') :: l)
theorem aDc (keep:List Nat) (l:List Nat):∀ (k:List (Nat × V)→Option β),JD keep fr bl l k = k (l.map fun t=>(t,HJ keep (lk bl none) (lk fr .any t))):=by
 induction l with
 | nil=>intro k; rfl
 | cons t l ih=>intro k; simp only [JD,mE,uJ,ih,List.map_cons]
def yH (keep:List Nat) (bl:List (Nat × Option aX)) (b:Option aX) (k:Option aX→Option β):Option β:=k (b.bind (DT keep (lk bl none)))
def KJ (keep:List Nat) (bl:List (Nat × Option aX)):List Nat→(List (Nat × Option aX)→Option β)→Option β
 | [],k=>k []
 | i :: r,k=>eD bl i fun b=>yH keep bl b fun b'=>KJ keep bl r fun l=>k ((i,b') :: l)
theorem aA9 (keep:List Nat) (l:List Nat):∀ (k:List (Nat × Option aX)→Option β),KJ keep bl l k = k (l.map fun i=>(i,(lk bl none i).bind (DT keep (lk bl none)))):=by
 induction l with
 | nil=>intro k; rfl
 | cons t l ih=>intro k; simp only [KJ,eD,yH,ih,List.map_cons]
theorem Y9 (keep:List Nat) (k:List (Nat × V)→Option β):JD keep fr bl [] k = k []:=rfl
theorem SK (keep:List Nat) (t:Nat) (r:List Nat) (k:List (Nat × V)→Option β):JD keep fr bl (t :: r) k = mE fr t fun v=>uJ keep bl v fun v'=>JD keep fr bl r fun l=>k ((t,v') :: l):=rfl
theorem ZN (keep:List Nat) (k:List (Nat × Option aX)→Option β):KJ keep bl [] k = k []:=rfl
theorem SZ (keep:List Nat) (i:Nat) (r:List Nat) (k:List (Nat × Option aX)→Option β):KJ keep bl (i :: r) k = eD bl i fun b=>yH keep bl b fun b'=>KJ keep bl r fun l=>k ((i,b') :: l):=rfl
theorem aGb (live keep:List Nat) (k:List (Nat × V)→List (Nat × Option aX)→Option β):pQ ⟨live,keep,[],[],[],[]⟩ fr bl k = JD keep fr bl live fun fr'=>KJ keep bl keep fun bl'=>k fr' bl':=by
 rw [aDc,aA9]; rfl
def iT (keep:List Nat) (i:Nat) (x y:Option β):Option β:=if keep.contains i = true then x else y
theorem LH (i:Nat) (x y:Option β):iT [] i x y = y:=rfl
theorem LR (i:Nat) (r:List Nat) (x y:Option β):iT (i :: r) i x y = x:=by simp [iT]
theorem JB (a i:Nat) (r:List Nat) (x y:Option β) (h:(i == a) = false):iT (a :: r) i x y = iT r i x y:=by
 unfold iT
 rw [List.contains_cons,h,Bool.false_or]
section
variable (keep:List Nat)
theorem aEO (x:D):uJ keep bl (.d x) k = k (.d x):=rfl
theorem YQ:uJ keep bl .nil k = k .nil:=rfl
theorem aET:uJ keep bl (.tup []) k = k (.tup []):=rfl
theorem ZJ:uJ keep bl .any k = k .any:=rfl
def JX (keep:List Nat) (id off:Nat) (b:Option aX) (k:V→Option β):Option β:=match b with
 | some (.box _)=>iT keep id (k (.ptr id off)) (k .any)
 | some (.fbox ds)=>k (.d (.ptr ds off))
 | _=>k .any
theorem SV (id off:Nat) (cs:List V):JX keep id off (some (.box cs)) k = iT keep id (k (.ptr id off)) (k .any):=rfl
theorem PR (id off:Nat) (ds:List D):JX keep id off (some (.fbox ds)) k = k (.d (.ptr ds off)):=rfl
theorem RQ (id off:Nat):JX keep id off none k = k .any:=rfl
theorem ZU (id off:Nat):uJ keep bl (.ptr id off) k = eD bl id fun b=>JX keep id off b k:=by
 unfold uJ eD JX
 simp only [HJ,ND,sS]
 generalize lk bl none id = b
 cases b with
 | none=>rfl
 | some b=>cases b with
  | box cs=>simp only [iT]; split <;> rfl
  | _=>rfl
def CK (id ver:Nat) (b:Option aX) (k:V→Option β):Option β:=match b with
 | some (.rows v _ _ _)=>if (ver == v) = true then iT keep id (k (.own id 0)) (k .any) else k .any
 | some (.froz v rows)=>if ver = v then k (.d (.sl rows)) else k .any
 | _=>k .any
theorem Z9 (id ver:Nat):uJ keep bl (.own id ver) k = eD bl id fun b=>CK keep id ver b k:=by
 unfold uJ eD CK iT
 simp only [HJ,ND,sS]
 generalize lk bl none id = b
 cases b with
 | none=>rfl
 | some b=>cases b with
  | rows v e s rows=>simp only; cases (ver == v) <;> cases keep.contains id <;> rfl
  | froz v rows=>simp only; split <;> rfl
  | _=>rfl
theorem P3 (id v e s:Nat) (rows:List (List D)):CK keep id v (some (.rows v e s rows)) k = iT keep id (k (.own id 0)) (k .any):=by simp [CK]
theorem R5 (id ver v e s:Nat) (rows:List (List D)) (h:(ver == v) = false):CK keep id ver (some (.rows v e s rows)) k = k .any:=by simp [CK,h]
theorem RM (id v:Nat) (rows:List (List D)):CK keep id v (some (.froz v rows)) k = k (.d (.sl rows)):=if_pos rfl
theorem QV (id v:Nat):CK keep id v none k = k .any:=rfl
def GT (id ver i off:Nat) (b:Option aX) (k:V→Option β):Option β:=match b with
 | some (.rows v _ _ _)=>if (ver == v) = true then iT keep id (k (.orow id 0 i off)) (k .any) else k .any
 | _=>k .any
theorem UN (id ver i off:Nat):uJ keep bl (.orow id ver i off) k = eD bl id fun b=>GT keep id ver i off b k:=by
 unfold uJ eD GT iT
 simp only [HJ,ND,sS]
 generalize lk bl none id = b
 cases b with
 | none=>rfl
 | some b=>cases b with
  | rows v e s rows=>simp only; cases (ver == v) <;> cases keep.contains id <;> rfl
  | _=>rfl
theorem QD (id v i off e s:Nat) (rows:List (List D)):GT keep id v i off (some (.rows v e s rows)) k = iT keep id (k (.orow id 0 i off)) (k .any):=by simp [GT]
theorem T0 (id ver v i off e s:Nat) (rows:List (List D)) (h:(ver == v) = false):GT keep id ver i off (some (.rows v e s rows)) k = k .any:=by simp [GT,h]
def rM (keep:List Nat) (bl:List (Nat × Option aX)):List V→(List V→Option β)→Option β
 | [],k=>k []
 | v :: cs,k=>k (sS keep (lk bl none) v :: cs.map (sS keep (lk bl none)))
theorem sT (cs:List V) (k:List V→Option β):rM keep bl cs k = k (cs.map (sS keep (lk bl none))):=by cases cs <;> rfl
theorem S9 (k:List V→Option β):rM keep bl [] k = k []:=rfl
theorem aDv (x:D) (cs:List V) (k:List V→Option β):rM keep bl (.d x :: cs) k = rM keep bl cs fun l=>k (.d x :: l):=by simp only [sT]; rfl
theorem aDo (cs:List V) (k:List V→Option β):rM keep bl (.nil :: cs) k = rM keep bl cs fun l=>k (.nil :: l):=by simp only [sT]; rfl
theorem VD (cs:List V) (k:List V→Option β):rM keep bl (.any :: cs) k = rM keep bl cs fun l=>k (.any :: l):=by simp only [sT]; rfl
theorem UG (id ver:Nat) (cs:List V) (k:List V→Option β):rM keep bl (.own id ver :: cs) k = uJ keep bl (.own id ver) fun v=>rM keep bl cs fun l=>k (v :: l):=by simp only [sT]; rfl
theorem TG (id off:Nat) (cs:List V) (k:List V→Option β):rM keep bl (.ptr id off :: cs) k = uJ keep bl (.ptr id off) fun v=>rM keep bl cs fun l=>k (v :: l):=by simp only [sT]; rfl
theorem ZE (cs:List V):uJ keep bl (.agg cs) k = rM keep bl cs fun l=>k (.agg l):=by rw [sT]; rfl
theorem E8 (ds:List D) (b:Nat→Option aX):(aC ds).map (sS keep b) = aC ds:=by
 induction ds with
 | nil=>rfl
 | cons x ds ih=>show sS keep b (.d x) :: (aC ds).map (sS keep b) = _; rw [ih]; rfl
theorem UV (ds:List D):uJ keep bl (cW ds) k = k (cW ds):=by
 show k (.agg ((aC ds).map (sS keep (lk bl none)))) = _
 rw [E8]; rfl
theorem RK (k:Option aX→Option β):yH keep bl none k = k none:=rfl
theorem SO (c:V) (cs:List V) (k:Option aX→Option β):yH keep bl (some (.box (c :: cs))) k = rM keep bl (c :: cs) fun l=>k (some (.box l)):=by rw [sT]; rfl
theorem P5 (k:Option aX→Option β):yH keep bl (some (.box [])) k = k (some (.box [])):=rfl
theorem L6 (ds:List D) (k:Option aX→Option β):yH keep bl (some (.box (aC ds))) k = k (some (.box (aC ds))):=by
 show k (some (.box ((aC ds).map (sS keep (lk bl none))))) = _
 rw [E8]
theorem QY (v e s:Nat) (rows:List (List D)) (k:Option aX→Option β):yH keep bl (some (.rows v e s rows)) k = k (some (.rows 0 e s rows)):=rfl
theorem PK (ds:List D) (k:Option aX→Option β):yH keep bl (some (.fbox ds)) k = k none:=rfl
theorem PY (v:Nat) (rows:List (List D)) (k:Option aX→Option β):yH keep bl (some (.froz v rows)) k = k none:=rfl
end
def aEM (res:List sP):Ex→St→Option D
 | .normal,s=>match bI (vQ s) res with
  | none=>none
  | some [v]=>iY s.blk v
  | some vs=>toD s.blk (.tup vs)
 | .ret,s=>match bI (vQ s) res with
  | none=>none
  | some [v]=>iY s.blk v
  | some vs=>toD s.blk (.tup vs)
 | .exit _,_=>none
def DI (fr:List (Nat × V)) (bl:List (Nat × Option aX)):List sP→(List D→Option D)→Option D
 | [],k=>k []
 | .tmp t :: r,k=>mE fr t fun v=>wZ v bl fun x _=>DI fr bl r fun l=>k (x :: l)
 | .cell t size isAgg :: r,k=>mE fr t fun p=>vX size isAgg p bl fun v=>wZ v bl fun x _=>DI fr bl r fun l=>k (x :: l)
def FL:List D→Option D
 | [x]=>some x
 | l=>some (.tup l)
theorem O5 (size:Nat) (a:Bool) (p:V):vX size a p bl k = (HY size a p (lk bl none)).bind fun r=>k r.1:=by
 have h:=PG (T:=fun _=>none) (d:=0) (fr:=[]) (bl:=bl) (k:=k) (kw:=fun v _=>k v) size a (.c p)
 have e:dH [] (.c p) (fun v=>vX size a v bl k) = vX size a p bl k:=rfl
 rw [← e,← h,jH,E9]
 show DD (HY size a p (lk bl none)) k (fun v _=>k v) = _
 cases HY size a p (lk bl none) with
 | none=>rfl
 | some r=>obtain ⟨v,wr⟩:=r; cases wr <;> rfl
theorem AO (fr:List (Nat × V)) (bl:List (Nat × Option aX)):St.blk ⟨fr,bl⟩ = lk bl none:=rfl
theorem aGl (res:List sP):∀ (k:List D→Option D),DI fr bl res k = (bI (vQ ⟨fr,bl⟩) res).bind fun vs=>(bI (iY (lk bl none)) vs).bind k:=by
 induction res with
 | nil=>intro k; rfl
 | cons r res ih =>
  intro k
  cases r with
  | tmp t =>
   simp only [DI,mE,wZ,ih,bI,vQ,BW,AO]
   cases h1:bI (vQ ⟨fr,bl⟩) res with
   | none =>
    simp only [Option.bind_none]
    cases iY (lk bl none) (lk fr .any t) <;> rfl
   | some vs =>
    simp only [Option.bind_some,bI]
    cases iY (lk bl none) (lk fr .any t) with
    | none=>rfl
    | some x=>cases bI (iY (lk bl none)) vs <;> rfl
  | cell t size isAgg =>
   simp only [DI,mE,O5,wZ,ih,bI,vQ,E9,BW,AO]
   cases HY size isAgg (lk fr .any t) (lk bl none) with
   | none=>rfl
   | some q =>
    obtain ⟨v,wr⟩:=q
    simp only [Option.bind_some]
    cases h1:bI (vQ ⟨fr,bl⟩) res with
    | none =>
     simp only [Option.bind_none]
     cases iY (lk bl none) v <;> rfl
    | some vs =>
     simp only [Option.bind_some,bI]
     cases iY (lk bl none) v with
     | none=>rfl
     | some x=>cases bI (iY (lk bl none)) vs <;> rfl
theorem OD (res:List sP):(match bI (vQ ⟨fr,bl⟩) res with
  | none=>none
  | some [v]=>iY (lk bl none) v
  | some vs=>toD (lk bl none) (.tup vs)) = DI fr bl res FL:=by
 rw [aGl]
 cases bI (vQ ⟨fr,bl⟩) res with
 | none=>rfl
 | some vs =>
  simp only [Option.bind_some]
  cases vs with
  | nil=>rfl
  | cons v vs =>
   cases vs with
   | nil =>
    simp only [bI]
    cases iY (lk bl none) v <;> rfl
   | cons w ws =>
    show (bI (iY (lk bl none)) (v :: w :: ws)).map D.tup = _
    simp only [bI]
    cases iY (lk bl none) v with
    | none=>rfl
    | some x=>cases iY (lk bl none) w with
     | none=>rfl
     | some y=>cases bI (iY (lk bl none)) ws <;> rfl
theorem aIi (res:List sP):aEM res .normal ⟨fr,bl⟩ = DI fr bl res FL:=OD res
theorem aHR (res:List sP):aEM res .ret ⟨fr,bl⟩ = DI fr bl res FL:=OD res
theorem aIL (res:List sP) (i:Nat) (s:St):aEM res (.exit i) s = none:=rfl
theorem aDf (k:List D→Option D):DI fr bl [] k = k []:=rfl
theorem aB4 (t:Nat) (r:List sP) (k:List D→Option D):DI fr bl (.tmp t :: r) k = mE fr t fun v=>wZ v bl fun x _=>DI fr bl r fun l=>k (x :: l):=rfl
theorem Y6 (t size:Nat) (isAgg:Bool) (r:List sP) (k:List D→Option D):DI fr bl (.cell t size isAgg :: r) k = mE fr t fun p=>vX size isAgg p bl fun v=>wZ v bl fun x _=>DI fr bl r fun l=>k (x :: l):=rfl
theorem aD7 (x:D):FL [x] = some x:=rfl
theorem aE4 (x y:D) (l:List D):FL (x :: y :: l) = some (.tup (x :: y :: l)):=rfl
theorem bX {T:AL} {f np nt:Nat} {res:List sP} {body:a8} (hf:T f = some (.code ⟨np,nt,res,body,false,false⟩)) (ds:List D) (hl:ds.length = np) (hlt:lH 0 ds = none):Vm.call T f ds = cX T body ⟨mZ 0 ds,[]⟩ (aEM res):=by
 rw [aCJ hf ds hl hlt]
 unfold cX
 cases Vm.ev T body ⟨mZ 0 ds,[]⟩ with
 | none=>rfl
 | some q =>
  obtain ⟨e,s⟩:=q
  cases e <;> rfl
def RJ:List V→V
 | [v]=>v
 | vs=>.tup vs
def GA (fr:List (Nat × V)) (bl:List (Nat × Option aX)):List sP→(List V→Option D)→Option D
 | [],k=>k []
 | .tmp t :: r,k=>mE fr t fun v=>GA fr bl r fun l=>k (v :: l)
 | .cell t size isAgg :: r,k=>mE fr t fun p=>vX size isAgg p bl fun v=>GA fr bl r fun l=>k (v :: l)
theorem aGG (res:List sP):∀ (k:List V→Option D),GA fr bl res k = (bI (vQ ⟨fr,bl⟩) res).bind k:=by
 induction res with
 | nil=>intro k; rfl
 | cons r res ih =>
  intro k
  cases r with
  | tmp t =>
   simp only [GA,mE,ih,bI,vQ,BW]
   cases bI (vQ ⟨fr,bl⟩) res <;> rfl
  | cell t size isAgg =>
   simp only [GA,mE,O5,ih,bI,vQ,E9,BW,AO]
   cases HY size isAgg (lk fr .any t) (lk bl none) with
   | none=>rfl
   | some q =>
    obtain ⟨v,wr⟩:=q
    simp only [Option.bind_some]
    cases bI (vQ ⟨fr,bl⟩) res <;> rfl
def aHX (res:List sP):Ex→St→Option D
 | .normal,s=>match bI (vQ s) res with
  | none=>none
  | some [v]=>qM s.blk v
  | some vs=>qM s.blk (.tup vs)
 | .ret,s=>match bI (vQ s) res with
  | none=>none
  | some [v]=>qM s.blk v
  | some vs=>qM s.blk (.tup vs)
 | .exit _,_=>none
theorem WT (res:List sP):(match bI (vQ ⟨fr,bl⟩) res with
  | none=>none
  | some [v]=>qM (lk bl none) v
  | some vs=>qM (lk bl none) (.tup vs)) = GA fr bl res fun vs=>qM (lk bl none) (RJ vs):=by
 rw [aGG]
 cases bI (vQ ⟨fr,bl⟩) res with
 | none=>rfl
 | some vs =>
  cases vs with
  | nil=>rfl
  | cons v vs=>cases vs <;> rfl
theorem aH4 (res:List sP):aHX res .normal ⟨fr,bl⟩ = GA fr bl res fun vs=>qM (lk bl none) (RJ vs):=WT res
theorem aIM (res:List sP):aHX res .ret ⟨fr,bl⟩ = GA fr bl res fun vs=>qM (lk bl none) (RJ vs):=WT res
theorem aIS (res:List sP) (i:Nat) (s:St):aHX res (.exit i) s = none:=rfl
theorem aDe (k:List V→Option D):GA fr bl [] k = k []:=rfl
theorem aDK (t:Nat) (r:List sP) (k:List V→Option D):GA fr bl (.tmp t :: r) k = mE fr t fun v=>GA fr bl r fun l=>k (v :: l):=rfl
theorem XK (t size:Nat) (isAgg:Bool) (r:List sP) (k:List V→Option D):GA fr bl (.cell t size isAgg :: r) k = mE fr t fun p=>vX size isAgg p bl fun v=>GA fr bl r fun l=>k (v :: l):=rfl
theorem aEW (x:V):RJ [x] = x:=rfl
theorem aHb (x y:V) (l:List V):RJ (x :: y :: l) = .tup (x :: y :: l):=rfl
def LT (v:V) (b:Option aX) (x y:Option β):Option β:=match v,b with
 | .nil,none=>x
 | _,_=>y
theorem aFm (b:aX) (x y:Option β):LT .nil (some b) x y = y:=rfl
theorem aII (x y:Option β):LT .nil none x y = x:=rfl
theorem aCW (i v:Nat) (b:Option aX) (x y:Option β):LT (.own i v) b x y = y:=rfl
theorem aIe (z:D) (b:Option aX) (x y:Option β):LT (.d z) b x y = y:=rfl
theorem aB0 (b:Option aX) (x y:Option β):LT .any b x y = y:=rfl
theorem aFk (live keep:List Nat) (t i e s:Nat) (l:List (Nat × Nat × Nat × Nat)) (c:List (Nat × Nat × Nat × Nat × Nat)) (ft:List Nat) (fc:List (Nat × Nat)) (k:List (Nat × V)→List (Nat × Option aX)→Option β) (hs:0 < s) :
  pQ ⟨live,keep,(t,i,e,s) :: l,c,ft,fc⟩ fr bl k = mE fr t fun v=>eD bl i fun b=>LT v b (F2 e [] fun rows=>pQ ⟨live,keep,l,c,ft,fc⟩ ((t,.own i 0) :: fr) ((i,some (.rows 0 e s rows)) :: bl) k) (pQ ⟨live,keep,l,c,ft,fc⟩ fr bl k):=by
 show pQ ⟨live,keep,(t,i,e,s) :: l,c,ft,fc⟩ fr bl k = LT (lk fr .any t) (lk bl none i) _ _
 unfold pQ
 rw [aKl]
 unfold mkT F2
 show k (tG.app ⟨live,keep,l,c,ft,fc⟩ (match lk fr .any t,lk bl none i with | .nil,none=>if 0 < s then _ else _ | _,_=>_)).fr (tG.app ⟨live,keep,l,c,ft,fc⟩ (match lk fr .any t,lk bl none i with | .nil,none=>if 0 < s then _ else _ | _,_=>_)).bl = _
 generalize lk fr .any t = v
 generalize lk bl none i = b
 cases v with
 | nil=>cases b with
  | none=>simp only [LT,if_pos hs]
  | some b=>rfl
 | _=>rfl
def aAe (b0:Option aX) (n:Nat) (b:Option aX) (x:List V→Option β) (y:Option β):Option β:=match b0 with
 | some (.box cs)=>match cs[n]?,b with
  | some .nil,none=>x cs
  | _,_=>y
 | _=>y
theorem aGo (live keep:List Nat) (i n j e s:Nat) (c:List (Nat × Nat × Nat × Nat × Nat)) (ft:List Nat) (fc:List (Nat × Nat)) (k:List (Nat × V)→List (Nat × Option aX)→Option β) (hs:0 < s) :
  pQ ⟨live,keep,[],(i,n,j,e,s) :: c,ft,fc⟩ fr bl k = eD bl i fun b0=>eD bl j fun b=>aAe b0 n b (fun cs=>wJ cs n (.own j 0) fun cs'=>F2 e [] fun rows=>pQ ⟨live,keep,[],c,ft,fc⟩ fr ((i,some (.box cs')) :: (j,some (.rows 0 e s rows)) :: bl) k) (pQ ⟨live,keep,[],c,ft,fc⟩ fr bl k):=by
 show pQ ⟨live,keep,[],(i,n,j,e,s) :: c,ft,fc⟩ fr bl k = aAe (lk bl none i) n (lk bl none j) _ _
 unfold pQ
 rw [aJC]
 have hm:∀ b0 b,lk bl none i = b0→lk bl none j = b→mkC (i,n,j,e,s) ⟨fr,bl⟩ = (match b0,b with
  | some (.box cs),none=>match cs[n]? with
   | some .nil=>if 0 < s then ⟨fr,(i,some (.box (cs.set n (.own j 0)))) :: (j,some (.rows 0 e s [])) :: bl⟩ else ⟨fr,bl⟩
   | _=>⟨fr,bl⟩
  | _,_=>⟨fr,bl⟩):=by
  rintro _ _ rfl rfl; rfl
 have hm:=hm _ _ rfl rfl
 rw [hm]
 generalize lk bl none i = b0
 generalize lk bl none j = b
 cases b0 with
 | none=>rfl
 | some b0=>cases b0 with
  | box cs =>
   cases b with
   | none =>
    simp only [aAe]
    cases h:cs[n]? with
    | none=>rfl
    | some v =>
     cases v with
     | nil =>
      have hn:n < cs.length:=by
       rw [List.getElem?_eq_some_iff] at h
       exact h.1
      simp only [if_pos hs,RI,F2]
      rw [if_pos (by omega)]
      have:∀ (cs:List V) (n:Nat),n < cs.length→gJ cs n [.own j 0] = cs.set n (.own j 0):=by
       intro cs
       induction cs with
       | nil=>intro n h; simp at h
       | cons c cs ih =>
        intro n h
        cases n with
        | zero=>cases cs <;> rfl
        | succ n=>simp only [gJ,List.set_cons_succ]; rw [ih n (by simpa using h)]
      rw [this cs n hn]
     | _=>rfl
   | some b=>simp only [aAe]; cases cs[n]? with
    | none=>rfl
    | some v=>cases v <;> rfl
  | _=>cases b <;> rfl
theorem S2 (k:List (Nat × Nat × V)→Option β):EC fr [] k = k []:=rfl
theorem QB (o s:Nat) (x:cY) (l:List (Nat × Nat × cY)) (k:List (Nat × Nat × V)→Option β):EC fr ((o,s,x) :: l) k = dH fr x fun v=>EC fr l fun vs=>k ((o,s,v) :: vs):=rfl
theorem XZ (l:List (Nat × Nat × cY)):∀ (k:List (Nat × Nat × V)→Option β),EC fr l k = k (l.map fun p=>(p.1,p.2.1,cQ (lk fr .any) p.2.2)):=by
 induction l with
 | nil=>intro k; rfl
 | cons p l ih=>intro k; obtain ⟨o,s,x⟩:=p; simp only [EC,dH,ih,List.map_cons]
def J4 (z:List V):List (Nat × Nat × V)→(List V→Option β)→Option β
 | [],k=>k z
 | (off,size,v) :: r,k=>tJ v fun cs=>kZ cs size (dA z off cs fun z'=>J4 z' r k)
theorem XM (z:List V) (k:List V→Option β):J4 z [] k = k z:=rfl
theorem U2 (z:List V) (off size:Nat) (v:V) (r:List (Nat × Nat × V)) (k:List V→Option β):J4 z ((off,size,v) :: r) k = tJ v fun cs=>kZ cs size (dA z off cs fun z'=>J4 z' r k):=rfl
theorem aA3 (ps:List (Nat × Nat × V)):∀ (z:List V) (k:List V→Option β),J4 z ps k = (CH z ps).bind k:=by
 induction ps with
 | nil=>intro z k; rfl
 | cons p r ih =>
  intro z k
  obtain ⟨off,size,v⟩:=p
  simp only [J4,CH,tJ,kZ,dA,ih]
  by_cases h1:v.known = true
  ·by_cases h2:v.cells.length = size
   ·subst h2
    by_cases h3:off + v.cells.length ≤ z.length
    ·rw [if_pos h1,if_pos rfl,if_pos h3,if_pos ⟨rfl,h3,h1⟩]
    ·rw [if_pos h1,if_pos rfl,if_neg h3,if_neg (fun q=>h3 q.2.1)]; rfl
   ·rw [if_pos h1,if_neg h2,if_neg (fun q=>h2 q.1)]; rfl
  ·rw [if_neg h1,if_neg (fun q=>h1 q.2.2)]; rfl
theorem X0 (z:List V) (parts:List (Nat × Nat × cY)):sK T d (.build z parts) fr bl k kw = EC fr parts fun ps=>J4 z ps fun cs=>k (.agg cs):=by
 rw [jH,XZ,aA3]
 simp only [dV]
 have e1:(parts.map fun x=>match x with | (o,s,x)=>(o,s,cQ (lk fr .any) x)) = parts.map fun p=>(p.1,p.2.1,cQ (lk fr .any) p.2.2):=rfl
 rw [e1]
 cases CH z (parts.map fun p=>(p.1,p.2.1,cQ (lk fr .any) p.2.2)) <;> rfl
theorem aD (ds:List D):(aC ds).length = ds.length:=by simp [aC]
def aIj (bytes:Nat) (a b:V) (x:Nat→Option β):Option β:=match a,b with
 | .d (.int _ n),.d (.int _ m)=>if 0 ≤ n ∧ n ≤ m ∧ (bytes:Int) * m ≤ 281474976710656 ∧ m ≤ 9223372036854775807 then x n.toNat else none
 | _,_=>none
theorem aIC (bytes:Nat) (i j:IntKind) (n m:Int) (x:Nat→Option β):aIj bytes (.d (.int i n)) (.d (.int j m)) x = if 0 ≤ n ∧ n ≤ m ∧ (bytes:Int) * m ≤ 281474976710656 ∧ m ≤ 9223372036854775807 then x n.toNat else none:=rfl
theorem aJZ {α:Type} (e size bytes:Nat) (z:List D) (c:α→List D) (x:α) (hz:z = c x) (l cp:cY):sK T d (.makeSlice e size bytes z l cp) fr bl k kw = eD bl d fun b=>vJ b (dH fr l fun a=>dH fr cp fun b=>aIj bytes a b fun n=>kw (.own d 0) [(d,some (.rows 0 e size (cM c (List.replicate n x))))]):=LZ e size bytes z c x hz l cp
theorem aBz {k:Ex→St→Option β} (c:cY) (a b:a8):cX T (.cond c a b) ⟨fr,bl⟩ k = dH fr c fun v=>FP v (cX T a ⟨fr,bl⟩ k) (cX T b ⟨fr,bl⟩ k):=aDP c a b _
theorem aFH (a b c:List (Nat × Option aX)) (t:Nat) (k:Option aX→Option β):eD ((a ++ b) ++ c) t k = eD (a ++ (b ++ c)) t k:=by rw [List.append_assoc]
def QZ:List V→Nat→(V→Option β)→Option β→Option β
 | [],_,_,y=>y
 | c :: _,0,x,_=>x c
 | _ :: cs,n + 1,x,y=>QZ cs n x y
theorem aIF (c:V) (cs:List V) (x:V→Option β) (y:Option β):QZ (c :: cs) 0 x y = x c:=rfl
theorem aHP (c:V) (cs:List V) (n:Nat) (x:V→Option β) (y:Option β):QZ (c :: cs) (n + 1) x y = QZ cs n x y:=rfl
theorem aDr (cs:List V) (n:Nat) (b:Option aX) (x:List V→Option β) (y:Option β):aAe (some (.box cs)) n b x y = QZ cs n (fun v=>LT v b (x cs) y) y:=by
 have:∀ (l:List V) (n:Nat),(match l[n]?,b with | some .nil,none=>x cs | _,_=>y) = QZ l n (fun v=>LT v b (x cs) y) y:=by
  intro l
  induction l with
  | nil=>intro n; rfl
  | cons c l ih=>intro n; cases n with
   | zero=>cases c <;> cases b <;> rfl
   | succ n=>exact ih n
 exact this cs n
theorem YM (n:Nat) (b:Option aX) (x:List V→Option β) (y:Option β):aAe none n b x y = y:=rfl
def W5 (rows:List (List D)) (k:V→Option β):Option β:=k (.d (.int .i64 rows.length))
theorem aER {α:Type} (c:α→List D) (xs:List α):W5 (cM c xs) k = k (.d (.int .i64 (xs.length:Int))):=by unfold W5; rw [aH]
theorem aGF:W5 [] k = k (.d (.int .i64 0)):=rfl
theorem aE1 (x:cY):sK T d (.len x) fr bl k kw = dH fr x fun a=>DY a bl fun rows=>W5 rows k:=aE2 x
def NT (v:V) (bl:List (Nat × Option aX)) (k:V→List (Nat × Option aX)→Option β) (y:Option β):Option β:=match pK (lk bl none) v with
 | some x=>k (.d x) (CO (lk bl none) v)
 | none=>y
theorem aHJ (x:D) (k:V→List (Nat × Option aX)→Option β) (y:Option β):NT (.d x) bl k y = k (.d x) []:=rfl
theorem aCS (k:V→List (Nat × Option aX)→Option β) (y:Option β):NT .nil bl k y = k (.d (.sl [])) []:=rfl
theorem aBF (k:V→List (Nat × Option aX)→Option β) (y:Option β):NT .any bl k y = y:=rfl
def aG5 (id ver:Nat) (b:Option aX) (k:V→List (Nat × Option aX)→Option β) (y:Option β):Option β:=match b with
 | some (.rows v _ _ rows)=>if ver = v then k (.d (.sl rows)) [(id,some (.froz v rows))] else y
 | some (.froz v rows)=>if ver = v then k (.d (.sl rows)) [] else y
 | _=>y
theorem aCZ (id ver:Nat) (k:V→List (Nat × Option aX)→Option β) (y:Option β):NT (.own id ver) bl k y = eD bl id fun b=>aG5 id ver b k y:=by
 unfold NT eD aG5
 simp only [pK,CO]
 generalize lk bl none id = b
 cases b with
 | none=>rfl
 | some b=>cases b with
  | rows v e s rows=>simp only; by_cases h:ver = v <;> simp [h]
  | froz v rows=>simp only; by_cases h:ver = v <;> simp [h]
  | _=>rfl
theorem aAA (id v e s:Nat) (rows:List (List D)) (k:V→List (Nat × Option aX)→Option β) (y:Option β):aG5 id v (some (.rows v e s rows)) k y = k (.d (.sl rows)) [(id,some (.froz v rows))]:=if_pos rfl
theorem XW (id v:Nat) (rows:List (List D)) (k:V→List (Nat × Option aX)→Option β) (y:Option β):aG5 id v (some (.froz v rows)) k y = k (.d (.sl rows)) []:=if_pos rfl
theorem aBI (live keep:List Nat) (t:Nat) (ft:List Nat) (fc:List (Nat × Nat)) (k:List (Nat × V)→List (Nat × Option aX)→Option β) :
  pQ ⟨live,keep,[],[],t :: ft,fc⟩ fr bl k = mE fr t fun v=>NT v bl (fun v' wr=>pQ ⟨live,keep,[],[],ft,fc⟩ ((t,v') :: fr) (wr ++ bl) k) (pQ ⟨live,keep,[],[],ft,fc⟩ fr bl k):=by
 unfold pQ
 rw [aHW]
 unfold frT mE NT
 rw [BW,AO]
 dsimp only
 cases pK (lk bl none) (lk fr .any t) <;> rfl
def aAN (n:Nat) (b:Option aX) (bl:List (Nat × Option aX)) (k:List V→List (Nat × Option aX)→Option β) (y:Option β):Option β:=match b with
 | some (.box cs)=>match cs[n]? with
  | some v=>match pK (lk bl none) v with
   | some d=>k (cs.set n (.d d)) (CO (lk bl none) v)
   | none=>y
  | none=>y
 | _=>y
theorem aDI (live keep:List Nat) (i n:Nat) (fc:List (Nat × Nat)) (k:List (Nat × V)→List (Nat × Option aX)→Option β) :
  pQ ⟨live,keep,[],[],[],(i,n) :: fc⟩ fr bl k = eD bl i fun b=>aAN n b bl (fun cs wr=>pQ ⟨live,keep,[],[],[],fc⟩ fr ((i,some (.box cs)) :: (wr ++ bl)) k) (pQ ⟨live,keep,[],[],[],fc⟩ fr bl k):=by
 unfold pQ
 rw [aH2]
 unfold frC eD aAN
 rw [AO]
 dsimp only
 cases lk bl none i with
 | none=>rfl
 | some b =>
  cases b with
  | box cs =>
   simp only
   cases cs[n]? with
   | none=>rfl
   | some v =>
    simp only
    cases pK (lk bl none) v <;> rfl
  | _=>rfl
theorem aHS (cs:List V) (n:Nat) (w:V) (k:List V→Option β) (h:n < cs.length):wJ cs n w k = k (cs.set n w):=by
 induction cs generalizing n k with
 | nil=>simp at h
 | cons c cs ih=>cases n with
  | zero=>rfl
  | succ n=>simp only [wJ,List.set_cons_succ]; rw [ih n _ (by simpa using h)]
theorem aA2 (n:Nat) (cs:List V) (k:List V→List (Nat × Option aX)→Option β) (y:Option β):aAN n (some (.box cs)) bl k y = QZ cs n (fun v=>NT v bl (fun v' wr=>wJ cs n v' fun cs'=>k cs' wr) y) y:=by
 have e:∀ (l:List V) (n:Nat) (x:V→Option β),QZ l n x y = match l[n]? with | some v=>x v | none=>y:=by
  intro l
  induction l with
  | nil=>intro n x; rfl
  | cons c l ih=>intro n x; cases n with
   | zero=>rfl
   | succ n=>exact ih n x
 rw [e]
 simp only [aAN,NT]
 cases h:cs[n]? with
 | none=>rfl
 | some v =>
  simp only
  cases pK (lk bl none) v with
  | none=>rfl
  | some d=>simp only; rw [aHS _ _ _ _ (List.getElem?_eq_some_iff.1 h).1]
theorem Y2 (n:Nat) (k:List V→List (Nat × Option aX)→Option β) (y:Option β):aAN n none bl k y = y:=rfl
end
end Vm
end Go.Proofs.Ytfhebiceipgdmaa
set_option linter.unusedVariables false
set_option linter.unusedSimpArgs false
namespace Go.Proofs.Ytfhebiceipgdmaa
namespace Vm
open Go.RowKit
section
variable {β:Type} {T:AL}
def BT (d:Nat) (op:jA) (fr:List (Nat × V)) (bl:List (Nat × Option aX)) (k:List Nat→Option β):Option β :=
 k ((if op.new = true then [d] else []) ++ ((op.peeks.flatMap fun x=>(cQ (lk fr .any) x).ids) ++ op.deeps.flatMap fun x=>(cQ (lk fr .any) x).dids (lk bl none)))
def B6 (wr:List (Nat × Option aX)) (k:List Nat→Option β):Option β:=k (wr.map (·.1))
theorem Y8 (k:List Nat→Option β):B6 [] k = k []:=rfl
theorem aFs (i:Nat) (b:Option aX) (w:List (Nat × Option aX)) (k:List Nat→Option β):B6 ((i,b) :: w) k = B6 w fun l=>k (i :: l):=rfl
theorem aCB (w:List (Nat × Option aX)) (k:List Nat→Option β):B6 ([] ++ w) k = B6 w k:=rfl
theorem aBA (p:Nat × Option aX) (v w:List (Nat × Option aX)) (k:List Nat→Option β):B6 ((p :: v) ++ w) k = B6 (p :: (v ++ w)) k:=rfl
theorem aDk (u v w:List (Nat × Option aX)) (k:List Nat→Option β):B6 ((u ++ v) ++ w) k = B6 (u ++ (v ++ w)) k:=by rw [List.append_assoc]
theorem VQ (d:Nat) (op:jA) (l:List bT) (fr:List (Nat × V)) (bl:List (Nat × Option aX)) (fp:List Fp) (k:St→List Fp→Option β) :
  kE T (⟨some d,op,none⟩ :: l) ⟨fr,bl⟩ fp k = sK T d op fr bl (fun v=>BT d op fr bl fun f=>kE T l ⟨(d,v) :: fr,bl⟩ ((f,[]) :: fp) k) (fun v wr=>B6 wr fun ws=>BT d op fr bl fun f=>kE T l ⟨(d,v) :: fr,wr ++ bl⟩ ((f,ws) :: fp) k):=by
 rw [JN]
 unfold sK BS BT
 show (match dV (call T) d (cQ (lk fr .any)) (lk bl none) op with | some (v,wr)=>_ | none=>none) = _
 cases dV (call T) d (cQ (lk fr .any)) (lk bl none) op with
 | none=>rfl
 | some r=>obtain ⟨v,wr⟩:=r; cases wr <;> rfl
theorem RY (op:jA) (l:List bT) (fr:List (Nat × V)) (bl:List (Nat × Option aX)) (fp:List Fp) (k:St→List Fp→Option β) :
  kE T (⟨none,op,none⟩ :: l) ⟨fr,bl⟩ fp k = sK T 0 op fr bl (fun _=>BT 0 op fr bl fun f=>kE T l ⟨fr,bl⟩ ((f,[]) :: fp) k) (fun _ wr=>B6 wr fun ws=>BT 0 op fr bl fun f=>kE T l ⟨fr,wr ++ bl⟩ ((f,ws) :: fp) k):=by
 rw [JN]
 unfold sK BS BT
 show (match dV (call T) 0 (cQ (lk fr .any)) (lk bl none) op with | some (v,wr)=>_ | none=>none) = _
 cases dV (call T) 0 (cQ (lk fr .any)) (lk bl none) op with
 | none=>rfl
 | some r=>obtain ⟨v,wr⟩:=r; cases wr <;> rfl
theorem Z0 (fr:List (Nat × V)) (bl:List (Nat × Option aX)) (fp:List Fp) (k:St→List Fp→Option β):kE T [] ⟨fr,bl⟩ fp k = k ⟨fr,bl⟩ fp:=rfl
theorem aEP {l:List bT} {ps:List (Nat × Nat)} {s:St} {fp:List Fp} (k:St→Option β) (h:EV l fp.reverse ps = true):aFz l ps k s fp = k s:=if_pos h
theorem AF {d:Option Nat} {g g' : Option (Nat × Bool)} {fr:Nat→V} {bl:Nat→Option aX} {wr:List (Nat × Option aX)} (t:Nat) (b:Bool) (op:jA):s7 ⟨d,bP t b op,g⟩ fr bl wr = s7 ⟨d,op,g'⟩ fr bl wr:=by
 cases op with
 | pick c x y =>
  cases c with
  | t t' =>
   simp only [bP]
   split <;> rfl
  | c v=>rfl
 | _=>rfl
theorem R4 {C:Nat→List D→Option D} {s:St} {t:Nat} {b:Bool} (h:s.get t = .d (.bool b)) (o:bT):iJ C (bO t b o) s = iJ C o s:=by
 obtain ⟨d,op,g⟩:=o
 cases g with
 | some g =>
  obtain ⟨t',w⟩:=g
  simp only [bO]
  split
  ·rename_i e
   subst e
   split
   ·rename_i e
    subst e
    simp only [iJ,bT.wants,h,bT.site,vT h]
    cases w <;> simp only [uM] <;> cases dV C (d.getD 0) (cQ s.get) s.blk op <;> first | rfl | (simp [AF (g':=some (t',false)),AF (g':=some (t',true))]; done) | (simp [AF (g':=some (t',false)),AF (g':=some (t',true))]; rfl)
   ·rename_i e
    simp only [iJ,bT.wants,h,bT.site,dV,cQ]
    cases w <;> cases b <;> simp_all [uM,s7,jA.new,jA.peeks,jA.deeps]
  ·simp only [iJ,bT.wants,bT.site,vT h]
   cases uM (s.get t') w <;> simp only [] <;> cases dV C (d.getD 0) (cQ s.get) s.blk op <;> simp [AF (g':=some (t',w))]
 | none =>
  simp only [bO,iJ,bT.wants,bT.site,vT h]
  cases dV C (d.getD 0) (cQ s.get) s.blk op <;> simp [AF (g':=none)]
theorem TO {C:Nat→List D→Option D} {o:bT} {s s' : St} {p:Fp} {t:Nat} (h:¬ o.dst = some t) (e:iJ C o s = some (s',p)):s'.get t = s.get t:=by
 unfold iJ at e
 split at e
 ·split at e
  ·cases e; exact A5 h
  ·cases e
 ·cases e; exact A5 h
 ·cases e
theorem EJ {t:Nat} {b:Bool}:∀ (l:List bT) {s:St} (fp:List Fp) (k:St→List Fp→Option β) (h:s.get t = .d (.bool b)),kE T (bM t b l) s fp k = kE T l s fp k
 | [],s,fp,k,h=>rfl
 | o :: l,s,fp,k,h=>by
  simp only [bM,kE,R4 h]
  cases e:iJ (call T) o s with
  | none=>rfl
  | some q =>
   obtain ⟨s',p⟩:=q
   simp only
   split
   ·rfl
   ·rename_i hd
    exact EJ l _ k (by rw [TO hd e]; exact h)
noncomputable def AP (T:AL) (v:V) (t:Nat) (l:List bT) (s:St) (fp:List Fp) (k:St→List Fp→Option β):Option β:=match v with
 | .d (.bool b)=>if b = true then kE T (bM t true l) s fp k else kE T (bM t false l) s fp k
 | .tup []=>match l with
  | o :: r=>kE T r (s.put o.dst (.tup []) []) (([],[]) :: fp) k
  | []=>none
 | _=>none
theorem O3 (d:Option Nat) (op:jA) (t:Nat) (w:Bool) (l:List bT) (fr:List (Nat × V)) (bl:List (Nat × Option aX)) (fp:List Fp) (k:St→List Fp→Option β) :
  kE T (⟨d,op,some (t,w)⟩ :: l) ⟨fr,bl⟩ fp k = mE fr t fun v=>AP T v t (⟨d,op,some (t,w)⟩ :: l) ⟨fr,bl⟩ fp k:=by
 show _ = AP T (lk fr .any t) t _ _ fp k
 generalize hv:lk fr .any t = v
 have bad:∀ (q:uM v w = .bad),kE T (⟨d,op,some (t,w)⟩ :: l) ⟨fr,bl⟩ fp k = none:=by
  intro q
  simp only [kE,iJ,bT.wants]
  rw [show (St.get ⟨fr,bl⟩ t) = v from hv,q]
 cases v with
 | d x =>
  cases x with
  | bool b =>
   simp only [AP]
   cases b with
   | true=>rw [if_pos rfl,EJ (t:=t) (b:=true) (s:=⟨fr,bl⟩) _ _ _ hv]
   | false=>rw [if_neg (by decide),EJ (t:=t) (b:=false) (s:=⟨fr,bl⟩) _ _ _ hv]
  | _=>exact bad rfl
 | tup vs =>
  cases vs with
  | nil =>
   simp only [AP,kE,iJ,bT.wants]
   rw [show (St.get ⟨fr,bl⟩ t) = _ from hv]
   rfl
  | cons x l=>exact bad rfl
 | _=>exact bad rfl
theorem XL (b:Bool) (t:Nat) (l:List bT) (s:St) (fp:List Fp) (k:St→List Fp→Option β):AP T (.d (.bool b)) t l s fp k = if b = true then kE T (bM t true l) s fp k else kE T (bM t false l) s fp k:=rfl
theorem aAu (t d:Nat) (op:jA) (g:Option (Nat × Bool)) (l:List bT) (fr:List (Nat × V)) (bl:List (Nat × Option aX)) (fp:List Fp) (k:St→List Fp→Option β):AP T (.tup []) t (⟨some d,op,g⟩ :: l) ⟨fr,bl⟩ fp k = kE T l ⟨(d,.tup []) :: fr,bl⟩ (([],[]) :: fp) k:=rfl
theorem U8 (t:Nat) (op:jA) (g:Option (Nat × Bool)) (l:List bT) (fr:List (Nat × V)) (bl:List (Nat × Option aX)) (fp:List Fp) (k:St→List Fp→Option β):AP T (.tup []) t (⟨none,op,g⟩ :: l) ⟨fr,bl⟩ fp k = kE T l ⟨fr,bl⟩ (([],[]) :: fp) k:=rfl
theorem uO {l l' : List bT} {s:St} {fp:List Fp} {k:St→List Fp→Option β} (h:l = l'):kE T l s fp k = kE T l' s fp k:=by rw [h]
theorem aFd (x:D) (ds:List D) (k:D→Option β):bK (x :: ds) 0 k = k x:=rfl
theorem aGd (x:D) (ds:List D) (n:Nat) (k:D→Option β):bK (x :: ds) (n + 1) k = bK ds n k:=rfl
section
variable {d:Nat} {fr:List (Nat × V)} {bl:List (Nat × Option aX)} {k:List Nat→Option β}
def EK (v:V) (k:List Nat→Option β):Option β:=k v.ids
theorem aHQ (x:D):EK (.d x) k = k []:=rfl
theorem aBX:EK .nil k = k []:=rfl
theorem aBw:EK .any k = k []:=rfl
theorem aB7 (i o:Nat):EK (.ptr i o) k = k [i]:=rfl
theorem aDE (i o:Nat):EK (.own i o) k = k [i]:=rfl
theorem XI (i v j o:Nat):EK (.orow i v j o) k = k [i]:=rfl
def s8 (bl:List (Nat × Option aX)):List V→(List Nat→Option β)→Option β
 | [],k=>k []
 | c :: cs,k=>k (c.dids1 (lk bl none) ++ cs.flatMap (V.dids1 (lk bl none)))
def vZ (bl:List (Nat × Option aX)) (v:V) (k:List Nat→Option β):Option β:=k (v.dids (lk bl none))
theorem vV (cs:List V):s8 bl cs k = k (cs.flatMap (V.dids1 (lk bl none))):=by cases cs <;> rfl
theorem T1:s8 bl [] k = k []:=rfl
theorem aDF (x:D) (cs:List V):s8 bl (.d x :: cs) k = s8 bl cs k:=by simp only [vV]; rfl
theorem aAM (cs:List V):s8 bl (.nil :: cs) k = s8 bl cs k:=by simp only [vV]; rfl
theorem U9 (cs:List V):s8 bl (.any :: cs) k = s8 bl cs k:=by simp only [vV]; rfl
theorem UE (i o:Nat) (cs:List V):s8 bl (.own i o :: cs) k = s8 bl cs fun l=>k (i :: l):=by simp only [vV]; rfl
theorem aGD (x:D):vZ bl (.d x) k = k []:=rfl
theorem ZT:vZ bl .nil k = k []:=rfl
theorem X6 (i o:Nat):vZ bl (.own i o) k = k [i]:=rfl
theorem aAf (cs:List V):vZ bl (.agg cs) k = s8 bl cs k:=by rw [vV]; rfl
theorem O4 (ds:List D):(aC ds).flatMap (V.dids1 (lk bl none)) = []:=by
 induction ds with
 | nil=>rfl
 | cons x ds ih=>exact ih
theorem TZ (ds:List D):vZ bl (cW ds) k = k []:=by
 show k ((aC ds).flatMap (V.dids1 (lk bl none))) = _
 rw [O4]
theorem Q2 (ds:List D):(aC ds).flatMap V.ids1 = []:=by
 induction ds with
 | nil=>rfl
 | cons x ds ih=>exact ih
def s6:List V→(List Nat→Option β)→Option β
 | [],k=>k []
 | c :: cs,k=>k (c.ids1 ++ cs.flatMap V.ids1)
theorem vS (cs:List V):s6 cs k = k (cs.flatMap V.ids1):=by cases cs <;> rfl
theorem UH:s6 [] k = k []:=rfl
theorem aDV (x:D) (cs:List V):s6 (.d x :: cs) k = s6 cs k:=by simp only [vS]; rfl
theorem aBm (cs:List V):s6 (.nil :: cs) k = s6 cs k:=by simp only [vS]; rfl
theorem T2 (cs:List V):s6 (.any :: cs) k = s6 cs k:=by simp only [vS]; rfl
theorem TY (i o:Nat) (cs:List V):s6 (.own i o :: cs) k = s6 cs fun l=>k (i :: l):=by simp only [vS]; rfl
theorem TP (i o:Nat) (cs:List V):s6 (.ptr i o :: cs) k = s6 cs fun l=>k (i :: l):=by simp only [vS]; rfl
def M0 (b:Option aX) (k:List Nat→Option β):Option β:=match b with
 | some (.box cs)=>k (cs.flatMap V.ids1)
 | _=>k []
theorem ZZ (c:V) (cs:List V):M0 (some (.box (c :: cs))) k = s6 (c :: cs) k:=by rw [vS]; rfl
theorem N2 (ds:List D):M0 (some (.box (aC ds))) k = k []:=by
 show k ((aC ds).flatMap V.ids1) = _
 rw [Q2]
theorem UI (ds:List D):M0 (some (.fbox ds)) k = k []:=rfl
theorem S4:M0 none k = k []:=rfl
theorem aBO (i o:Nat):(V.ptr i o).dids1 (lk bl none) = i :: (match lk bl none i with | some (.box cs)=>cs.flatMap V.ids1 | _=>[]):=rfl
theorem XS (i o:Nat):vZ bl (.ptr i o) k = eD bl i fun b=>M0 b fun l=>k (i :: l):=by
 unfold vZ eD M0
 show k ((V.ptr i o).dids1 (lk bl none)) = _
 rw [aBO]
 cases lk bl none i with
 | none=>rfl
 | some b=>cases b <;> rfl
theorem TX (i o:Nat) (cs:List V):s8 bl (.ptr i o :: cs) k = vZ bl (.ptr i o) fun m=>s8 bl cs fun l=>k (m ++ l):=by simp only [vV]; rfl
theorem aDO:BT d .fail fr bl k = k []:=rfl
theorem aAZ (x:cY):BT d (.move x) fr bl k = k []:=rfl
theorem aBE (a b c:cY):BT d (.pick a b c) fr bl k = k []:=rfl
theorem Y5 (z:List V):BT d (.alloc z) fr bl k = k [d]:=rfl
theorem aGM (x:cY):BT d (.box x) fr bl k = k [d]:=rfl
theorem ZG (z:List V) (ps:List (Nat × Nat × cY)):BT d (.build z ps) fr bl k = k []:=rfl
theorem LO (e s b:Nat) (z:List D) (x y:cY):BT d (.makeSlice e s b z x y) fr bl k = k [d]:=rfl
theorem fp1 (l:List Nat):([]:List Nat) ++ ((l ++ []) ++ []) = l:=by simp
theorem aBP (s:Nat) (a:Bool) (x:cY):BT d (.load s a x) fr bl k = dH fr x fun v=>EK v k:=by
 show k ([] ++ (((cQ (lk fr .any) x).ids ++ []) ++ [])) = _
 rw [fp1]; rfl
theorem NV (x:cY):BT d (.nilCheck x) fr bl k = dH fr x fun v=>EK v k:=by
 show k ([] ++ (((cQ (lk fr .any) x).ids ++ []) ++ [])) = _
 rw [fp1]; rfl
theorem LF (o:Nat) (x:cY):BT d (.fieldAddr o x) fr bl k = dH fr x fun v=>EK v k:=by
 show k ([] ++ (((cQ (lk fr .any) x).ids ++ []) ++ [])) = _
 rw [fp1]; rfl
theorem aFc (x:cY):BT d (.len x) fr bl k = dH fr x fun v=>EK v k:=by
 show k ([] ++ (((cQ (lk fr .any) x).ids ++ []) ++ [])) = _
 rw [fp1]; rfl
theorem YN (s:Nat) (x:cY) (lo hi:Option cY):BT d (.slice s x lo hi) fr bl k = dH fr x fun v=>EK v k:=by
 show k ([] ++ (((cQ (lk fr .any) x).ids ++ []) ++ [])) = _
 rw [fp1]; rfl
theorem LG (s:Nat) (x i:cY):BT d (.indexAddr s x i) fr bl k = dH fr x fun v=>EK v k:=by
 show k ([] ++ (((cQ (lk fr .any) x).ids ++ []) ++ [])) = _
 rw [fp1]; rfl
theorem ZQ (s:Nat) (x v:cY):BT d (.store s x v) fr bl k = dH fr x fun a=>EK a fun l=>dH fr v fun b=>vZ bl b fun m=>k (l ++ m):=by
 show k ([] ++ (((cQ (lk fr .any) x).ids ++ []) ++ ((cQ (lk fr .any) v).dids (lk bl none) ++ []))) = _
 rw [List.nil_append,List.append_nil,List.append_nil]; rfl
theorem VN (e s b:Nat) (x y:cY):BT d (.append e s b x y) fr bl k = dH fr x fun u=>EK u fun l=>dH fr y fun v=>EK v fun m=>k (d :: (l ++ m)):=by
 show k ([d] ++ (((cQ (lk fr .any) x).ids ++ ((cQ (lk fr .any) y).ids ++ [])) ++ [])) = _
 rw [List.append_nil,List.append_nil]; rfl
def A1 (fr:List (Nat × V)) (bl:List (Nat × Option aX)):List cY→(List Nat→Option β)→Option β
 | [],k=>k []
 | x :: l,k=>dH fr x fun v=>vZ bl v fun m=>A1 fr bl l fun n=>k (m ++ n)
theorem GP (l:List cY):∀ (k:List Nat→Option β),A1 fr bl l k = k (l.flatMap fun x=>(cQ (lk fr .any) x).dids (lk bl none)):=by
 induction l with
 | nil=>intro k; rfl
 | cons x l ih=>intro k; simp only [A1,dH,vZ,ih,List.flatMap_cons]
theorem S8 (k:List Nat→Option β):A1 fr bl [] k = k []:=rfl
theorem P8 (x:cY) (l:List cY) (k:List Nat→Option β):A1 fr bl (x :: l) k = dH fr x fun v=>vZ bl v fun m=>A1 fr bl l fun n=>k (m ++ n):=rfl
theorem aCw (f:Nat) (args:List cY):BT d (.call f args) fr bl k = A1 fr bl args k:=by
 rw [GP]; rfl
theorem aB5 (f:Nat) (args:List cY):BT d (.mkfn f args) fr bl k = A1 fr bl args k:=by
 rw [GP]; rfl
theorem Z5 (g:cY) (args:List cY):BT d (.callv g args) fr bl k = A1 fr bl args k:=by
 rw [GP]; rfl
def D4 (fr:List (Nat × V)) (bl:List (Nat × Option aX)):List (Nat × cY)→(List Nat→Option β)→Option β
 | [],k=>k []
 | (_,x) :: l,k=>dH fr x fun v=>vZ bl v fun m=>D4 fr bl l fun n=>k (m ++ n)
theorem YP (l:List (Nat × cY)):∀ (k:List Nat→Option β),D4 fr bl l k = k ((l.map fun p=>p.2).flatMap fun x=>(cQ (lk fr .any) x).dids (lk bl none)):=by
 induction l with
 | nil=>intro k; rfl
 | cons x l ih=>intro k; obtain ⟨i,x⟩:=x; simp only [D4,dH,vZ,ih,List.map_cons,List.flatMap_cons]
theorem TR (k:List Nat→Option β):D4 fr bl [] k = k []:=rfl
theorem PS (i:Nat) (x:cY) (l:List (Nat × cY)) (k:List Nat→Option β):D4 fr bl ((i,x) :: l) k = dH fr x fun v=>vZ bl v fun m=>D4 fr bl l fun n=>k (m ++ n):=rfl
theorem I9 (e s n:Nat) (z:List D) (ps:List (Nat × cY)):BT d (.buildSlice e s z n ps) fr bl k = D4 fr bl ps fun l=>k (d :: l):=by
 rw [YP]; rfl
theorem aFq (c:Nat) (op:BinOp) (x y:cY):BT d (.bin c op x y) fr bl k = k []:=rfl
theorem aGO (ks:List Nat) (n:Bool) (x y:cY):BT d (.eqS ks n x y) fr bl k = k []:=rfl
theorem aID (op:UnOp) (x:cY):BT d (.un op x) fr bl k = k []:=rfl
theorem aCj (kd:IntKind) (x:cY):BT d (.conv kd x) fr bl k = k []:=rfl
theorem NJ (x:cY) (lo hi:Option cY):BT d (.strSlice x lo hi) fr bl k = k []:=rfl
theorem XV (o s:Nat) (a:Bool) (x:cY):BT d (.field o s a x) fr bl k = k []:=rfl
theorem aAj (x i:cY):BT d (.index x i) fr bl k = k []:=rfl
theorem aC9 (x:cY):BT d (.lenS x) fr bl k = k []:=rfl
theorem aEs (l:List cY):BT d (.max l) fr bl k = k []:=rfl
theorem aFX (l:List cY):BT d (.min l) fr bl k = k []:=rfl
theorem aAH (x:cY):BT d (.bytes x) fr bl k = k []:=rfl
theorem QU (x:cY) (i:Nat):BT d (.extract x i) fr bl k = k []:=rfl
theorem aCO {k:Ex→St→Option β} (l:List bT) (ps:List (Nat × Nat)):cX T (.region l (some ps)) ⟨fr,bl⟩ k = kE T l ⟨fr,bl⟩ [] (aFz l ps (k .normal)):=by
 rw [aCV,aGI]
end
section
variable {d:Nat} {fr:List (Nat × V)} {bl:List (Nat × Option aX)} {k:V→Option β} {kw:V→List (Nat × Option aX)→Option β}
theorem aI0 (a b c:List (Nat × Option aX)) (v:V):TJ ((a ++ b) ++ c) v k kw = TJ (a ++ (b ++ c)) v k kw:=by rw [List.append_assoc]
def XQ (id:Nat) (f:List (Nat × Option aX)) (x:Option β):Option β:=if wK id f = true then x else none
theorem MT (id:Nat) (b:List (Nat × Option aX)):∀ a:List (Nat × Option aX),wK id (a ++ b) = if wK id a = true then wK id b else false
 | []=>rfl
 | (i,x) :: a=>by
  simp only [List.cons_append,wK]
  by_cases h:i = id
  ·simp [h]
  ·simp only [if_neg h]; exact MT id b a
theorem aFh (id:Nat) (x:Option β):XQ id [] x = x:=rfl
theorem aJ6 (id i:Nat) (b:Option aX) (w:List (Nat × Option aX)) (x:Option β) (h:(i == id) = false):XQ id ((i,b) :: w) x = XQ id w x:=by
 have h:¬ i = id:=by simpa using h
 simp only [XQ,wK,if_neg h]
theorem aEC (id:Nat) (a b:List (Nat × Option aX)) (x:Option β):XQ id (a ++ b) x = XQ id a (XQ id b x):=by
 unfold XQ
 rw [MT]
 by_cases h:wK id a = true
 ·rw [if_pos h,if_pos h]
 ·rw [if_neg h,if_neg h]; rfl
def bH (row:List D) (off:Nat) (ds:List D) (size:Nat) (k:List D→Option β):Option β:=if ds.length = size ∧ off + size ≤ row.length then k (gJ row off ds) else none
theorem OB (c:D) (cs:List D) (off:Nat) (e:D) (ds:List D) (n:Nat) (k:List D→Option β):bH (c :: cs) (off + 1) (e :: ds) n k = bH cs off (e :: ds) n fun l=>k (c :: l):=by
 unfold bH
 simp only [List.length_cons,gJ]
 by_cases h:ds.length + 1 = n ∧ off + n ≤ cs.length
 ·exact (if_pos (by omega)).trans (if_pos h).symm
 ·exact (if_neg (by omega)).trans (if_neg h).symm
theorem RF (c:D) (cs:List D) (e:D) (ds:List D) (n:Nat) (k:List D→Option β):bH (c :: cs) 0 (e :: ds) (n + 1) k = bH cs 0 ds n fun l=>k (e :: l):=by
 unfold bH
 simp only [List.length_cons,gJ]
 by_cases h:ds.length = n ∧ 0 + n ≤ cs.length
 ·exact (if_pos (by omega)).trans (if_pos h).symm
 ·exact (if_neg (by omega)).trans (if_neg h).symm
theorem PE (cs:List D) (k:List D→Option β):bH cs 0 [] 0 k = k cs:=by
 unfold bH
 rw [if_pos ⟨rfl,by omega⟩,MX]
def B9 (e:Nat) (rows:List (List D)) (i:Nat) (row:List D) (k:List (List D)→Option β):Option β:=k (rows.set i row)
theorem JV {α:Type} (e:Nat) (c:α→List D) (xs:List α) (i:Nat) (x:α) (k:List (List D)→Option β):B9 e (cM c xs) i (c x) k = k (cM c (xs.set i x)):=by
 unfold B9
 rw [aIb]
theorem aFU {α:Type} (size v i off id e sz:Nat) (w:V) (c:α→List D) (xs:List α):F0 size v i off id w bl (some (.rows v e sz (cM c xs))) kw = IP w bl fun ds f=>XQ id f (xs[i]?.bind fun x=>bH (c x) off ds size fun row=>B9 e (cM c xs) i row fun rows=>kw .any ((id,some (.rows v e sz rows)) :: f)):=by
 unfold F0 IP
 simp only [KA,if_true,cM,List.getElem?_map]
 cases xs[i]? with
 | none =>
  simp only [Option.map_none,Option.bind_none]
  cases bI (j7 (lk bl none)) w.cells with
  | none=>rfl
  | some ds=>simp only [XQ]; split <;> rfl
 | some x =>
  simp only [Option.map_some,Option.bind_some]
  cases bI (j7 (lk bl none)) w.cells with
  | none=>rfl
  | some ds =>
   simp only [bH,B9,XQ]
   by_cases h1:wK id (rS (lk bl none) w) = true
   ·rw [if_pos h1]
    by_cases h2:ds.length = size ∧ off + size ≤ (c x).length
    ·rw [if_pos h2,if_pos ⟨h2.1,h2.2,h1⟩]; rfl
    ·rw [if_neg h2,if_neg (fun q=>h2 ⟨q.1,q.2.1⟩)]; rfl
   ·rw [if_neg h1,if_neg (fun q=>h1 q.2.2)]; rfl
end
end
section
variable {β:Type} {T:AL} {bl:List (Nat × Option aX)} {k:V→Option β} {kw:V→List (Nat × Option aX)→Option β}
def qG (size id ver:Nat) (lo hi:Option V) (b:Option aX) (k:V→Option β) (kw:V→List (Nat × Option aX)→Option β):Option β:=DD (sM (fun _=>b) size (.own id ver) lo hi) k kw
theorem U4 (size id ver:Nat) (lo hi:Option V):A0 size (.own id ver) lo hi bl k kw = eD bl id fun b=>qG size id ver lo hi b k kw:=by
 unfold A0 eD qG
 congr 1
 cases lo with
 | none=>cases hi with
  | none=>rfl
  | some h=>cases h with
   | d x=>cases x <;> rfl
   | _=>rfl
 | some l=>rfl
theorem qY {α:Type} (size id v:Nat) (c:α→List D) (xs:List α) (hs:sized size (cM c xs) = true) (b:aX) (wr:List (Nat × Option aX)) (lo hi:Option V) (l h:Int) (hl:yG lo 0 = some l) (hh:yG hi (xs.length:Int) = some h)
  (hb:iI (fun _=>some b) (.own id v) = some (cM c xs)) (hw:BU (fun _=>some b) (.own id v) = wr) (hn:lo = none→hi = none) :
  qG size id v lo hi (some b) k kw = if fX xs.length l h then DD (some (.d (.sl (cM c (dE xs l h))),wr)) k kw else none:=by
 have e0:sM (fun _=>some b) size (.own id v) lo hi = (match yG hi ((cM c xs).length:Int),yG lo 0 with
   | some h,some l=>if 0 ≤ l ∧ l ≤ h ∧ h.toNat ≤ (cM c xs).length ∧ sized size (cM c xs) = true then some (.d (.sl (((cM c xs).take h.toNat).drop l.toNat)),wr) else none
   | _,_=>none):=by
  cases lo with
  | none =>
   obtain rfl:=hn rfl
   unfold sM
   simp only [hb,hw]
   rfl
  | some w =>
   unfold sM
   simp only [hb,hw]
   rfl
 unfold qG
 rw [e0,show ((cM c xs).length:Int) = (xs.length:Int) by simp [cM],hl,hh]
 simp only [show (cM c xs).length = xs.length by simp [cM]]
 by_cases q:fX xs.length l h
 ·rw [if_pos q,if_pos ⟨q.1,q.2.1,q.2.2,hs⟩]
  simp only [cM,dE,List.map_drop,List.map_take]
 ·rw [if_neg q,if_neg (fun w=>q ⟨w.1,w.2.1,w.2.2.1⟩)]; rfl
section
variable {α:Type} (size id v:Nat) (c:α→List D) (xs:List α) (hs:sized size (cM c xs) = true)
include hs
theorem SC (e s:Nat) (kd:IntKind) (l:Int):qG size id v (some (.d (.int kd l))) none (some (.rows v e s (cM c xs))) k kw = if fX xs.length l (xs.length:Int) then kw (.d (.sl (cM c (dE xs l (xs.length:Int))))) [(id,some (.froz v (cM c xs)))] else none :=
 qY size id v c xs hs _ _ _ _ _ _ rfl rfl (by simp [iI]) rfl (fun h=>by cases h)
theorem UC (e s:Nat) (kd kd' : IntKind) (l h:Int):qG size id v (some (.d (.int kd l))) (some (.d (.int kd' h))) (some (.rows v e s (cM c xs))) k kw = if fX xs.length l h then kw (.d (.sl (cM c (dE xs l h)))) [(id,some (.froz v (cM c xs)))] else none :=
 qY size id v c xs hs _ _ _ _ _ _ rfl rfl (by simp [iI]) rfl (fun h=>by cases h)
theorem VC (e s:Nat):qG size id v none none (some (.rows v e s (cM c xs))) k kw = if fX xs.length 0 (xs.length:Int) then kw (.d (.sl (cM c (dE xs 0 (xs.length:Int))))) [(id,some (.froz v (cM c xs)))] else none :=
 qY size id v c xs hs _ _ _ _ _ _ rfl rfl (by simp [iI]) rfl (fun _=>rfl)
theorem VO (kd:IntKind) (l:Int):qG size id v (some (.d (.int kd l))) none (some (.froz v (cM c xs))) k kw = if fX xs.length l (xs.length:Int) then k (.d (.sl (cM c (dE xs l (xs.length:Int))))) else none :=
 qY size id v c xs hs _ _ _ _ _ _ rfl rfl (by simp [iI]) rfl (fun h=>by cases h)
theorem U0 (kd kd' : IntKind) (l h:Int):qG size id v (some (.d (.int kd l))) (some (.d (.int kd' h))) (some (.froz v (cM c xs))) k kw = if fX xs.length l h then k (.d (.sl (cM c (dE xs l h)))) else none :=
 qY size id v c xs hs _ _ _ _ _ _ rfl rfl (by simp [iI]) rfl (fun h=>by cases h)
theorem TN:qG size id v none none (some (.froz v (cM c xs))) k kw = if fX xs.length 0 (xs.length:Int) then k (.d (.sl (cM c (dE xs 0 (xs.length:Int))))) else none :=
 qY size id v c xs hs _ _ _ _ _ _ rfl rfl (by simp [iI]) rfl (fun _=>rfl)
end
theorem SP {α:Type} (size id v e s:Nat) (c:α→List D) (xs:List α) (kd:IntKind) (h:Int):qG size id v none (some (.d (.int kd h))) (some (.rows v e s (cM c xs))) k kw = if 0 ≤ h ∧ h.toNat ≤ xs.length then kw (.own id (v + 1)) [(id,some (.rows (v + 1) e s (cM c (xs.take h.toNat))))] else none:=by
 unfold qG sM
 simp only [cM,List.length_map,true_and,List.map_take]
 split <;> rfl
end
end Vm
end Go.Proofs.Ytfhebiceipgdmaa
set_option linter.unusedVariables false
set_option linter.unusedSimpArgs false
namespace Go.Proofs.Ytfhebiceipgdmaa
namespace Vm
open Go.RowKit
section
variable {β:Type} {T:AL} {d:Nat} {fr:List (Nat × V)} {bl:List (Nat × Option aX)} {k:V→Option β} {kw:V→List (Nat × Option aX)→Option β}
def aIA (size:Nat) (a:V) (lo hi:Option V) (bl:List (Nat × Option aX)) (kw:V→List (Nat × Option aX)→Option β):Option β:=match D2 (lk bl none) size a lo hi with
 | some (v,wr)=>kw v wr
 | none=>none
def K1 (size id ver:Nat) (lo hi:Option V) (b:Option aX) (kw:V→List (Nat × Option aX)→Option β):Option β:=match D2 (fun _=>b) size (.own id ver) lo hi with
 | some (v,wr)=>kw v wr
 | none=>none
theorem aE9 {bl:Nat→Option aX} {size:Nat} {a:V} {lo hi:Option V} {v:V} {wr:List (Nat × Option aX)} (h:D2 bl size a lo hi = some (v,wr)):∃ p l,wr = p :: l:=by
 unfold D2 at h
 split at h
 ·split at h
  ·split at h
   ·split at h
    ·cases h; exact ⟨_,_,rfl⟩
    ·cases h
   ·cases h
  ·cases h
 ·cases h
theorem aEw (size:Nat) (x:cY) (lo hi:Option cY):sK T d (.cut size x lo hi) fr bl k kw = dH fr x fun a=>TE fr lo fun l=>TE fr hi fun h=>aIA size a l h bl kw:=by
 rw [jH]
 simp only [dV]
 have e:∀ (o:Option cY) (g:Option V→Option β),TE fr o g = g (o.map (cQ (lk fr .any))):=fun o g=>by cases o <;> rfl
 simp only [e,dH,aIA,DD]
 cases h:D2 (lk bl none) size (cQ (lk fr .any) x) (lo.map (cQ (lk fr .any))) (hi.map (cQ (lk fr .any))) with
 | none=>rfl
 | some r =>
  obtain ⟨v,wr⟩:=r
  obtain ⟨p,l,rfl⟩:=aE9 h
  rfl
theorem aBV (size id ver:Nat) (lo hi:Option V):aIA size (.own id ver) lo hi bl kw = eD bl id fun b=>K1 size id ver lo hi b kw:=rfl
theorem aDS {α:Type} (c:α→List D) (xs:List α) (e s id v:Nat) (kd:IntKind) (l:Int):K1 s id v (some (.d (.int kd l))) none (some (.rows v e s (cM c xs))) kw = if fX xs.length l (xs.length:Int) then kw (.own id (v + 1)) [(id,some (.rows (v + 1) e s (cM c (dE xs l (xs.length:Int)))))] else none:=by
 have e1:(cM c xs).length = xs.length:=List.length_map ..
 have e2:((cM c xs).take (Int.toNat (xs.length:Int))).drop l.toNat = cM c (dE xs l (xs.length:Int)):=by unfold cM dE; rw [List.map_drop,List.map_take]
 by_cases h:fX xs.length l (xs.length:Int)
 ·rw [if_pos h]
  simp only [K1,D2,e1,e2]
  rw [if_pos ⟨trivial,trivial,h⟩]
 ·rw [if_neg h]
  simp only [K1,D2,e1,e2]
  rw [if_neg fun q=>h q.2.2]
theorem aBq {α:Type} (c:α→List D) (xs:List α) (e s id v:Nat) (kd kd' : IntKind) (l m:Int):K1 s id v (some (.d (.int kd l))) (some (.d (.int kd' m))) (some (.rows v e s (cM c xs))) kw = if fX xs.length l m then kw (.own id (v + 1)) [(id,some (.rows (v + 1) e s (cM c (dE xs l m))))] else none:=by
 have e1:(cM c xs).length = xs.length:=List.length_map ..
 have e2:((cM c xs).take m.toNat).drop l.toNat = cM c (dE xs l m):=by unfold cM dE; rw [List.map_drop,List.map_take]
 by_cases h:fX xs.length l m
 ·rw [if_pos h]
  simp only [K1,D2,e1,e2]
  rw [if_pos ⟨trivial,trivial,h⟩]
 ·rw [if_neg h]
  simp only [K1,D2,e1,e2]
  rw [if_neg fun q=>h q.2.2]
def NW (z:List D) (a:V) (bl:List (Nat × Option aX)) (k:V→Option β) (kw:V→List (Nat × Option aX)→Option β):Option β:=DD (match a with
  | .nil=>some (.any,[])
  | .own id ver=>match lk bl none id with
   | some (.rows v e size rows)=>if ver = v ∧ z.length = size then some (.any,[(id,some (.rows v e size (List.replicate rows.length z)))]) else none
   | _=>none
  | _=>none) k kw
def V6 (z:List D) (id ver:Nat) (b:Option aX) (kw:V→List (Nat × Option aX)→Option β):Option β:=match b with
 | some (.rows v e size rows)=>if ver = v ∧ z.length = size then kw .any [(id,some (.rows v e size (List.replicate rows.length z)))] else none
 | _=>none
theorem aAk (z:List D) (x:cY):sK T d (.clear z x) fr bl k kw = dH fr x fun a=>NW z a bl k kw:=by
 rw [jH]
 rfl
theorem SW (z:List D):NW z .nil bl k kw = k .any:=rfl
theorem UW (z:List D) (id ver:Nat):NW z (.own id ver) bl k kw = eD bl id fun b=>V6 z id ver b kw:=by
 unfold NW eD V6
 simp only
 cases lk bl none id with
 | none=>rfl
 | some b =>
  cases b with
  | rows v e size rows =>
   simp only
   split <;> rfl
  | _=>rfl
def aAd:List cY→Nat→(cY→Option β)→Option β
 | [],_,_=>none
 | x :: _,0,g=>g x
 | _ :: l,n + 1,g=>aAd l n g
theorem aH0 (x:cY) (l:List cY) (g:cY→Option β):aAd (x :: l) 0 g = g x:=rfl
theorem aH6 (x:cY) (l:List cY) (n:Nat) (g:cY→Option β):aAd (x :: l) (n + 1) g = aAd l n g:=rfl
theorem W6 (g:cY→Option β):∀ (l:List cY) (n:Nat),aAd l n g = l[n]?.bind g
 | [],_=>rfl
 | _ :: _,0=>rfl
 | _ :: l,n + 1=>W6 g l n
def OK (v:V) (g:Nat→Nat→Option β):Option β:=match v with
 | .own id ver=>g id ver
 | _=>none
theorem aIy (id ver:Nat) (g:Nat→Nat→Option β):OK (.own id ver) g = g id ver:=rfl
def QC (v:V) (bl:List (Nat × Option aX)) (g:D→Option β):Option β:=(FN (lk bl none) v).bind g
def UA (ver:Nat) (b:Option aX) (g:D→Option β):Option β:=match b with
 | some (.rows v e size rows)=>if ver = v then g (.own (.ref 0) [(e,size)] [rows]) else none
 | _=>none
theorem XG (id ver:Nat) (g:D→Option β):QC (.own id ver) bl g = eD bl id fun b=>UA ver b g:=by
 unfold QC eD UA FN
 simp only
 cases lk bl none id with
 | none=>rfl
 | some b =>
  cases b with
  | rows v e size rows=>simp only; split <;> rfl
  | _=>rfl
theorem Q4 (v e s:Nat) (rows:List (List D)) (g:D→Option β):UA v (some (.rows v e s rows)) g = g (.own (.ref 0) [(e,s)] [rows]):=if_pos rfl
def BH (fr:List (Nat × V)) (bl:List (Nat × Option aX)) (t:Nat):Nat→List cY→(List D→List (Nat × Option aX)→Option β)→Option β
 | _,[],g=>g [] []
 | i,x :: l,g=>dH fr x fun v=>if i = t then QC v bl fun y=>BH fr bl t (i + 1) l fun ds f=>g (y :: ds) f else wZ v bl fun y f=>BH fr bl t (i + 1) l fun ds f'=>g (y :: ds) (f ++ f')
theorem YZ (t i:Nat) (g:List D→List (Nat × Option aX)→Option β):BH fr bl t i [] g = g [] []:=rfl
theorem YR (t i:Nat) (x:cY) (l:List cY) (g:List D→List (Nat × Option aX)→Option β) (h:(i == t) = true):BH fr bl t i (x :: l) g = dH fr x fun v=>QC v bl fun y=>BH fr bl t (i + 1) l fun ds f=>g (y :: ds) f:=by
 have:i = t:=by simpa using h
 simp only [BH,if_pos this]
theorem SF (t i:Nat) (x:cY) (l:List cY) (g:List D→List (Nat × Option aX)→Option β) (h:(i == t) = false):BH fr bl t i (x :: l) g = dH fr x fun v=>wZ v bl fun y f=>BH fr bl t (i + 1) l fun ds f'=>g (y :: ds) (f ++ f'):=by
 have:¬ i = t:=by simpa using h
 simp only [BH,if_neg this]
theorem KE (t:Nat):∀ (l:List cY) (i:Nat) (g:List D→List (Nat × Option aX)→Option β),BH fr bl t i l g = (yM (lk bl none) t i (l.map (cQ (lk fr .any)))).bind fun ds=>g ds (pH (lk bl none) t i (l.map (cQ (lk fr .any))))
 | [],i,g=>rfl
 | x :: l,i,g=>by
  simp only [BH,List.map_cons,yM,pH,dH]
  by_cases h:i = t
  ·simp only [if_pos h,QC,KE t l (i + 1)]
   cases FN (lk bl none) (cQ (lk fr .any) x) with
   | none=>rfl
   | some y =>
    cases yM (lk bl none) t (i + 1) (l.map (cQ (lk fr .any))) with
    | none=>rfl
    | some ds=>simp
  ·simp only [if_neg h,wZ,KE t l (i + 1)]
   cases iY (lk bl none) (cQ (lk fr .any) x) with
   | none=>rfl
   | some y=>cases yM (lk bl none) t (i + 1) (l.map (cQ (lk fr .any))) <;> rfl
noncomputable def aHi (T:AL) (bl:List (Nat × Option aX)) (f id ver:Nat) (ds:List D) (kw:V→List (Nat × Option aX)→Option β):Option β:=match call T f ds with
 | some (.own y [(e,size)] [rows'])=>match lk bl none id with
  | some (.rows v e' size' _)=>if ver = v ∧ e = e' ∧ size = size' ∧ D6 y = true ∧ FZ rows' = true then kw (toV y) [(id,some (.rows v e size rows'))] else none
  | _=>none
 | _=>none
theorem aBd (f:Nat) (args:List cY) (t:Nat):sK T d (.lend f args t) fr bl k kw = aAd args t fun x=>dH fr x fun v=>OK v fun id ver=>BH fr bl t 0 args fun ds fz=>XQ id fz (aHi T bl f id ver ds kw):=by
 rw [jH,W6]
 simp only [dV,List.getElem?_map]
 cases args[t]? with
 | none=>rfl
 | some x =>
  simp only [Option.map_some,Option.bind_some,dH]
  generalize cQ (lk fr .any) x = v
  cases v with
  | own id ver =>
   simp only [OK,KE]
   cases yM (lk bl none) t 0 (args.map (cQ (lk fr .any))) with
   | none=>rfl
   | some ds =>
    simp only [Option.bind_some,XQ]
    split
    ·unfold aHi
     generalize call T f ds = r
     generalize lk bl none id = b
     split
     ·split
      ·split
       ·rename_i hq
        exact (if_pos hq).symm
       ·rename_i hq
        exact (if_neg hq).symm
      ·rename_i hq
       cases b with
       | none=>rfl
       | some b=>cases b <;> first | rfl | exact absurd rfl (hq _ _ _ _)
     ·rename_i hq
      split
      ·exact absurd rfl (hq _ _ _ _)
      ·rfl
    ·rfl
  | _=>rfl
def aIB (ver e size:Nat) (rows' : List (List D)) (b:Option aX) (g:Option aX→Option β):Option β:=match b with
 | some (.rows v e' s' _)=>if ver = v ∧ e = e' ∧ size = s' then g (some (.rows v e size rows')) else none
 | _=>none
theorem QT (v e s:Nat) (rows rows' : List (List D)) (g:Option aX→Option β):aIB v e s rows' (some (.rows v e s rows)) g = g (some (.rows v e s rows')):=if_pos ⟨rfl,rfl,rfl⟩
def aIs (res:List sP) (t:Nat):Ex→St→Option D
 | .normal,s=>xY ⟨0,0,res,.skip,true,true⟩ s t
 | .ret,s=>xY ⟨0,0,res,.skip,true,true⟩ s t
 | .exit _,_=>none
def QI (ver:Nat) (b:Option aX) (g:Nat→Nat→List (List D)→Option D):Option D:=match b with
 | some (.rows v e size rows)=>if ver = v then g e size rows else none
 | _=>none
theorem VL (v e s:Nat) (rows:List (List D)) (g:Nat→Nat→List (List D)→Option D):QI v (some (.rows v e s rows)) g = g e s rows:=if_pos rfl
def HG (e s:Nat) (rows:List (List D)) (y:D):Option D:=if D6 y = true then some (.own y [(e,s)] [rows]) else none
theorem aBJ (e s:Nat) (rows:List (List D)):HG e s rows (.tup []) = some (.own (.tup []) [(e,s)] [rows]):=rfl
theorem aCi (e s:Nat) (rows:List (List D)) (k:IntKind) (n:Int):HG e s rows (.int k n) = some (.own (.int k n) [(e,s)] [rows]):=rfl
theorem aDn (e s:Nat) (rows:List (List D)) (b:Bool):HG e s rows (.bool b) = some (.own (.bool b) [(e,s)] [rows]):=rfl
theorem WJ (res:List sP) (t:Nat):xY ⟨0,0,res,.skip,true,true⟩ ⟨fr,bl⟩ t = mE fr t fun v=>OK v fun id ver=>eD bl id fun b=>QI ver b fun e s rows=>(DI fr bl res FL).bind (HG e s rows):=by
 unfold xY mE
 rw [BW]
 cases lk fr .any t with
 | own id ver =>
  simp only [OK,eD,QI]
  rw [AO]
  cases lk bl none id with
  | none=>rfl
  | some b =>
   cases b with
   | rows v e size rows =>
    simp only
    split
    ·rw [← OD]
     cases bI (vQ ⟨fr,bl⟩) res with
     | none=>rfl
     | some us =>
      cases us with
      | nil=>rfl
      | cons u us=>cases us with
       | nil=>simp only [AO]; cases iY (lk bl none) u <;> rfl
       | cons w us=>simp only [AO]; cases toD (lk bl none) (.tup (u :: w :: us)) <;> rfl
    ·rfl
   | _=>rfl
 | _=>rfl
theorem aH9 (res:List sP) (t:Nat):aIs res t .normal ⟨fr,bl⟩ = mE fr t fun v=>OK v fun id ver=>eD bl id fun b=>QI ver b fun e s rows=>(DI fr bl res FL).bind (HG e s rows):=WJ res t
theorem aH5 (res:List sP) (t:Nat):aIs res t .ret ⟨fr,bl⟩ = mE fr t fun v=>OK v fun id ver=>eD bl id fun b=>QI ver b fun e s rows=>(DI fr bl res FL).bind (HG e s rows):=WJ res t
theorem aIn (res:List sP) (t i:Nat) (s:St):aIs res t (.exit i) s = none:=rfl
theorem aG3:FL [] = some (.tup []):=rfl
end
end Vm
end Go.Proofs.Ytfhebiceipgdmaa
