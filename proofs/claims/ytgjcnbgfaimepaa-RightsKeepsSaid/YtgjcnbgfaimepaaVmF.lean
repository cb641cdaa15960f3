/- The small machine, read from the front: slices that are laid out, calls, masks, answers. The small machine, read from the front: regions whose order is drawn. The small machine, read from the front: slices that are lent, cut, cleared. The small machine, read from the front: function values that hold boxes. slices.Clone: what it is told to answer. -/
import Derived.Test.YtgjcnbgfaimepaaVmE
set_option linter.unusedVariables false
set_option linter.unusedSimpArgs false
namespace Go.Proofs.Ytgjcnbgfaimepaa
theorem zA.{u} {α:Type u} {a:α} {l:List α}:(a::l).length = l.length + 1:=rfl
theorem zB.{u} {α:Type u}:([]:List α).length = 0:=rfl
theorem zC:(!true) = false:=rfl
theorem zD:(!false) = true:=rfl
theorem zE.{u} {α:Type u} {n:Nat} {a:α}:List.replicate (n + 1) a = a::List.replicate n a:=rfl
theorem zF.{u} {α:Type u} {a:α}:List.replicate 0 a = []:=rfl
theorem zG.{u,v} {α:Type u} {β:Type v} (a:α) (f:α->Option β):(some a).bind f = f a:=rfl
theorem zH.{u,v} {α:Type u} {β:Type v} (a:α) (f:α->β):(some a).map f = some (f a):=rfl
theorem zI.{u,v} {α:Type u} {β:Type v} (f:α->β):(none:Option α).map f = none:=rfl
theorem zJ.{u,v,w} {α:Type u} {β:Type v} {γ:Sort w} (f:α->γ) (g:β->γ) (x:α):Sum.elim f g (Sum.inl x) = f x:=rfl
theorem zK.{u,v,w} {α:Type u} {β:Type v} {γ:Sort w} (f:α->γ) (g:β->γ) (x:β):Sum.elim f g (Sum.inr x) = g x:=rfl
theorem zL.{u,v,w} {α:Type u} {β:Type v} {γ:Type w} (x:Option α) (f:α->Option β) (g:β->Option γ):(x.bind f).bind g = x.bind fun y=>(f y).bind g:=Option.bind_assoc x f g
theorem zM.{u} {α:Type u} [BEq α] [ReflBEq α] (a:α):(a == a) = true:=beq_self_eq_true a
theorem zN:(¬False) = True:=not_false_eq_true
namespace Vm
open Go.RowKit
section
variable {β:Type} {T:vS} {d:Nat} {fr:List (Nat × V)} {bl:List (Nat × Option aI)} {k:V->Option β} {kw:V->List (Nat × Option aI)->Option β}
def wT (bl:List (Nat × Option aI)):List V->(List D->List (Nat × Option aI)->Option β)->Option β
 | [],k=>k [] []
 | v :: cs,k=>(iD (lk bl none) v).bind fun x=>wT bl cs fun ds f=>k (x :: ds) (AG (lk bl none) v ++ f)
theorem LS (cs:List V) (k:List D->List (Nat × Option aI)->Option β):wT bl cs k = (aK (iD (lk bl none)) cs).bind fun ds=>k ds (cs.flatMap (AG (lk bl none))):=by
 induction cs generalizing k with
 | nil=>rfl
 | cons v cs ih =>
  simp only [wT,aK,ih,List.flatMap_cons]
  cases iD (lk bl none) v with
  | none=>rfl
  | some x=>cases aK (iD (lk bl none)) cs <;> rfl
def RZ (v:V) (bl:List (Nat × Option aI)) (k:D->List (Nat × Option aI)->Option β):Option β:=(iD (lk bl none) v).bind fun x=>k x (AG (lk bl none) v)
theorem aSr (x:D) (k:D->List (Nat × Option aI)->Option β):RZ (.d x) bl k = k x []:=rfl
theorem aO0 (k:D->List (Nat × Option aI)->Option β):RZ .nil bl k = k (.sl []) []:=rfl
def d1B (id ver:Nat) (b:Option aI) (k:D->List (Nat × Option aI)->Option β):Option β:=match b with
 | some (.rows v _ _ rows)=>if ver = v then k (.sl rows) [(id,some (.froz v rows))] else none
 | some (.froz v rows)=>if ver = v then k (.sl rows) [] else none
 | _=>none
theorem aOF (id ver:Nat) (k:D->List (Nat × Option aI)->Option β):RZ (.own id ver) bl k = aZ bl id fun b=>d1B id ver b k:=by
 unfold RZ aZ d1B
 simp only [iD,AG,qU,IY]
 generalize lk bl none id = b
 cases b with
 | none=>rfl
 | some b=>cases b with
  | rows v e s rows=>simp only; by_cases h:ver = v <;> simp [h]
  | froz v rows=>simp only; by_cases h:ver = v <;> simp [h]
  | _=>rfl
theorem aJe (id v e s:Nat) (rows:List (List D)) (k:D->List (Nat × Option aI)->Option β):d1B id v (some (.rows v e s rows)) k = k (.sl rows) [(id,some (.froz v rows))]:=if_pos rfl
theorem aK7 (id v:Nat) (rows:List (List D)) (k:D->List (Nat × Option aI)->Option β):d1B id v (some (.froz v rows)) k = k (.sl rows) []:=if_pos rfl
def tG (bl:List (Nat × Option aI)):List V->(List D->List (Nat × Option aI)->Option β)->Option β
 | [],k=>k [] []
 | v :: cs,k=>(qU (lk bl none) v).bind fun x=>tG bl cs fun ds f=>k (x :: ds) (IY (lk bl none) v ++ f)
theorem aGI (cs:List V) (k:List D->List (Nat × Option aI)->Option β):tG bl cs k = (aK (qU (lk bl none)) cs).bind fun ds=>k ds (cs.flatMap (IY (lk bl none))):=by
 induction cs generalizing k with
 | nil=>rfl
 | cons v cs ih =>
  simp only [tG,aK,ih,List.flatMap_cons]
  cases qU (lk bl none) v with
  | none=>rfl
  | some x=>cases aK (qU (lk bl none)) cs <;> rfl
theorem aB2 (k:List D->List (Nat × Option aI)->Option β):tG bl [] k = k [] []:=rfl
theorem aHS (x:D) (cs:List V) (k:List D->List (Nat × Option aI)->Option β):tG bl (.d x :: cs) k = tG bl cs fun ds f=>k (x :: ds) f:=rfl
theorem aIZ (cs:List V) (k:List D->List (Nat × Option aI)->Option β):tG bl (.nil :: cs) k = tG bl cs fun ds f=>k (.sl [] :: ds) f:=rfl
theorem aB1 (id ver:Nat) (cs:List V) (k:List D->List (Nat × Option aI)->Option β):tG bl (.own id ver :: cs) k = RZ (.own id ver) bl fun x g=>tG bl cs fun ds f=>k (x :: ds) (g ++ f):=rfl
theorem JR (ds:List D) (k:List D->List (Nat × Option aI)->Option β):tG bl (aQ ds) k = k ds []:=by
 have:∀ (ds:List D) (k:List D->List (Nat × Option aI)->Option β),tG bl (aQ ds) k = k ds []:=by
  intro ds
  induction ds with
  | nil=>intro k; rfl
  | cons x ds ih=>intro k; show tG bl (aQ ds) _ = _; rw [ih]; rfl
 exact this ds k
def d1P (id off:Nat) (b:Option aI) (bl:List (Nat × Option aI)) (k:D->List (Nat × Option aI)->Option β):Option β:=match b with
 | some (.box cs)=>tG bl cs fun ds f=>k (.ptr ds off) ((id,some (.fbox ds)) :: f)
 | some (.fbox ds)=>k (.ptr ds off) []
 | _=>none
theorem aMs (id off:Nat) (k:D->List (Nat × Option aI)->Option β):RZ (.ptr id off) bl k = aZ bl id fun b=>d1P id off b bl k:=by
 unfold RZ aZ d1P
 simp only [iD,AG]
 cases lk bl none id with
 | none=>rfl
 | some b=>cases b with
  | box cs =>
   simp only [aGI]
   cases aK (qU (lk bl none)) cs <;> rfl
  | _=>rfl
theorem aLX (id off:Nat) (c:V) (cs:List V) (k:D->List (Nat × Option aI)->Option β):d1P id off (some (.box (c :: cs))) bl k = tG bl (c :: cs) fun ds f=>k (.ptr ds off) ((id,some (.fbox ds)) :: f):=rfl
theorem aAo (id off:Nat) (ds:List D) (k:D->List (Nat × Option aI)->Option β):d1P id off (some (.box (aQ ds))) bl k = k (.ptr ds off) [(id,some (.fbox ds))]:=by
 show tG bl (aQ ds) _ = _
 rw [JR]
theorem aIV (id off:Nat) (ds:List D) (k:D->List (Nat × Option aI)->Option β):d1P id off (some (.fbox ds)) bl k = k (.ptr ds off) []:=rfl
theorem aGY (id off:Nat) (cs:List V) (k:List D->List (Nat × Option aI)->Option β):wT bl (.ptr id off :: cs) k = RZ (.ptr id off) bl fun x g=>wT bl cs fun ds f=>k (x :: ds) (g ++ f):=rfl
theorem aEb (k:List D->List (Nat × Option aI)->Option β):wT bl [] k = k [] []:=rfl
theorem aOj (x:D) (cs:List V) (k:List D->List (Nat × Option aI)->Option β):wT bl (.d x :: cs) k = wT bl cs fun ds f=>k (x :: ds) f:=rfl
theorem aMA (cs:List V) (k:List D->List (Nat × Option aI)->Option β):wT bl (.nil :: cs) k = wT bl cs fun ds f=>k (.sl [] :: ds) f:=rfl
theorem aES (id ver:Nat) (cs:List V) (k:List D->List (Nat × Option aI)->Option β):wT bl (.own id ver :: cs) k = RZ (.own id ver) bl fun x g=>wT bl cs fun ds f=>k (x :: ds) (g ++ f):=rfl
theorem EK (ds:List D) (k:List D->List (Nat × Option aI)->Option β):wT bl (aQ ds) k = k ds []:=by
 have:∀ (ds:List D) (k:List D->List (Nat × Option aI)->Option β),wT bl (aQ ds) k = k ds []:=by
  intro ds
  induction ds with
  | nil=>intro k; rfl
  | cons x ds ih=>intro k; show wT bl (aQ ds) _ = _; rw [ih]; rfl
 exact this ds k
def AO (v:V) (bl:List (Nat × Option aI)) (k:D->List (Nat × Option aI)->Option β):Option β:=(iB (lk bl none) v).bind fun x=>k x (vN (lk bl none) v)
theorem aQM (x:D) (k:D->List (Nat × Option aI)->Option β):AO (.d x) bl k = k x []:=rfl
theorem aHI (k:D->List (Nat × Option aI)->Option β):AO .nil bl k = k (.sl []) []:=rfl
theorem aIh (id ver:Nat) (k:D->List (Nat × Option aI)->Option β):AO (.own id ver) bl k = RZ (.own id ver) bl k:=rfl
theorem aIl (id off:Nat) (k:D->List (Nat × Option aI)->Option β):AO (.ptr id off) bl k = RZ (.ptr id off) bl k:=rfl
theorem XF (cs:List V) (k:D->List (Nat × Option aI)->Option β):AO (.agg cs) bl k = wT bl cs fun ds f=>k (.agg ds) f:=by
 rw [LS]
 show ((aK (iD (lk bl none)) cs).map D.agg).bind _ = _
 cases aK (iD (lk bl none)) cs <;> rfl
theorem aFQ (ds:List D) (k:D->List (Nat × Option aI)->Option β):AO (kM ds) bl k = k (.agg ds) []:=by
 show AO (.agg (aQ ds)) bl k = _
 rw [XF,EK]
theorem aQ2 (x:D) (k:List D->List (Nat × Option aI)->Option β):LU (.d x) bl k = k [x] []:=rfl
theorem Z5 (cs:List V) (k:List D->List (Nat × Option aI)->Option β):LU (.agg cs) bl k = wT bl cs k:=by
 rw [LS]
 show (match aK (iD (lk bl none)) cs with | some row=>k row (cs.flatMap (AG (lk bl none))) | none=>none) = _
 cases aK (iD (lk bl none)) cs <;> rfl
theorem aEL (ds:List D) (k:List D->List (Nat × Option aI)->Option β):LU (kM ds) bl k = k ds []:=by
 show LU (.agg (aQ ds)) bl k = _
 rw [Z5,EK]
theorem aHP (k:List D->List (Nat × Option aI)->Option β):LU .nil bl k = k [.sl []] []:=rfl
theorem aJq (id ver:Nat) (k:List D->List (Nat × Option aI)->Option β):LU (.own id ver) bl k = RZ (.own id ver) bl fun x f=>k [x] f:=by
 unfold LU RZ
 show (match aK (iD (lk bl none)) [.own id ver] with | some row=>k row (AG (lk bl none) (.own id ver)) | none=>none) = _
 simp only [aK]
 cases iD (lk bl none) (.own id ver) <;> rfl
def XY (rs:List (List D)) (i:Nat) (row:List D) (k:List (List D)->Option β):Option β:=if i < rs.length then k (rs.set i row) else none
theorem aQz (r:List D) (rs:List (List D)) (row:List D) (k:List (List D)->Option β):XY (r :: rs) 0 row k = k (row :: rs):=by simp [XY]
theorem aP1 (r:List D) (rs:List (List D)) (i:Nat) (row:List D) (k:List (List D)->Option β):XY (r :: rs) (i + 1) row k = XY rs i row fun l=>k (r :: l):=by
 unfold XY
 simp only [List.length_cons,List.set_cons_succ]
 by_cases h:i < rs.length
 ·rw [if_pos h,if_pos (by omega)]
 ·rw [if_neg h,if_neg (by omega)]
def bsF (fr:List (Nat × V)) (bl:List (Nat × Option aI)) (size:Nat) (rs:List (List D)):List (Nat × bD)->List (Nat × Option aI)->(List (List D)->List (Nat × Option aI)->Option β)->Option β
 | [],wr,k=>k rs wr
 | (i,x) :: r,wr,k=>bN fr x fun v=>LU v bl fun row f=>sM row size (XY rs i row fun rs'=>bsF fr bl size rs' r (wr ++ f) k)
theorem aOw (size:Nat) (rs:List (List D)) (wr:List (Nat × Option aI)) (k:List (List D)->List (Nat × Option aI)->Option β):bsF fr bl size rs [] wr k = k rs wr:=rfl
theorem aJB (size:Nat) (rs:List (List D)) (i:Nat) (x:bD) (r:List (Nat × bD)) (wr:List (Nat × Option aI)) (k:List (List D)->List (Nat × Option aI)->Option β):bsF fr bl size rs ((i,x) :: r) wr k = bN fr x fun v=>LU v bl fun row f=>sM row size (XY rs i row fun rs'=>bsF fr bl size rs' r (wr ++ f) k):=rfl
theorem aPZ (size:Nat) (parts:List (Nat × bD)):∀ (rs:List (List D)) (wr:List (Nat × Option aI)) (k:List (List D)->List (Nat × Option aI)->Option β),bsF fr bl size rs parts wr k = (kI (lk bl none) size rs (parts.map fun p=>(p.1,bC (lk fr .any) p.2))).bind fun rs'=>k rs' (wr ++ parts.flatMap fun p=>vN (lk bl none) (bC (lk fr .any) p.2)):=by
 induction parts with
 | nil=>intro rs wr k; simp [bsF,kI]
 | cons p r ih =>
  intro rs wr k
  obtain ⟨i,x⟩:=p
  simp only [bsF,bN,LU,List.map_cons,kI,List.flatMap_cons]
  cases aK (iD (lk bl none)) (bC (lk fr .any) x).cells with
  | none=>rfl
  | some row =>
   simp only [sM,XY]
   by_cases h1:row.length = size
   ·by_cases h2:i < rs.length
    ·rw [if_pos h1,if_pos h2,if_pos ⟨h1,h2⟩,ih,List.append_assoc]
    ·rw [if_pos h1,if_neg h2,if_neg (fun q=>h2 q.2)]; rfl
   ·rw [if_neg h1,if_neg (fun q=>h1 q.1)]; rfl
theorem QE (e size n:Nat) (z:List D) (parts:List (Nat × bD)):rE T d (.buildSlice e size z n parts) fr bl k kw = aZ bl d fun b=>fL b (bsF fr bl size (List.replicate n z) parts [] fun rows wr=>PS e rows fun rows=>kw (.own d 0) ((d,some (.rows 0 e size rows)) :: wr)):=by
 rw [iK]
 unfold aZ fL PS
 simp only [b8,aPZ,List.nil_append]
 cases lk bl none d with
 | some b=>rfl
 | none =>
  simp only
  have e1:(parts.map fun x=>match x with | (i,x)=>(i,bC (lk fr .any) x)) = parts.map fun p=>(p.1,bC (lk fr .any) p.2):=rfl
  have e2:(parts.flatMap fun x=>match x with | (_,x)=>vN (lk bl none) (bC (lk fr .any) x)) = parts.flatMap fun p=>vN (lk bl none) (bC (lk fr .any) p.2):=rfl
  rw [e1,e2]
  cases kI (lk bl none) size (List.replicate n z) (parts.map fun p=>(p.1,bC (lk fr .any) p.2)) <;> rfl
theorem R8 {α:Type} (e size bytes:Nat) (z:List D) (c:α->List D) (x:α) (hz:z = c x) (l cp:bD):rE T d (.makeSlice e size bytes z l cp) fr bl k kw = aZ bl d fun b=>fL b (bN fr l fun a=>bN fr cp fun b=>match a,b with
   | .d (.int _ n),.d (.int _ m)=>if 0 <= n ∧ n <= m ∧ (bytes:Int) * m <= 281474976710656 ∧ m <= 9223372036854775807 then kw (.own d 0) [(d,some (.rows 0 e size (cM c (List.replicate n.toNat x))))] else none
   | _,_=>none):=by
 subst hz
 rw [iK]
 unfold aZ fL bN
 simp only [b8,VU]
 generalize bC (lk fr .any) l = a
 generalize bC (lk fr .any) cp = b
 cases lk bl none d with
 | some b=>rfl
 | none =>
  simp only
  split
  ·rename_i n _ m
   simp only
   by_cases h:0 <= n ∧ n <= m ∧ (bytes:Int) * m <= 281474976710656 ∧ m <= 9223372036854775807
   ·rw [if_pos h,if_pos h]; rfl
   ·rw [if_neg h,if_neg h]; rfl
  ·rename_i h
   split
   ·rename_i n _ m
    exact absurd rfl (h _ _ _ _ rfl)
   ·rfl
def N9 (fr:List (Nat × V)) (bl:List (Nat × Option aI)):List bD->(List D->List (Nat × Option aI)->Option β)->Option β
 | [],k=>k [] []
 | x :: l,k=>bN fr x fun v=>AO v bl fun y f=>N9 fr bl l fun ds g=>k (y :: ds) (f ++ g)
theorem aF3 (k:List D->List (Nat × Option aI)->Option β):N9 fr bl [] k = k [] []:=rfl
theorem aA2 (x:bD) (l:List bD) (k:List D->List (Nat × Option aI)->Option β):N9 fr bl (x :: l) k = bN fr x fun v=>AO v bl fun y f=>N9 fr bl l fun ds g=>k (y :: ds) (f ++ g):=rfl
theorem X3 (l:List bD) (k:List D->List (Nat × Option aI)->Option β):N9 fr bl l k = (aK (fun x=>iB (lk bl none) (bC (lk fr .any) x)) l).bind fun ds=>k ds (l.flatMap fun x=>vN (lk bl none) (bC (lk fr .any) x)):=by
 induction l generalizing k with
 | nil=>rfl
 | cons x l ih =>
  simp only [N9,bN,AO,aK,ih,List.flatMap_cons]
  cases iB (lk bl none) (bC (lk fr .any) x) with
  | none=>rfl
  | some y=>cases aK (fun x=>iB (lk bl none) (bC (lk fr .any) x)) l <;> rfl
def fzK (fz:List (Nat × Option aI)) (v:V) (k:V->Option β) (kw:V->List (Nat × Option aI)->Option β):Option β:=match fz with
 | []=>k v
 | p :: w=>kw v (p :: w)
theorem aMe (v:V):fzK [] v k kw = k v:=rfl
theorem aQt (l:List (Nat × Option aI)) (v:V):fzK ([] ++ l) v k kw = fzK l v k kw:=rfl
theorem aQP (p:Nat × Option aI) (w l:List (Nat × Option aI)) (v:V):fzK ((p :: w) ++ l) v k kw = kw v ((p :: w) ++ l):=rfl
theorem aLp (p:Nat × Option aI) (w:List (Nat × Option aI)) (v:V):fzK (p :: w) v k kw = kw v (p :: w):=rfl
noncomputable def yJ (T:vS) (d:Nat) (bl:List (Nat × Option aI)) (f:Nat) (ds:List D) (fz:List (Nat × Option aI)) (k:V->Option β) (kw:V->List (Nat × Option aI)->Option β):Option β:=match call T f ds with
 | none=>none
 | some r=>FD (nT d (lk bl none) fz r) k kw
theorem aK0 (f:Nat) (args:List bD):rE T d (.call f args) fr bl k kw = N9 fr bl args fun ds fz=>yJ T d bl f ds fz k kw:=by
 rw [iK,X3]
 simp only [b8]
 cases aK (fun x=>iB (lk bl none) (bC (lk fr .any) x)) args with
 | none=>rfl
 | some ds =>
  simp only [Option.bind_some,yJ]
  cases call T f ds <;> rfl
def D.calm:D->Bool
 | .own _ _ _=>false
 | _=>true
theorem aDj {x:D} (h:x.calm = true):∀ y es rs,x ≠ .own y es rs:=fun y es rs e=>by rw [e] at h; cases h
theorem aF5 {x:D} (h:GW x = true):x.calm = true:=by cases x <;> first | rfl | cases h
theorem aB0 {α:Type} {f:Nat} {ds:List D} {o:Option α} {enc:α->D} (h:call T f ds = o.map enc) (hf:∀ x,GW (enc x) = true) (fz:List (Nat × Option aI)):yJ T d bl f ds fz k kw = o.bind fun x=>k (toV (enc x)):=by
 unfold yJ
 rw [h]
 cases o with
 | none=>rfl
 | some x=>simp only [Option.map_some,Option.bind_some]; rw [EH (aDj (aF5 (hf x))),if_pos (hf x)]; rfl
theorem aAL {α:Type} {f:Nat} {ds:List D} {o:Option α} {enc:α->D} (h:call T f ds = o.map enc) (hf:∀ x,GW (enc x) = false) (hc:∀ x,(enc x).calm = true) (fz:List (Nat × Option aI)):yJ T d bl f ds fz k kw = o.bind fun x=>fzK fz (toV (enc x)) k kw:=by
 unfold yJ
 rw [h]
 cases o with
 | none=>rfl
 | some x=>simp only [Option.map_some,Option.bind_some]; rw [EH (aDj (hc x)),if_neg (by rw [hf x]; decide)]; cases fz <;> rfl
def WF (bl:List (Nat × Option aI)):List (Nat × Option aI)->Option β->Option β
 | [],x=>x
 | (i,_) :: l,x=>aZ bl i fun b=>fL b (WF bl l x)
theorem RJ (bl:List (Nat × Option aI)) (x:Option β):∀ (l:List (Nat × Option aI)),WF bl l x = if LR (lk bl none) l = true then x else none
 | []=>rfl
 | (i,b) :: l=>by
  cases h:lk bl none i <;> simp [WF,LR,aZ,fL,RJ bl x l,h]
theorem IU {α:Type} {f:Nat} {ds:List D} {o:Option α} {y:α->D} {p:Nat × Nat} {es:List (Nat × Nat)} {r:α->List (List D)} {rs:α->List (List (List D))} (h:call T f ds = o.map fun x=>.own (y x) (p :: es) (r x :: rs x)) (fz:List (Nat × Option aI)) :
  yJ T d bl f ds fz k kw = o.bind fun x=>WF bl (fB d 0 (p :: es) (r x :: rs x)) (kw (thaw d (y x)) (fB d 0 (p :: es) (r x :: rs x) ++ fz)):=by
 unfold yJ
 rw [h]
 cases o with
 | none=>rfl
 | some x =>
  simp only [Option.map_some,Option.bind_some,nT,RJ]
  split
  ·obtain ⟨e,s⟩:=p; rfl
  ·rfl
def QM (fr:List (Nat × V)) (bl:List (Nat × Option aI)):List bD->(List D->List (Nat × Option aI)->Option β)->Option β
 | [],k=>k [] []
 | x :: l,k=>bN fr x fun v=>RZ v bl fun y f=>QM fr bl l fun ds g=>k (y :: ds) (f ++ g)
theorem aG2 (k:List D->List (Nat × Option aI)->Option β):QM fr bl [] k = k [] []:=rfl
theorem aAi (x:bD) (l:List bD) (k:List D->List (Nat × Option aI)->Option β):QM fr bl (x :: l) k = bN fr x fun v=>RZ v bl fun y f=>QM fr bl l fun ds g=>k (y :: ds) (f ++ g):=rfl
theorem aHq (l:List bD) (k:List D->List (Nat × Option aI)->Option β):QM fr bl l k = (aK (fun x=>iD (lk bl none) (bC (lk fr .any) x)) l).bind fun ds=>k ds (l.flatMap fun x=>AG (lk bl none) (bC (lk fr .any) x)):=by
 induction l generalizing k with
 | nil=>rfl
 | cons x l ih =>
  simp only [QM,bN,RZ,aK,ih,List.flatMap_cons]
  cases iD (lk bl none) (bC (lk fr .any) x) with
  | none=>rfl
  | some y=>cases aK (fun x=>iD (lk bl none) (bC (lk fr .any) x)) l <;> rfl
theorem aJ1 (f:Nat) (caps:List bD):rE T d (.mkfn f caps) fr bl k kw = QM fr bl caps fun ds fz=>fzK fz (.d (.fn f ds)) k kw:=by
 rw [iK,aHq]
 simp only [b8]
 cases aK (fun x=>iD (lk bl none) (bC (lk fr .any) x)) caps with
 | none=>rfl
 | some ds =>
  simp only [Option.bind_some]
  cases caps.flatMap fun x=>AG (lk bl none) (bC (lk fr .any) x) <;> rfl
def N8 (fr:List (Nat × V)) (bl:List (Nat × Option aI)) (caps:List D):List bD->(List D->List (Nat × Option aI)->Option β)->Option β
 | [],k=>k caps []
 | x :: l,k=>bN fr x fun v=>AO v bl fun y f=>N8 fr bl caps l fun ds g=>k (y :: ds) (f ++ g)
theorem aFd (caps:List D) (k:List D->List (Nat × Option aI)->Option β):N8 fr bl caps [] k = k caps []:=rfl
theorem aCQ (caps:List D) (x:bD) (l:List bD) (k:List D->List (Nat × Option aI)->Option β):N8 fr bl caps (x :: l) k = bN fr x fun v=>AO v bl fun y f=>N8 fr bl caps l fun ds g=>k (y :: ds) (f ++ g):=rfl
theorem aI0 (caps:List D) (l:List bD) (k:List D->List (Nat × Option aI)->Option β):N8 fr bl caps l k = (aK (fun x=>iB (lk bl none) (bC (lk fr .any) x)) l).bind fun ds=>k (ds ++ caps) (l.flatMap fun x=>vN (lk bl none) (bC (lk fr .any) x)):=by
 induction l generalizing k with
 | nil=>rfl
 | cons x l ih =>
  simp only [N8,bN,AO,aK,ih,List.flatMap_cons]
  cases iB (lk bl none) (bC (lk fr .any) x) with
  | none=>rfl
  | some y=>cases aK (fun x=>iB (lk bl none) (bC (lk fr .any) x)) l <;> rfl
noncomputable def aAI (T:vS) (d:Nat) (v:V) (args:List bD) (fr:List (Nat × V)) (bl:List (Nat × Option aI)) (k:V->Option β) (kw:V->List (Nat × Option aI)->Option β):Option β:=match v with
 | .d (.fn f caps)=>N8 fr bl caps args fun ds fz=>yJ T d bl f ds fz k kw
 | _=>none
theorem aHB (f:Nat) (caps:List D) (args:List bD):aAI T d (.d (.fn f caps)) args fr bl k kw = N8 fr bl caps args fun ds fz=>yJ T d bl f ds fz k kw:=rfl
theorem aE4 (g:bD) (args:List bD):rE T d (.callv g args) fr bl k kw = bN fr g fun v=>aAI T d v args fr bl k kw:=by
 rw [iK]
 unfold bN
 simp only [b8]
 generalize bC (lk fr .any) g = v
 cases v with
 | d x=>cases x with
  | fn f caps =>
   simp only [aAI,aI0]
   cases aK (fun x=>iB (lk bl none) (bC (lk fr .any) x)) args with
   | none=>rfl
   | some ds =>
    simp only [Option.bind_some,yJ]
    cases call T f (ds ++ caps) <;> rfl
  | _=>rfl
 | _=>rfl
def aPY (v:V) (i:Nat) (k:V->Option β):Option β:=match v with
 | .tup vs=>B8 vs i k
 | _=>none
theorem ZP (x:bD) (i:Nat):rE T d (.extract x i) fr bl k kw = bN fr x fun v=>aPY v i k:=by
 unfold rE bN
 simp only [b8]
 generalize bC (lk fr .any) x = v
 cases v with
 | tup vs=>simp only [aPY,LI]; cases vs[i]? <;> rfl
 | _=>rfl
theorem aQW (vs:List V) (i:Nat):aPY (.tup vs) i k = B8 vs i k:=rfl
def t8 (m:tL) (fr:List (Nat × V)) (bl:List (Nat × Option aI)) (k:List (Nat × V)->List (Nat × Option aI)->Option β):Option β:=k (m.app ⟨fr,bl⟩).fr (m.app ⟨fr,bl⟩).bl
theorem aM1 {k:Ex->St->Option β} (m:tL) (a:aH):bP T (.pre m a) ⟨fr,bl⟩ k = t8 m fr bl fun fr' bl'=>bP T a ⟨fr',bl'⟩ k:=by
 rw [aMp]; rfl
theorem aN6 {k:Ex->St->Option β} (m:tL):XV m k .normal ⟨fr,bl⟩ = t8 m fr bl fun fr' bl'=>k .normal ⟨fr',bl'⟩:=by
 rw [aOa]; rfl
def oT (keep:List Nat) (bl:List (Nat × Option aI)) (v:V) (k:V->Option β):Option β:=k (FX keep (lk bl none) v)
def P9 (keep:List Nat) (fr:List (Nat × V)) (bl:List (Nat × Option aI)):List Nat->(List (Nat × V)->Option β)->Option β
 | [],k=>k []
 | t :: r,k=>hU fr t fun v=>oT keep bl v fun v'=>P9 keep fr bl r fun l=>k ((t,v') :: l)
theorem aJA (keep l:List Nat):∀ (k:List (Nat × V)->Option β),P9 keep fr bl l k = k (l.map fun t=>(t,FX keep (lk bl none) (lk fr .any t))):=by
 induction l with
 | nil=>intro k; rfl
 | cons t l ih=>intro k; simp only [P9,hU,oT,ih,List.map_cons]
def xI (keep:List Nat) (bl:List (Nat × Option aI)) (b:Option aI) (k:Option aI->Option β):Option β:=k (b.bind (B6 keep (lk bl none)))
def QV (keep:List Nat) (bl:List (Nat × Option aI)):List Nat->(List (Nat × Option aI)->Option β)->Option β
 | [],k=>k []
 | i :: r,k=>aZ bl i fun b=>xI keep bl b fun b'=>QV keep bl r fun l=>k ((i,b') :: l)
theorem aHF (keep l:List Nat):∀ (k:List (Nat × Option aI)->Option β),QV keep bl l k = k (l.map fun i=>(i,(lk bl none i).bind (B6 keep (lk bl none)))):=by
 induction l with
 | nil=>intro k; rfl
 | cons t l ih=>intro k; simp only [QV,aZ,xI,ih,List.map_cons]
theorem aD0 (keep:List Nat) (k:List (Nat × V)->Option β):P9 keep fr bl [] k = k []:=rfl
theorem aBx (keep:List Nat) (t:Nat) (r:List Nat) (k:List (Nat × V)->Option β):P9 keep fr bl (t :: r) k = hU fr t fun v=>oT keep bl v fun v'=>P9 keep fr bl r fun l=>k ((t,v') :: l):=rfl
theorem aEZ (keep:List Nat) (k:List (Nat × Option aI)->Option β):QV keep bl [] k = k []:=rfl
theorem aBw (keep:List Nat) (i:Nat) (r:List Nat) (k:List (Nat × Option aI)->Option β):QV keep bl (i :: r) k = aZ bl i fun b=>xI keep bl b fun b'=>QV keep bl r fun l=>k ((i,b') :: l):=rfl
theorem aOm (live keep:List Nat) (k:List (Nat × V)->List (Nat × Option aI)->Option β):t8 ⟨live,keep,[],[],[],[]⟩ fr bl k = P9 keep fr bl live fun fr'=>QV keep bl keep fun bl'=>k fr' bl':=by
 rw [aJA,aHF]; rfl
def e7 (keep:List Nat) (i:Nat) (x y:Option β):Option β:=if keep.contains i = true then x else y
theorem SA (i:Nat) (x y:Option β):e7 [] i x y = y:=rfl
theorem R0 (i:Nat) (r:List Nat) (x y:Option β):e7 (i :: r) i x y = x:=by simp [e7]
theorem Q2 (a i:Nat) (r:List Nat) (x y:Option β) (h:(i == a) = false):e7 (a :: r) i x y = e7 r i x y:=by
 unfold e7
 rw [List.contains_cons,h,Bool.false_or]
section
variable (keep:List Nat)
theorem aNw (x:D):oT keep bl (.d x) k = k (.d x):=rfl
theorem aFT:oT keep bl .nil k = k .nil:=rfl
theorem aNK:oT keep bl (.tup []) k = k (.tup []):=rfl
theorem aFe:oT keep bl .any k = k .any:=rfl
def QR (keep:List Nat) (id off:Nat) (b:Option aI) (k:V->Option β):Option β:=match b with
 | some (.box _)=>e7 keep id (k (.ptr id off)) (k .any)
 | some (.fbox ds)=>k (.d (.ptr ds off))
 | _=>k .any
theorem aBp (id off:Nat) (cs:List V):QR keep id off (some (.box cs)) k = e7 keep id (k (.ptr id off)) (k .any):=rfl
theorem Z1 (id off:Nat) (ds:List D):QR keep id off (some (.fbox ds)) k = k (.d (.ptr ds off)):=rfl
theorem XX (id off:Nat):QR keep id off none k = k .any:=rfl
theorem aGb (id off:Nat):oT keep bl (.ptr id off) k = aZ bl id fun b=>QR keep id off b k:=by
 unfold oT aZ QR
 simp only [FX,OG,sJ]
 generalize lk bl none id = b
 cases b with
 | none=>rfl
 | some b=>cases b with
  | box cs=>simp only [e7]; split <;> rfl
  | _=>rfl
def G0 (id ver:Nat) (b:Option aI) (k:V->Option β):Option β:=match b with
 | some (.rows v _ _ _)=>if (ver == v) = true then e7 keep id (k (.own id 0)) (k .any) else k .any
 | some (.froz v rows)=>if ver = v then k (.d (.sl rows)) else k .any
 | _=>k .any
theorem aE9 (id ver:Nat):oT keep bl (.own id ver) k = aZ bl id fun b=>G0 keep id ver b k:=by
 unfold oT aZ G0 e7
 simp only [FX,OG,sJ]
 generalize lk bl none id = b
 cases b with
 | none=>rfl
 | some b=>cases b with
  | rows v e s rows=>simp only; cases (ver == v) <;> cases keep.contains id <;> rfl
  | froz v rows=>simp only; split <;> rfl
  | _=>rfl
theorem ZQ (id v e s:Nat) (rows:List (List D)):G0 keep id v (some (.rows v e s rows)) k = e7 keep id (k (.own id 0)) (k .any):=by simp [G0]
theorem aB3 (id ver v e s:Nat) (rows:List (List D)) (h:(ver == v) = false):G0 keep id ver (some (.rows v e s rows)) k = k .any:=by simp [G0,h]
theorem WV (id v:Nat) (rows:List (List D)):G0 keep id v (some (.froz v rows)) k = k (.d (.sl rows)):=if_pos rfl
theorem XI (id v:Nat):G0 keep id v none k = k .any:=rfl
def NV (id ver i off:Nat) (b:Option aI) (k:V->Option β):Option β:=match b with
 | some (.rows v _ _ _)=>if (ver == v) = true then e7 keep id (k (.orow id 0 i off)) (k .any) else k .any
 | _=>k .any
theorem aBP (id ver i off:Nat):oT keep bl (.orow id ver i off) k = aZ bl id fun b=>NV keep id ver i off b k:=by
 unfold oT aZ NV e7
 simp only [FX,OG,sJ]
 generalize lk bl none id = b
 cases b with
 | none=>rfl
 | some b=>cases b with
  | rows v e s rows=>simp only; cases (ver == v) <;> cases keep.contains id <;> rfl
  | _=>rfl
theorem YP (id v i off e s:Nat) (rows:List (List D)):NV keep id v i off (some (.rows v e s rows)) k = e7 keep id (k (.orow id 0 i off)) (k .any):=by simp [NV]
theorem aAl (id ver v i off e s:Nat) (rows:List (List D)) (h:(ver == v) = false):NV keep id ver i off (some (.rows v e s rows)) k = k .any:=by simp [NV,h]
def qR (keep:List Nat) (bl:List (Nat × Option aI)):List V->(List V->Option β)->Option β
 | [],k=>k []
 | v :: cs,k=>k (sJ keep (lk bl none) v :: cs.map (sJ keep (lk bl none)))
theorem rZ (cs:List V) (k:List V->Option β):qR keep bl cs k = k (cs.map (sJ keep (lk bl none))):=by cases cs <;> rfl
theorem aAg (k:List V->Option β):qR keep bl [] k = k []:=rfl
theorem aIq (x:D) (cs:List V) (k:List V->Option β):qR keep bl (.d x :: cs) k = qR keep bl cs fun l=>k (.d x :: l):=by simp only [rZ]; rfl
theorem aLo (cs:List V) (k:List V->Option β):qR keep bl (.nil :: cs) k = qR keep bl cs fun l=>k (.nil :: l):=by simp only [rZ]; rfl
theorem aAm (cs:List V) (k:List V->Option β):qR keep bl (.any :: cs) k = qR keep bl cs fun l=>k (.any :: l):=by simp only [rZ]; rfl
theorem aAQ (id ver:Nat) (cs:List V) (k:List V->Option β):qR keep bl (.own id ver :: cs) k = oT keep bl (.own id ver) fun v=>qR keep bl cs fun l=>k (v :: l):=by simp only [rZ]; rfl
theorem aBr (id off:Nat) (cs:List V) (k:List V->Option β):qR keep bl (.ptr id off :: cs) k = oT keep bl (.ptr id off) fun v=>qR keep bl cs fun l=>k (v :: l):=by simp only [rZ]; rfl
theorem aET (cs:List V):oT keep bl (.agg cs) k = qR keep bl cs fun l=>k (.agg l):=by rw [rZ]; rfl
theorem MF (ds:List D) (b:Nat->Option aI):(aQ ds).map (sJ keep b) = aQ ds:=by
 induction ds with
 | nil=>rfl
 | cons x ds ih=>show sJ keep b (.d x) :: (aQ ds).map (sJ keep b) = _; rw [ih]; rfl
theorem aCN (ds:List D):oT keep bl (kM ds) k = k (kM ds):=by
 show k (.agg ((aQ ds).map (sJ keep (lk bl none)))) = _
 rw [MF]; rfl
theorem YB (k:Option aI->Option β):xI keep bl none k = k none:=rfl
theorem aAS (c:V) (cs:List V) (k:Option aI->Option β):xI keep bl (some (.box (c :: cs))) k = qR keep bl (c :: cs) fun l=>k (some (.box l)):=by rw [rZ]; rfl
theorem YF (k:Option aI->Option β):xI keep bl (some (.box [])) k = k (some (.box [])):=rfl
theorem SQ (ds:List D) (k:Option aI->Option β):xI keep bl (some (.box (aQ ds))) k = k (some (.box (aQ ds))):=by
 show k (some (.box ((aQ ds).map (sJ keep (lk bl none))))) = _
 rw [MF]
theorem YD (v e s:Nat) (rows:List (List D)) (k:Option aI->Option β):xI keep bl (some (.rows v e s rows)) k = k (some (.rows 0 e s rows)):=rfl
theorem WP (ds:List D) (k:Option aI->Option β):xI keep bl (some (.fbox ds)) k = k none:=rfl
theorem YT (v:Nat) (rows:List (List D)) (k:Option aI->Option β):xI keep bl (some (.froz v rows)) k = k none:=rfl
end
def aOv (res:List jN):Ex->St->Option D
 | .normal,s=>match aK (s8 s) res with
  | none=>none
  | some [v]=>iB s.blk v
  | some vs=>toD s.blk (.tup vs)
 | .ret,s=>match aK (s8 s) res with
  | none=>none
  | some [v]=>iB s.blk v
  | some vs=>toD s.blk (.tup vs)
 | .exit _,_=>none
def JM (fr:List (Nat × V)) (bl:List (Nat × Option aI)):List jN->(List D->Option D)->Option D
 | [],k=>k []
 | .tmp t :: r,k=>hU fr t fun v=>AO v bl fun x _=>JM fr bl r fun l=>k (x :: l)
 | .cell t size isAgg :: r,k=>hU fr t fun p=>yH size isAgg p bl fun v=>AO v bl fun x _=>JM fr bl r fun l=>k (x :: l)
def LW:List D->Option D
 | [x]=>some x
 | l=>some (.tup l)
theorem RH (size:Nat) (a:Bool) (p:V):yH size a p bl k = (ME size a p (lk bl none)).bind fun r=>k r.1:=by
 have h:=W9 (T:=fun _=>none) (d:=0) (fr:=[]) (bl:=bl) (k:=k) (kw:=fun v _=>k v) size a (.c p)
 have e:bN [] (.c p) (fun v=>yH size a v bl k) = yH size a p bl k:=rfl
 rw [← e,← h,iK,H5]
 show FD (ME size a p (lk bl none)) k (fun v _=>k v) = _
 cases ME size a p (lk bl none) with
 | none=>rfl
 | some r=>obtain ⟨v,wr⟩:=r; cases wr <;> rfl
theorem CJ (fr:List (Nat × V)) (bl:List (Nat × Option aI)):St.blk ⟨fr,bl⟩ = lk bl none:=rfl
theorem aOE (res:List jN):∀ (k:List D->Option D),JM fr bl res k = (aK (s8 ⟨fr,bl⟩) res).bind fun vs=>(aK (iB (lk bl none)) vs).bind k:=by
 induction res with
 | nil=>intro k; rfl
 | cons r res ih =>
  intro k
  cases r with
  | tmp t =>
   simp only [JM,hU,AO,ih,aK,s8,CM,CJ]
   cases h1:aK (s8 ⟨fr,bl⟩) res with
   | none =>
    simp only [Option.bind_none]
    cases iB (lk bl none) (lk fr .any t) <;> rfl
   | some vs =>
    simp only [Option.bind_some,aK]
    cases iB (lk bl none) (lk fr .any t) with
    | none=>rfl
    | some x=>cases aK (iB (lk bl none)) vs <;> rfl
  | cell t size isAgg =>
   simp only [JM,hU,RH,AO,ih,aK,s8,H5,CM,CJ]
   cases ME size isAgg (lk fr .any t) (lk bl none) with
   | none=>rfl
   | some q =>
    obtain ⟨v,wr⟩:=q
    simp only [Option.bind_some]
    cases h1:aK (s8 ⟨fr,bl⟩) res with
    | none =>
     simp only [Option.bind_none]
     cases iB (lk bl none) v <;> rfl
    | some vs =>
     simp only [Option.bind_some,aK]
     cases iB (lk bl none) v with
     | none=>rfl
     | some x=>cases aK (iB (lk bl none)) vs <;> rfl
theorem UZ (res:List jN):(match aK (s8 ⟨fr,bl⟩) res with
  | none=>none
  | some [v]=>iB (lk bl none) v
  | some vs=>toD (lk bl none) (.tup vs)) = JM fr bl res LW:=by
 rw [aOE]
 cases aK (s8 ⟨fr,bl⟩) res with
 | none=>rfl
 | some vs =>
  simp only [Option.bind_some]
  cases vs with
  | nil=>rfl
  | cons v vs =>
   cases vs with
   | nil =>
    simp only [aK]
    cases iB (lk bl none) v <;> rfl
   | cons w ws =>
    show (aK (iB (lk bl none)) (v :: w :: ws)).map D.tup = _
    simp only [aK]
    cases iB (lk bl none) v with
    | none=>rfl
    | some x=>cases iB (lk bl none) w with
     | none=>rfl
     | some y=>cases aK (iB (lk bl none)) ws <;> rfl
theorem aRl (res:List jN):aOv res .normal ⟨fr,bl⟩ = JM fr bl res LW:=UZ res
theorem aQA (res:List jN):aOv res .ret ⟨fr,bl⟩ = JM fr bl res LW:=UZ res
theorem aQg (res:List jN) (i:Nat) (s:St):aOv res (.exit i) s = none:=rfl
theorem aIO (k:List D->Option D):JM fr bl [] k = k []:=rfl
theorem aKh (t:Nat) (r:List jN) (k:List D->Option D):JM fr bl (.tmp t :: r) k = hU fr t fun v=>AO v bl fun x _=>JM fr bl r fun l=>k (x :: l):=rfl
theorem aEG (t size:Nat) (isAgg:Bool) (r:List jN) (k:List D->Option D):JM fr bl (.cell t size isAgg :: r) k = hU fr t fun p=>yH size isAgg p bl fun v=>AO v bl fun x _=>JM fr bl r fun l=>k (x :: l):=rfl
theorem aNH (x:D):LW [x] = some x:=rfl
theorem aLT (x y:D) (l:List D):LW (x :: y :: l) = some (.tup (x :: y :: l)):=rfl
theorem bE {T:vS} {f np nt:Nat} {res:List jN} {body:aH} (hf:T f = some (.code ⟨np,nt,res,body,false,false⟩)) (ds:List D) (hl:ds.length = np) (hlt:iV 0 ds = none):Vm.call T f ds = bP T body ⟨nJ 0 ds,[]⟩ (aOv res):=by
 rw [WK hf ds hl hlt]
 unfold bP
 cases Vm.ev T body ⟨nJ 0 ds,[]⟩ with
 | none=>rfl
 | some q =>
  obtain ⟨e,s⟩:=q
  cases e <;> rfl
def XA:List V->V
 | [v]=>v
 | vs=>.tup vs
def NO (fr:List (Nat × V)) (bl:List (Nat × Option aI)):List jN->(List V->Option D)->Option D
 | [],k=>k []
 | .tmp t :: r,k=>hU fr t fun v=>NO fr bl r fun l=>k (v :: l)
 | .cell t size isAgg :: r,k=>hU fr t fun p=>yH size isAgg p bl fun v=>NO fr bl r fun l=>k (v :: l)
theorem aOe (res:List jN):∀ (k:List V->Option D),NO fr bl res k = (aK (s8 ⟨fr,bl⟩) res).bind k:=by
 induction res with
 | nil=>intro k; rfl
 | cons r res ih =>
  intro k
  cases r with
  | tmp t =>
   simp only [NO,hU,ih,aK,s8,CM]
   cases aK (s8 ⟨fr,bl⟩) res <;> rfl
  | cell t size isAgg =>
   simp only [NO,hU,RH,ih,aK,s8,H5,CM,CJ]
   cases ME size isAgg (lk fr .any t) (lk bl none) with
   | none=>rfl
   | some q =>
    obtain ⟨v,wr⟩:=q
    simp only [Option.bind_some]
    cases aK (s8 ⟨fr,bl⟩) res <;> rfl
def aNC (res:List jN):Ex->St->Option D
 | .normal,s=>match aK (s8 s) res with
  | none=>none
  | some [v]=>uH s.blk v
  | some vs=>uH s.blk (.tup vs)
 | .ret,s=>match aK (s8 s) res with
  | none=>none
  | some [v]=>uH s.blk v
  | some vs=>uH s.blk (.tup vs)
 | .exit _,_=>none
theorem aDC (res:List jN):(match aK (s8 ⟨fr,bl⟩) res with
  | none=>none
  | some [v]=>uH (lk bl none) v
  | some vs=>uH (lk bl none) (.tup vs)) = NO fr bl res fun vs=>uH (lk bl none) (XA vs):=by
 rw [aOe]
 cases aK (s8 ⟨fr,bl⟩) res with
 | none=>rfl
 | some vs =>
  cases vs with
  | nil=>rfl
  | cons v vs=>cases vs <;> rfl
theorem aQF (res:List jN):aNC res .normal ⟨fr,bl⟩ = NO fr bl res fun vs=>uH (lk bl none) (XA vs):=aDC res
theorem aQw (res:List jN):aNC res .ret ⟨fr,bl⟩ = NO fr bl res fun vs=>uH (lk bl none) (XA vs):=aDC res
theorem aPI (res:List jN) (i:Nat) (s:St):aNC res (.exit i) s = none:=rfl
theorem aIT (k:List V->Option D):NO fr bl [] k = k []:=rfl
theorem aKV (t:Nat) (r:List jN) (k:List V->Option D):NO fr bl (.tmp t :: r) k = hU fr t fun v=>NO fr bl r fun l=>k (v :: l):=rfl
theorem aFN (t size:Nat) (isAgg:Bool) (r:List jN) (k:List V->Option D):NO fr bl (.cell t size isAgg :: r) k = hU fr t fun p=>yH size isAgg p bl fun v=>NO fr bl r fun l=>k (v :: l):=rfl
theorem aLY (x:V):XA [x] = x:=rfl
theorem aNq (x y:V) (l:List V):XA (x :: y :: l) = .tup (x :: y :: l):=rfl
theorem L8 {T:vS} {f np nt:Nat} {res:List jN} {body:aH} (hf:T f = some (.code ⟨np,nt,res,body,true,false⟩)) (ds:List D) (hl:ds.length = np) (hlt:iV 0 ds = none):Vm.call T f ds = bP T body ⟨nJ 0 ds,[]⟩ (aNC res):=by
 rw [WK hf ds hl hlt]
 unfold bP
 cases Vm.ev T body ⟨nJ 0 ds,[]⟩ with
 | none=>rfl
 | some q =>
  obtain ⟨e,s⟩:=q
  cases e <;> rfl
def SP (v:V) (b:Option aI) (x y:Option β):Option β:=match v,b with
 | .nil,none=>x
 | _,_=>y
theorem aO1 (b:aI) (x y:Option β):SP .nil (some b) x y = y:=rfl
theorem aQ5 (x y:Option β):SP .nil none x y = x:=rfl
theorem aHH (i v:Nat) (b:Option aI) (x y:Option β):SP (.own i v) b x y = y:=rfl
theorem aQV (z:D) (b:Option aI) (x y:Option β):SP (.d z) b x y = y:=rfl
theorem aHR (b:Option aI) (x y:Option β):SP .any b x y = y:=rfl
theorem aL1 (live keep:List Nat) (t i e s:Nat) (l:List (Nat × Nat × Nat × Nat)) (c:List (Nat × Nat × Nat × Nat × Nat)) (ft:List Nat) (fc:List (Nat × Nat)) (k:List (Nat × V)->List (Nat × Option aI)->Option β) (hs:0 < s) :
  t8 ⟨live,keep,(t,i,e,s) :: l,c,ft,fc⟩ fr bl k = hU fr t fun v=>aZ bl i fun b=>SP v b (PS e [] fun rows=>t8 ⟨live,keep,l,c,ft,fc⟩ ((t,.own i 0) :: fr) ((i,some (.rows 0 e s rows)) :: bl) k) (t8 ⟨live,keep,l,c,ft,fc⟩ fr bl k):=by
 show t8 ⟨live,keep,(t,i,e,s) :: l,c,ft,fc⟩ fr bl k = SP (lk fr .any t) (lk bl none i) _ _
 unfold t8
 rw [aSw]
 unfold mkT PS
 show k (tL.app ⟨live,keep,l,c,ft,fc⟩ (match lk fr .any t,lk bl none i with | .nil,none=>if 0 < s then _ else _ | _,_=>_)).fr (tL.app ⟨live,keep,l,c,ft,fc⟩ (match lk fr .any t,lk bl none i with | .nil,none=>if 0 < s then _ else _ | _,_=>_)).bl = _
 generalize lk fr .any t = v
 generalize lk bl none i = b
 cases v with
 | nil=>cases b with
  | none=>simp only [SP,if_pos hs]
  | some b=>rfl
 | _=>rfl
def aFF (b0:Option aI) (n:Nat) (b:Option aI) (x:List V->Option β) (y:Option β):Option β:=match b0 with
 | some (.box cs)=>match cs[n]?,b with
  | some .nil,none=>x cs
  | _,_=>y
 | _=>y
theorem aOs (live keep:List Nat) (i n j e s:Nat) (c:List (Nat × Nat × Nat × Nat × Nat)) (ft:List Nat) (fc:List (Nat × Nat)) (k:List (Nat × V)->List (Nat × Option aI)->Option β) (hs:0 < s) :
  t8 ⟨live,keep,[],(i,n,j,e,s) :: c,ft,fc⟩ fr bl k = aZ bl i fun b0=>aZ bl j fun b=>aFF b0 n b (fun cs=>A9 cs n (.own j 0) fun cs'=>PS e [] fun rows=>t8 ⟨live,keep,[],c,ft,fc⟩ fr ((i,some (.box cs')) :: (j,some (.rows 0 e s rows)) :: bl) k) (t8 ⟨live,keep,[],c,ft,fc⟩ fr bl k):=by
 show t8 ⟨live,keep,[],(i,n,j,e,s) :: c,ft,fc⟩ fr bl k = aFF (lk bl none i) n (lk bl none j) _ _
 unfold t8
 rw [aR0]
 have hm:∀ b0 b,lk bl none i = b0->lk bl none j = b->mkC (i,n,j,e,s) ⟨fr,bl⟩ = (match b0,b with
  | some (.box cs),none=>match cs[n]? with
   | some .nil=>if 0 < s then ⟨fr,(i,some (.box (cs.set n (.own j 0)))) :: (j,some (.rows 0 e s [])) :: bl⟩ else ⟨fr,bl⟩
   | _=>⟨fr,bl⟩
  | _,_=>⟨fr,bl⟩):=by
  rintro _ _ rfl rfl; rfl
 have hm:=hm _ _ rfl rfl
 rw [hm]
 generalize lk bl none i = b0
 generalize lk bl none j = b
 cases b0 with
 | none=>rfl
 | some b0=>cases b0 with
  | box cs =>
   cases b with
   | none =>
    simp only [aFF]
    cases h:cs[n]? with
    | none=>rfl
    | some v =>
     cases v with
     | nil =>
      have hn:n < cs.length:=by
       rw [List.getElem?_eq_some_iff] at h
       exact h.1
      simp only [if_pos hs,ZR,PS]
      rw [if_pos (by omega)]
      have:∀ (cs:List V) (n:Nat),n < cs.length->hZ cs n [.own j 0] = cs.set n (.own j 0):=by
       intro cs
       induction cs with
       | nil=>intro n h; simp at h
       | cons c cs ih =>
        intro n h
        cases n with
        | zero=>cases cs <;> rfl
        | succ n=>simp only [hZ,List.set_cons_succ]; rw [ih n (by simpa using h)]
      rw [this cs n hn]
     | _=>rfl
   | some b=>simp only [aFF]; cases cs[n]? with
    | none=>rfl
    | some v=>cases v <;> rfl
  | _=>cases b <;> rfl
theorem aCg (k:List (Nat × Nat × V)->Option β):KP fr [] k = k []:=rfl
theorem Y1 (o s:Nat) (x:bD) (l:List (Nat × Nat × bD)) (k:List (Nat × Nat × V)->Option β):KP fr ((o,s,x) :: l) k = bN fr x fun v=>KP fr l fun vs=>k ((o,s,v) :: vs):=rfl
theorem aGh (l:List (Nat × Nat × bD)):∀ (k:List (Nat × Nat × V)->Option β),KP fr l k = k (l.map fun p=>(p.1,p.2.1,bC (lk fr .any) p.2.2)):=by
 induction l with
 | nil=>intro k; rfl
 | cons p l ih=>intro k; obtain ⟨o,s,x⟩:=p; simp only [KP,bN,ih,List.map_cons]
def QG (z:List V):List (Nat × Nat × V)->(List V->Option β)->Option β
 | [],k=>k z
 | (off,size,v) :: r,k=>uR v fun cs=>A7 cs size (kC z off cs fun z'=>QG z' r k)
theorem aGr (z:List V) (k:List V->Option β):QG z [] k = k z:=rfl
theorem aBv (z:List V) (off size:Nat) (v:V) (r:List (Nat × Nat × V)) (k:List V->Option β):QG z ((off,size,v) :: r) k = uR v fun cs=>A7 cs size (kC z off cs fun z'=>QG z' r k):=rfl
theorem aKc (ps:List (Nat × Nat × V)):∀ (z:List V) (k:List V->Option β),QG z ps k = (HC z ps).bind k:=by
 induction ps with
 | nil=>intro z k; rfl
 | cons p r ih =>
  intro z k
  obtain ⟨off,size,v⟩:=p
  simp only [QG,HC,uR,A7,kC,ih]
  by_cases h1:v.known = true
  ·by_cases h2:v.cells.length = size
   ·subst h2
    by_cases h3:off + v.cells.length <= z.length
    ·rw [if_pos h1,if_pos rfl,if_pos h3,if_pos ⟨rfl,h3,h1⟩]
    ·rw [if_pos h1,if_pos rfl,if_neg h3,if_neg (fun q=>h3 q.2.1)]; rfl
   ·rw [if_pos h1,if_neg h2,if_neg (fun q=>h2 q.1)]; rfl
  ·rw [if_neg h1,if_neg (fun q=>h1 q.2.2)]; rfl
theorem aER (z:List V) (parts:List (Nat × Nat × bD)):rE T d (.build z parts) fr bl k kw = KP fr parts fun ps=>QG z ps fun cs=>k (.agg cs):=by
 rw [iK,aGh,aKc]
 simp only [b8]
 have e1:(parts.map fun x=>match x with | (o,s,x)=>(o,s,bC (lk fr .any) x)) = parts.map fun p=>(p.1,p.2.1,bC (lk fr .any) p.2.2):=rfl
 rw [e1]
 cases HC z (parts.map fun p=>(p.1,p.2.1,bC (lk fr .any) p.2.2)) <;> rfl
theorem aCn (ds:List D):(aQ ds).length = ds.length:=by simp [aQ]
def aM3 (bytes:Nat) (a b:V) (x:Nat->Option β):Option β:=match a,b with
 | .d (.int _ n),.d (.int _ m)=>if 0 <= n ∧ n <= m ∧ (bytes:Int) * m <= 281474976710656 ∧ m <= 9223372036854775807 then x n.toNat else none
 | _,_=>none
theorem aRg (bytes:Nat) (i j:IntKind) (n m:Int) (x:Nat->Option β):aM3 bytes (.d (.int i n)) (.d (.int j m)) x = if 0 <= n ∧ n <= m ∧ (bytes:Int) * m <= 281474976710656 ∧ m <= 9223372036854775807 then x n.toNat else none:=rfl
theorem aPC {α:Type} (e size bytes:Nat) (z:List D) (c:α->List D) (x:α) (hz:z = c x) (l cp:bD):rE T d (.makeSlice e size bytes z l cp) fr bl k kw = aZ bl d fun b=>fL b (bN fr l fun a=>bN fr cp fun b=>aM3 bytes a b fun n=>kw (.own d 0) [(d,some (.rows 0 e size (cM c (List.replicate n x))))]):=R8 e size bytes z c x hz l cp
theorem aId {k:Ex->St->Option β} (c:bD) (a b:aH):bP T (.cond c a b) ⟨fr,bl⟩ k = bN fr c fun v=>MK v (bP T a ⟨fr,bl⟩ k) (bP T b ⟨fr,bl⟩ k):=aKT c a b _
theorem aMD (a b c:List (Nat × Option aI)) (t:Nat) (k:Option aI->Option β):aZ ((a ++ b) ++ c) t k = aZ (a ++ (b ++ c)) t k:=by rw [List.append_assoc]
def Y3:List V->Nat->(V->Option β)->Option β->Option β
 | [],_,_,y=>y
 | c :: _,0,x,_=>x c
 | _ :: cs,n + 1,x,y=>Y3 cs n x y
theorem aPP (c:V) (cs:List V) (x:V->Option β) (y:Option β):Y3 (c :: cs) 0 x y = x c:=rfl
theorem aRe (c:V) (cs:List V) (n:Nat) (x:V->Option β) (y:Option β):Y3 (c :: cs) (n + 1) x y = Y3 cs n x y:=rfl
theorem aHo (cs:List V) (n:Nat) (b:Option aI) (x:List V->Option β) (y:Option β):aFF (some (.box cs)) n b x y = Y3 cs n (fun v=>SP v b (x cs) y) y:=by
 have:∀ (l:List V) (n:Nat),(match l[n]?,b with | some .nil,none=>x cs | _,_=>y) = Y3 l n (fun v=>SP v b (x cs) y) y:=by
  intro l
  induction l with
  | nil=>intro n; rfl
  | cons c l ih=>intro n; cases n with
   | zero=>cases c <;> cases b <;> rfl
   | succ n=>exact ih n
 exact this cs n
theorem aFA (n:Nat) (b:Option aI) (x:List V->Option β) (y:Option β):aFF none n b x y = y:=rfl
def aC1 (rows:List (List D)) (k:V->Option β):Option β:=k (.d (.int .i64 rows.length))
theorem aLP {α:Type} (c:α->List D) (xs:List α):aC1 (cM c xs) k = k (.d (.int .i64 (xs.length:Int))):=by unfold aC1; rw [vK]
theorem aN2:aC1 [] k = k (.d (.int .i64 0)):=rfl
theorem aNt (x:bD):rE T d (.len x) fr bl k kw = bN fr x fun a=>JX a bl fun rows=>aC1 rows k:=aMK x
def JP (v:V) (bl:List (Nat × Option aI)) (k:V->List (Nat × Option aI)->Option β) (y:Option β):Option β:=match qU (lk bl none) v with
 | some x=>k (.d x) (IY (lk bl none) v)
 | none=>y
theorem aQD (x:D) (k:V->List (Nat × Option aI)->Option β) (y:Option β):JP (.d x) bl k y = k (.d x) []:=rfl
theorem aK8 (k:V->List (Nat × Option aI)->Option β) (y:Option β):JP .nil bl k y = k (.d (.sl [])) []:=rfl
theorem aKS (k:V->List (Nat × Option aI)->Option β) (y:Option β):JP .any bl k y = y:=rfl
def aNl (id ver:Nat) (b:Option aI) (k:V->List (Nat × Option aI)->Option β) (y:Option β):Option β:=match b with
 | some (.rows v _ _ rows)=>if ver = v then k (.d (.sl rows)) [(id,some (.froz v rows))] else y
 | some (.froz v rows)=>if ver = v then k (.d (.sl rows)) [] else y
 | _=>y
theorem aHD (id ver:Nat) (k:V->List (Nat × Option aI)->Option β) (y:Option β):JP (.own id ver) bl k y = aZ bl id fun b=>aNl id ver b k y:=by
 unfold JP aZ aNl
 simp only [qU,IY]
 generalize lk bl none id = b
 cases b with
 | none=>rfl
 | some b=>cases b with
  | rows v e s rows=>simp only; by_cases h:ver = v <;> simp [h]
  | froz v rows=>simp only; by_cases h:ver = v <;> simp [h]
  | _=>rfl
theorem aF9 (id v e s:Nat) (rows:List (List D)) (k:V->List (Nat × Option aI)->Option β) (y:Option β):aNl id v (some (.rows v e s rows)) k y = k (.d (.sl rows)) [(id,some (.froz v rows))]:=if_pos rfl
theorem aDW (id v:Nat) (rows:List (List D)) (k:V->List (Nat × Option aI)->Option β) (y:Option β):aNl id v (some (.froz v rows)) k y = k (.d (.sl rows)) []:=if_pos rfl
theorem aKy (live keep:List Nat) (t:Nat) (ft:List Nat) (fc:List (Nat × Nat)) (k:List (Nat × V)->List (Nat × Option aI)->Option β) :
  t8 ⟨live,keep,[],[],t :: ft,fc⟩ fr bl k = hU fr t fun v=>JP v bl (fun v' wr=>t8 ⟨live,keep,[],[],ft,fc⟩ ((t,v') :: fr) (wr ++ bl) k) (t8 ⟨live,keep,[],[],ft,fc⟩ fr bl k):=by
 unfold t8
 rw [aQb]
 unfold MZ hU JP
 rw [CM,CJ]
 dsimp only
 cases qU (lk bl none) (lk fr .any t) <;> rfl
def TK (v:V) (bl:List (Nat × Option aI)) (k:V->List (Nat × Option aI)->Option β) (y:Option β):Option β:=match iD (lk bl none) v with
 | some x=>k (.d x) (AG (lk bl none) v)
 | none=>y
def aHd (n:Nat) (b:Option aI) (bl:List (Nat × Option aI)) (k:List V->List (Nat × Option aI)->Option β) (y:Option β):Option β:=match b with
 | some (.box cs)=>match cs[n]? with
  | some v=>match iD (lk bl none) v with
   | some d=>k (cs.set n (.d d)) (AG (lk bl none) v)
   | none=>y
  | none=>y
 | _=>y
theorem aLe (live keep:List Nat) (i n:Nat) (fc:List (Nat × Nat)) (k:List (Nat × V)->List (Nat × Option aI)->Option β) :
  t8 ⟨live,keep,[],[],[],(i,n) :: fc⟩ fr bl k = aZ bl i fun b=>aHd n b bl (fun cs wr=>t8 ⟨live,keep,[],[],[],fc⟩ fr ((i,some (.box cs)) :: (wr ++ bl)) k) (t8 ⟨live,keep,[],[],[],fc⟩ fr bl k):=by
 unfold t8
 rw [aQZ]
 unfold frC aZ aHd
 rw [CJ]
 dsimp only
 cases lk bl none i with
 | none=>rfl
 | some b =>
  cases b with
  | box cs =>
   simp only
   cases cs[n]? with
   | none=>rfl
   | some v =>
    simp only
    cases iD (lk bl none) v <;> rfl
  | _=>rfl
theorem aP6 (cs:List V) (n:Nat) (w:V) (k:List V->Option β) (h:n < cs.length):A9 cs n w k = k (cs.set n w):=by
 induction cs generalizing n k with
 | nil=>simp at h
 | cons c cs ih=>cases n with
  | zero=>rfl
  | succ n=>simp only [A9,List.set_cons_succ]; rw [ih n _ (by simpa using h)]
theorem aHW (n:Nat) (cs:List V) (k:List V->List (Nat × Option aI)->Option β) (y:Option β):aHd n (some (.box cs)) bl k y = Y3 cs n (fun v=>TK v bl (fun v' wr=>A9 cs n v' fun cs'=>k cs' wr) y) y:=by
 have e:∀ (l:List V) (n:Nat) (x:V->Option β),Y3 l n x y = match l[n]? with | some v=>x v | none=>y:=by
  intro l
  induction l with
  | nil=>intro n x; rfl
  | cons c l ih=>intro n x; cases n with
   | zero=>rfl
   | succ n=>exact ih n x
 rw [e]
 simp only [aHd,TK]
 cases h:cs[n]? with
 | none=>rfl
 | some v =>
  simp only
  cases iD (lk bl none) v with
  | none=>rfl
  | some d=>simp only; rw [aP6 _ _ _ _ (List.getElem?_eq_some_iff.1 h).1]
theorem aLL (x:D) (k:V->List (Nat × Option aI)->Option β) (y:Option β):TK (.d x) bl k y = k (.d x) []:=rfl
theorem aGd (k:V->List (Nat × Option aI)->Option β) (y:Option β):TK .nil bl k y = k (.d (.sl [])) []:=rfl
theorem aF4 (k:V->List (Nat × Option aI)->Option β) (y:Option β):TK .any bl k y = y:=rfl
theorem aFb (id ver:Nat) (k:V->List (Nat × Option aI)->Option β) (y:Option β):TK (.own id ver) bl k y = JP (.own id ver) bl k y:=rfl
theorem aEY (n:Nat) (k:List V->List (Nat × Option aI)->Option β) (y:Option β):aHd n none bl k y = y:=rfl
end
end Vm
end Go.Proofs.Ytgjcnbgfaimepaa
namespace Go.Proofs.Ytgjcnbgfaimepaa
namespace Vm
open Go.RowKit
section
variable {β:Type} {T:vS}
def FV (d:Nat) (op:e8) (fr:List (Nat × V)) (bl:List (Nat × Option aI)) (k:List Nat->Option β):Option β :=
 k ((if op.new = true then [d] else []) ++ ((op.peeks.flatMap fun x=>(bC (lk fr .any) x).ids) ++ op.deeps.flatMap fun x=>(bC (lk fr .any) x).dids (lk bl none)))
def G1 (wr:List (Nat × Option aI)) (k:List Nat->Option β):Option β:=k (wr.map (·.1))
theorem aE5 (k:List Nat->Option β):G1 [] k = k []:=rfl
theorem aMr (i:Nat) (b:Option aI) (w:List (Nat × Option aI)) (k:List Nat->Option β):G1 ((i,b) :: w) k = G1 w fun l=>k (i :: l):=rfl
theorem aJ7 (w:List (Nat × Option aI)) (k:List Nat->Option β):G1 ([] ++ w) k = G1 w k:=rfl
theorem aJT (p:Nat × Option aI) (v w:List (Nat × Option aI)) (k:List Nat->Option β):G1 ((p :: v) ++ w) k = G1 (p :: (v ++ w)) k:=rfl
theorem aKp (u v w:List (Nat × Option aI)) (k:List Nat->Option β):G1 ((u ++ v) ++ w) k = G1 (u ++ (v ++ w)) k:=by rw [List.append_assoc]
theorem aAR (d st:Nat) (op:e8) (l:List aM) (fr:List (Nat × V)) (bl:List (Nat × Option aI)) (fp:List Fp) (k:St->List Fp->Option β) :
  lN T (⟨some d,op,none,st⟩ :: l) ⟨fr,bl⟩ fp k = rE T st op fr bl (fun v=>FV st op fr bl fun f=>lN T l ⟨(d,v) :: fr,bl⟩ ((f,[]) :: fp) k) (fun v wr=>G1 wr fun ws=>FV st op fr bl fun f=>lN T l ⟨(d,v) :: fr,wr ++ bl⟩ ((f,ws) :: fp) k):=by
 rw [RR]
 unfold rE GB FV
 show (match b8 (call T) st (bC (lk fr .any)) (lk bl none) op with | some (v,wr)=>_ | none=>none) = _
 cases b8 (call T) st (bC (lk fr .any)) (lk bl none) op with
 | none=>rfl
 | some r=>obtain ⟨v,wr⟩:=r; cases wr <;> rfl
theorem Y9 (st:Nat) (op:e8) (l:List aM) (fr:List (Nat × V)) (bl:List (Nat × Option aI)) (fp:List Fp) (k:St->List Fp->Option β) :
  lN T (⟨none,op,none,st⟩ :: l) ⟨fr,bl⟩ fp k = rE T st op fr bl (fun _=>FV st op fr bl fun f=>lN T l ⟨fr,bl⟩ ((f,[]) :: fp) k) (fun _ wr=>G1 wr fun ws=>FV st op fr bl fun f=>lN T l ⟨fr,wr ++ bl⟩ ((f,ws) :: fp) k):=by
 rw [RR]
 unfold rE GB FV
 show (match b8 (call T) st (bC (lk fr .any)) (lk bl none) op with | some (v,wr)=>_ | none=>none) = _
 cases b8 (call T) st (bC (lk fr .any)) (lk bl none) op with
 | none=>rfl
 | some r=>obtain ⟨v,wr⟩:=r; cases wr <;> rfl
theorem aDU (fr:List (Nat × V)) (bl:List (Nat × Option aI)) (fp:List Fp) (k:St->List Fp->Option β):lN T [] ⟨fr,bl⟩ fp k = k ⟨fr,bl⟩ fp:=rfl
theorem aLr {l:List aM} {ps:List (Nat × Nat)} {s:St} {fp:List Fp} (k:St->Option β) (h:MP l fp.reverse ps = true):aMd l ps k s fp = k s:=if_pos h
theorem DI {d:Option Nat} {st:Nat} {g g' : Option (Nat × Bool)} {fr:Nat->V} {bl:Nat->Option aI} {wr:List (Nat × Option aI)} (t:Nat) (b:Bool) (op:e8):xP ⟨d,LP t b op,g,st⟩ fr bl wr = xP ⟨d,op,g',st⟩ fr bl wr:=by
 cases op with
 | pick c x y =>
  cases c with
  | t t' =>
   simp only [LP]
   split <;> rfl
  | c v=>rfl
 | _=>rfl
theorem aCq {C:Nat->List D->Option D} {s:St} {t:Nat} {b:Bool} (h:s.get t = .d (.bool b)) (o:aM):iU C (MV t b o) s = iU C o s:=by
 obtain ⟨d,op,g,st⟩:=o
 cases g with
 | some g =>
  obtain ⟨t',w⟩:=g
  simp only [MV]
  split
  ·rename_i e
   subst e
   split
   ·rename_i e
    subst e
    simp only [iU,aM.wants,h,AD h]
    cases w <;> simp only [yF] <;> cases b8 C st (bC s.get) s.blk op <;> first | rfl | (simp [DI (g':=some (t',false)),DI (g':=some (t',true))]; done) | (simp [DI (g':=some (t',false)),DI (g':=some (t',true))]; rfl)
   ·rename_i e
    simp only [iU,aM.wants,h,b8,bC]
    cases w <;> cases b <;> simp_all [yF,xP,e8.new,e8.peeks,e8.deeps]
  ·simp only [iU,aM.wants,AD h]
   cases yF (s.get t') w <;> simp only [] <;> cases b8 C st (bC s.get) s.blk op <;> simp [DI (g':=some (t',w))]
 | none =>
  simp only [MV,iU,aM.wants,AD h]
  cases b8 C st (bC s.get) s.blk op <;> simp [DI (g':=none)]
theorem aCh {C:Nat->List D->Option D} {o:aM} {s s' : St} {p:Fp} {t:Nat} (h:¬ o.dst = some t) (e:iU C o s = some (s',p)):s'.get t = s.get t:=by
 unfold iU at e
 split at e
 ·split at e
  ·cases e; exact DY h
  ·cases e
 ·cases e; exact DY h
 ·cases e
theorem K0 {t:Nat} {b:Bool}:∀ (l:List aM) {s:St} (fp:List Fp) (k:St->List Fp->Option β) (h:s.get t = .d (.bool b)),lN T (AN t b l) s fp k = lN T l s fp k
 | [],s,fp,k,h=>rfl
 | o :: l,s,fp,k,h=>by
  simp only [AN,lN,aCq h]
  cases e:iU (call T) o s with
  | none=>rfl
  | some q =>
   obtain ⟨s',p⟩:=q
   simp only
   split
   ·rfl
   ·rename_i hd
    exact K0 l _ k (by rw [aCh hd e]; exact h)
noncomputable def E2 (T:vS) (v:V) (t:Nat) (l:List aM) (s:St) (fp:List Fp) (k:St->List Fp->Option β):Option β:=match v with
 | .d (.bool b)=>if b = true then lN T (AN t true l) s fp k else lN T (AN t false l) s fp k
 | .tup []=>match l with
  | o :: r=>lN T r (s.put o.dst (.tup []) []) (([],[]) :: fp) k
  | []=>none
 | _=>none
theorem XB (d:Option Nat) (op:e8) (t:Nat) (w:Bool) (st:Nat) (l:List aM) (fr:List (Nat × V)) (bl:List (Nat × Option aI)) (fp:List Fp) (k:St->List Fp->Option β) :
  lN T (⟨d,op,some (t,w),st⟩ :: l) ⟨fr,bl⟩ fp k = hU fr t fun v=>E2 T v t (⟨d,op,some (t,w),st⟩ :: l) ⟨fr,bl⟩ fp k:=by
 show _ = E2 T (lk fr .any t) t _ _ fp k
 generalize hv:lk fr .any t = v
 have bad:∀ (q:yF v w = .bad),lN T (⟨d,op,some (t,w),st⟩ :: l) ⟨fr,bl⟩ fp k = none:=by
  intro q
  simp only [lN,iU,aM.wants]
  rw [show (St.get ⟨fr,bl⟩ t) = v from hv,q]
 cases v with
 | d x =>
  cases x with
  | bool b =>
   simp only [E2]
   cases b with
   | true=>rw [if_pos rfl,K0 (t:=t) (b:=true) (s:=⟨fr,bl⟩) _ _ _ hv]
   | false=>rw [if_neg (by decide),K0 (t:=t) (b:=false) (s:=⟨fr,bl⟩) _ _ _ hv]
  | _=>exact bad rfl
 | tup vs =>
  cases vs with
  | nil =>
   simp only [E2,lN,iU,aM.wants]
   rw [show (St.get ⟨fr,bl⟩ t) = _ from hv]
   rfl
  | cons x l=>exact bad rfl
 | _=>exact bad rfl
theorem aFj (b:Bool) (t:Nat) (l:List aM) (s:St) (fp:List Fp) (k:St->List Fp->Option β):E2 T (.d (.bool b)) t l s fp k = if b = true then lN T (AN t true l) s fp k else lN T (AN t false l) s fp k:=rfl
theorem aEI (t d st:Nat) (op:e8) (g:Option (Nat × Bool)) (l:List aM) (fr:List (Nat × V)) (bl:List (Nat × Option aI)) (fp:List Fp) (k:St->List Fp->Option β):E2 T (.tup []) t (⟨some d,op,g,st⟩ :: l) ⟨fr,bl⟩ fp k = lN T l ⟨(d,.tup []) :: fr,bl⟩ (([],[]) :: fp) k:=rfl
theorem aCl (t st:Nat) (op:e8) (g:Option (Nat × Bool)) (l:List aM) (fr:List (Nat × V)) (bl:List (Nat × Option aI)) (fp:List Fp) (k:St->List Fp->Option β):E2 T (.tup []) t (⟨none,op,g,st⟩ :: l) ⟨fr,bl⟩ fp k = lN T l ⟨fr,bl⟩ (([],[]) :: fp) k:=rfl
theorem yS {l l' : List aM} {s:St} {fp:List Fp} {k:St->List Fp->Option β} (h:l = l'):lN T l s fp k = lN T l' s fp k:=by rw [h]
theorem aPf (x:D) (ds:List D) (k:D->Option β):eW (x :: ds) 0 k = k x:=rfl
theorem aMu (x:D) (ds:List D) (n:Nat) (k:D->Option β):eW (x :: ds) (n + 1) k = eW ds n k:=rfl
section
variable {d:Nat} {fr:List (Nat × V)} {bl:List (Nat × Option aI)} {k:List Nat->Option β}
def H3 (v:V) (k:List Nat->Option β):Option β:=k v.ids
theorem aQE (x:D):H3 (.d x) k = k []:=rfl
theorem aIE:H3 .nil k = k []:=rfl
theorem aJZ:H3 .any k = k []:=rfl
theorem aG4 (i o:Nat):H3 (.ptr i o) k = k [i]:=rfl
theorem aKd (i o:Nat):H3 (.own i o) k = k [i]:=rfl
theorem aGa (i v j o:Nat):H3 (.orow i v j o) k = k [i]:=rfl
def rJ (bl:List (Nat × Option aI)):List V->(List Nat->Option β)->Option β
 | [],k=>k []
 | c :: cs,k=>k (c.dids1 (lk bl none) ++ cs.flatMap (V.dids1 (lk bl none)))
def yM (bl:List (Nat × Option aI)) (v:V) (k:List Nat->Option β):Option β:=k (v.dids (lk bl none))
theorem vL (cs:List V):rJ bl cs k = k (cs.flatMap (V.dids1 (lk bl none))):=by cases cs <;> rfl
theorem Z8:rJ bl [] k = k []:=rfl
theorem aJ3 (x:D) (cs:List V):rJ bl (.d x :: cs) k = rJ bl cs k:=by simp only [vL]; rfl
theorem aHe (cs:List V):rJ bl (.nil :: cs) k = rJ bl cs k:=by simp only [vL]; rfl
theorem aCe (cs:List V):rJ bl (.any :: cs) k = rJ bl cs k:=by simp only [vL]; rfl
theorem aAe (i o:Nat) (cs:List V):rJ bl (.own i o :: cs) k = rJ bl cs fun l=>k (i :: l):=by simp only [vL]; rfl
theorem aMm (x:D):yM bl (.d x) k = k []:=rfl
theorem aFu:yM bl .nil k = k []:=rfl
theorem aFm (i o:Nat):yM bl (.own i o) k = k [i]:=rfl
theorem aEX (cs:List V):yM bl (.agg cs) k = rJ bl cs k:=by rw [vL]; rfl
theorem XM (ds:List D):(aQ ds).flatMap (V.dids1 (lk bl none)) = []:=by
 induction ds with
 | nil=>rfl
 | cons x ds ih=>exact ih
theorem aBt (ds:List D):yM bl (kM ds) k = k []:=by
 show k ((aQ ds).flatMap (V.dids1 (lk bl none))) = _
 rw [XM]
theorem ZB (ds:List D):(aQ ds).flatMap V.ids1 = []:=by
 induction ds with
 | nil=>rfl
 | cons x ds ih=>exact ih
def rS:List V->(List Nat->Option β)->Option β
 | [],k=>k []
 | c :: cs,k=>k (c.ids1 ++ cs.flatMap V.ids1)
theorem vI (cs:List V):rS cs k = k (cs.flatMap V.ids1):=by cases cs <;> rfl
theorem aCD:rS [] k = k []:=rfl
theorem aHV (x:D) (cs:List V):rS (.d x :: cs) k = rS cs k:=by simp only [vI]; rfl
theorem aKY (cs:List V):rS (.nil :: cs) k = rS cs k:=by simp only [vI]; rfl
theorem aCf (cs:List V):rS (.any :: cs) k = rS cs k:=by simp only [vI]; rfl
theorem aCz (i o:Nat) (cs:List V):rS (.own i o :: cs) k = rS cs fun l=>k (i :: l):=by simp only [vI]; rfl
theorem aAd (i o:Nat) (cs:List V):rS (.ptr i o :: cs) k = rS cs fun l=>k (i :: l):=by simp only [vI]; rfl
def TP (b:Option aI) (k:List Nat->Option β):Option β:=match b with
 | some (.box cs)=>k (cs.flatMap V.ids1)
 | _=>k []
theorem aGG (c:V) (cs:List V):TP (some (.box (c :: cs))) k = rS (c :: cs) k:=by rw [vI]; rfl
theorem VF (ds:List D):TP (some (.box (aQ ds))) k = k []:=by
 show k ((aQ ds).flatMap V.ids1) = _
 rw [ZB]
theorem aBn (ds:List D):TP (some (.fbox ds)) k = k []:=rfl
theorem aBN:TP none k = k []:=rfl
theorem aHm (i o:Nat):(V.ptr i o).dids1 (lk bl none) = i :: (match lk bl none i with | some (.box cs)=>cs.flatMap V.ids1 | _=>[]):=rfl
theorem aGU (i o:Nat):yM bl (.ptr i o) k = aZ bl i fun b=>TP b fun l=>k (i :: l):=by
 unfold yM aZ TP
 show k ((V.ptr i o).dids1 (lk bl none)) = _
 rw [aHm]
 cases lk bl none i with
 | none=>rfl
 | some b=>cases b <;> rfl
theorem aA7 (i o:Nat) (cs:List V):rJ bl (.ptr i o :: cs) k = yM bl (.ptr i o) fun m=>rJ bl cs fun l=>k (m ++ l):=by simp only [vL]; rfl
theorem aHr:FV d .fail fr bl k = k []:=rfl
theorem aJW (x:bD):FV d (.move x) fr bl k = k []:=rfl
theorem aKB (a b c:bD):FV d (.pick a b c) fr bl k = k []:=rfl
theorem aG1 (z:List V):FV d (.alloc z) fr bl k = k [d]:=rfl
theorem aMh (x:bD):FV d (.box x) fr bl k = k [d]:=rfl
theorem aFq (z:List V) (ps:List (Nat × Nat × bD)):FV d (.build z ps) fr bl k = k []:=rfl
theorem ST (e s b:Nat) (z:List D) (x y:bD):FV d (.makeSlice e s b z x y) fr bl k = k [d]:=rfl
theorem fp1 (l:List Nat):([]:List Nat) ++ ((l ++ []) ++ []) = l:=by simp
theorem aJd (s:Nat) (a:Bool) (x:bD):FV d (.load s a x) fr bl k = bN fr x fun v=>H3 v k:=by
 show k ([] ++ (((bC (lk fr .any) x).ids ++ []) ++ [])) = _
 rw [fp1]; rfl
theorem U3 (x:bD):FV d (.nilCheck x) fr bl k = bN fr x fun v=>H3 v k:=by
 show k ([] ++ (((bC (lk fr .any) x).ids ++ []) ++ [])) = _
 rw [fp1]; rfl
theorem SD (o:Nat) (x:bD):FV d (.fieldAddr o x) fr bl k = bN fr x fun v=>H3 v k:=by
 show k ([] ++ (((bC (lk fr .any) x).ids ++ []) ++ [])) = _
 rw [fp1]; rfl
theorem aPa (x:bD):FV d (.len x) fr bl k = bN fr x fun v=>H3 v k:=by
 show k ([] ++ (((bC (lk fr .any) x).ids ++ []) ++ [])) = _
 rw [fp1]; rfl
theorem aEO (s:Nat) (x:bD) (lo hi:Option bD):FV d (.slice s x lo hi) fr bl k = bN fr x fun v=>H3 v k:=by
 show k ([] ++ (((bC (lk fr .any) x).ids ++ []) ++ [])) = _
 rw [fp1]; rfl
theorem SS (s:Nat) (x i:bD):FV d (.indexAddr s x i) fr bl k = bN fr x fun v=>H3 v k:=by
 show k ([] ++ (((bC (lk fr .any) x).ids ++ []) ++ [])) = _
 rw [fp1]; rfl
theorem aEx (s:Nat) (x v:bD):FV d (.store s x v) fr bl k = bN fr x fun a=>H3 a fun l=>bN fr v fun b=>yM bl b fun m=>k (l ++ m):=by
 show k ([] ++ (((bC (lk fr .any) x).ids ++ []) ++ ((bC (lk fr .any) v).dids (lk bl none) ++ []))) = _
 rw [List.nil_append,List.append_nil,List.append_nil]; rfl
theorem aAx (e s b:Nat) (x y:bD):FV d (.append e s b x y) fr bl k = bN fr x fun u=>H3 u fun l=>bN fr y fun v=>H3 v fun m=>k (d :: (l ++ m)):=by
 show k ([d] ++ (((bC (lk fr .any) x).ids ++ ((bC (lk fr .any) y).ids ++ [])) ++ [])) = _
 rw [List.append_nil,List.append_nil]; rfl
def CO (fr:List (Nat × V)) (bl:List (Nat × Option aI)):List bD->(List Nat->Option β)->Option β
 | [],k=>k []
 | x :: l,k=>bN fr x fun v=>yM bl v fun m=>CO fr bl l fun n=>k (m ++ n)
theorem IV (l:List bD):∀ (k:List Nat->Option β),CO fr bl l k = k (l.flatMap fun x=>(bC (lk fr .any) x).dids (lk bl none)):=by
 induction l with
 | nil=>intro k; rfl
 | cons x l ih=>intro k; simp only [CO,bN,yM,ih,List.flatMap_cons]
theorem aAP (k:List Nat->Option β):CO fr bl [] k = k []:=rfl
theorem YL (x:bD) (l:List bD) (k:List Nat->Option β):CO fr bl (x :: l) k = bN fr x fun v=>yM bl v fun m=>CO fr bl l fun n=>k (m ++ n):=rfl
theorem aIv (f:Nat) (args:List bD):FV d (.call f args) fr bl k = CO fr bl args k:=by
 rw [IV]; rfl
theorem aJE (f:Nat) (args:List bD):FV d (.mkfn f args) fr bl k = CO fr bl args k:=by
 rw [IV]; rfl
theorem aFG (g:bD) (args:List bD):FV d (.callv g args) fr bl k = CO fr bl args k:=by
 rw [IV]; rfl
def KG (fr:List (Nat × V)) (bl:List (Nat × Option aI)):List (Nat × bD)->(List Nat->Option β)->Option β
 | [],k=>k []
 | (_,x) :: l,k=>bN fr x fun v=>yM bl v fun m=>KG fr bl l fun n=>k (m ++ n)
theorem aG3 (l:List (Nat × bD)):∀ (k:List Nat->Option β),KG fr bl l k = k ((l.map fun p=>p.2).flatMap fun x=>(bC (lk fr .any) x).dids (lk bl none)):=by
 induction l with
 | nil=>intro k; rfl
 | cons x l ih=>intro k; obtain ⟨i,x⟩:=x; simp only [KG,bN,yM,ih,List.map_cons,List.flatMap_cons]
theorem aBl (k:List Nat->Option β):KG fr bl [] k = k []:=rfl
theorem YM (i:Nat) (x:bD) (l:List (Nat × bD)) (k:List Nat->Option β):KG fr bl ((i,x) :: l) k = bN fr x fun v=>yM bl v fun m=>KG fr bl l fun n=>k (m ++ n):=rfl
theorem QY (e s n:Nat) (z:List D) (ps:List (Nat × bD)):FV d (.buildSlice e s z n ps) fr bl k = KG fr bl ps fun l=>k (d :: l):=by
 rw [aG3]; rfl
theorem aOP (c:Nat) (op:BinOp) (x y:bD):FV d (.bin c op x y) fr bl k = k []:=rfl
theorem aOG (ks:List Nat) (n:Bool) (x y:bD):FV d (.eqS ks n x y) fr bl k = k []:=rfl
theorem aQR (op:UnOp) (x:bD):FV d (.un op x) fr bl k = k []:=rfl
theorem aLm (kd:IntKind) (x:bD):FV d (.conv kd x) fr bl k = k []:=rfl
theorem U4 (x:bD) (lo hi:Option bD):FV d (.strSlice x lo hi) fr bl k = k []:=rfl
theorem aFV (o s:Nat) (a:Bool) (x:bD):FV d (.field o s a x) fr bl k = k []:=rfl
theorem aDQ (x i:bD):FV d (.index x i) fr bl k = k []:=rfl
theorem aKF (x:bD):FV d (.lenS x) fr bl k = k []:=rfl
theorem aOi (l:List bD):FV d (.max l) fr bl k = k []:=rfl
theorem aNp (l:List bD):FV d (.min l) fr bl k = k []:=rfl
theorem aFn (x:bD):FV d (.bytes x) fr bl k = k []:=rfl
theorem Y6 (x:bD) (i:Nat):FV d (.extract x i) fr bl k = k []:=rfl
theorem aIc {k:Ex->St->Option β} (l:List aM) (ps:List (Nat × Nat)):bP T (.region l (some ps)) ⟨fr,bl⟩ k = lN T l ⟨fr,bl⟩ [] (aMd l ps (k .normal)):=by
 rw [aHs,aOU]
end
section
variable {d:Nat} {fr:List (Nat × V)} {bl:List (Nat × Option aI)} {k:V->Option β} {kw:V->List (Nat × Option aI)->Option β}
theorem aQ9 (a b c:List (Nat × Option aI)) (v:V):fzK ((a ++ b) ++ c) v k kw = fzK (a ++ (b ++ c)) v k kw:=by rw [List.append_assoc]
def fzN (id:Nat) (f:List (Nat × Option aI)) (x:Option β):Option β:=if A3 id f = true then x else none
theorem TN (id:Nat) (b:List (Nat × Option aI)):∀ a:List (Nat × Option aI),A3 id (a ++ b) = if A3 id a = true then A3 id b else false
 | []=>rfl
 | (i,x) :: a=>by
  simp only [List.cons_append,A3]
  by_cases h:i = id
  ·simp [h]
  ·simp only [if_neg h]; exact TN id b a
theorem aOY (id:Nat) (x:Option β):fzN id [] x = x:=rfl
theorem aRB (id i:Nat) (b:Option aI) (w:List (Nat × Option aI)) (x:Option β) (h:(i == id) = false):fzN id ((i,b) :: w) x = fzN id w x:=by
 have h:¬ i = id:=by simpa using h
 simp only [fzN,A3,if_neg h]
theorem aNU (id:Nat) (a b:List (Nat × Option aI)) (x:Option β):fzN id (a ++ b) x = fzN id a (fzN id b x):=by
 unfold fzN
 rw [TN]
 by_cases h:A3 id a = true
 ·rw [if_pos h,if_pos h]
 ·rw [if_neg h,if_neg h]; rfl
def b6 (row:List D) (off:Nat) (ds:List D) (size:Nat) (k:List D->Option β):Option β:=if ds.length = size ∧ off + size <= row.length then k (hZ row off ds) else none
theorem U6 (c:D) (cs:List D) (off:Nat) (e:D) (ds:List D) (n:Nat) (k:List D->Option β):b6 (c :: cs) (off + 1) (e :: ds) n k = b6 cs off (e :: ds) n fun l=>k (c :: l):=by
 unfold b6
 simp only [List.length_cons,hZ]
 by_cases h:ds.length + 1 = n ∧ off + n <= cs.length
 ·exact (if_pos (by omega)).trans (if_pos h).symm
 ·exact (if_neg (by omega)).trans (if_neg h).symm
theorem ZN (c:D) (cs:List D) (e:D) (ds:List D) (n:Nat) (k:List D->Option β):b6 (c :: cs) 0 (e :: ds) (n + 1) k = b6 cs 0 ds n fun l=>k (e :: l):=by
 unfold b6
 simp only [List.length_cons,hZ]
 by_cases h:ds.length = n ∧ 0 + n <= cs.length
 ·exact (if_pos (by omega)).trans (if_pos h).symm
 ·exact (if_neg (by omega)).trans (if_neg h).symm
theorem ZS (cs:List D) (k:List D->Option β):b6 cs 0 [] 0 k = k cs:=by
 unfold b6
 rw [if_pos ⟨rfl,by omega⟩,TB]
def A8 (e:Nat) (rows:List (List D)) (i:Nat) (row:List D) (k:List (List D)->Option β):Option β:=k (rows.set i row)
theorem FB {α:Type} (e:Nat) (c:α->List D) (xs:List α) (i:Nat) (x:α) (k:List (List D)->Option β):A8 e (cM c xs) i (c x) k = k (cM c (xs.set i x)):=by
 unfold A8
 rw [aP7]
theorem aNV {α:Type} (size v i off id e sz:Nat) (w:V) (c:α->List D) (xs:List α):LJ size v i off id w bl (some (.rows v e sz (cM c xs))) kw = LU w bl fun ds f=>fzN id f (xs[i]?.bind fun x=>b6 (c x) off ds size fun row=>A8 e (cM c xs) i row fun rows=>kw .any ((id,some (.rows v e sz rows)) :: f)):=by
 unfold LJ LU
 simp only [QB,if_true,cM,List.getElem?_map]
 cases xs[i]? with
 | none =>
  simp only [Option.map_none,Option.bind_none]
  cases aK (iD (lk bl none)) w.cells with
  | none=>rfl
  | some ds=>simp only [fzN]; split <;> rfl
 | some x =>
  simp only [Option.map_some,Option.bind_some]
  cases aK (iD (lk bl none)) w.cells with
  | none=>rfl
  | some ds =>
   simp only [b6,A8,fzN]
   by_cases h1:A3 id (vN (lk bl none) w) = true
   ·rw [if_pos h1]
    by_cases h2:ds.length = size ∧ off + size <= (c x).length
    ·rw [if_pos h2,if_pos ⟨h2.1,h2.2,h1⟩]; rfl
    ·rw [if_neg h2,if_neg (fun q=>h2 ⟨q.1,q.2.1⟩)]; rfl
   ·rw [if_neg h1,if_neg (fun q=>h1 q.2.2)]; rfl
end
end
section
variable {β:Type} {T:vS} {bl:List (Nat × Option aI)} {k:V->Option β} {kw:V->List (Nat × Option aI)->Option β}
def uA (size id ver:Nat) (lo hi:Option V) (b:Option aI) (k:V->Option β) (kw:V->List (Nat × Option aI)->Option β):Option β:=FD (wN (fun _=>b) size (.own id ver) lo hi) k kw
theorem aAh (size id ver:Nat) (lo hi:Option V):D8 size (.own id ver) lo hi bl k kw = aZ bl id fun b=>uA size id ver lo hi b k kw:=by
 unfold D8 aZ uA
 congr 1
 cases lo with
 | none=>cases hi with
  | none=>rfl
  | some h=>cases h with
   | d x=>cases x <;> rfl
   | _=>rfl
 | some l=>rfl
theorem vG {α:Type} (size id v:Nat) (c:α->List D) (xs:List α) (hs:sized size (cM c xs) = true) (b:aI) (wr:List (Nat × Option aI)) (lo hi:Option V) (l h:Int) (hl:CK lo 0 = some l) (hh:CK hi (xs.length:Int) = some h)
  (hb:fM (fun _=>some b) (.own id v) = some (cM c xs)) (hw:AG (fun _=>some b) (.own id v) = wr) (hn:lo = none->hi = none) :
  uA size id v lo hi (some b) k kw = if i8 xs.length l h then FD (some (.d (.sl (cM c (kU xs l h))),wr)) k kw else none:=by
 have e0:wN (fun _=>some b) size (.own id v) lo hi = (match CK hi ((cM c xs).length:Int),CK lo 0 with
   | some h,some l=>if 0 <= l ∧ l <= h ∧ h.toNat <= (cM c xs).length ∧ sized size (cM c xs) = true then some (.d (.sl (((cM c xs).take h.toNat).drop l.toNat)),wr) else none
   | _,_=>none):=by
  cases lo with
  | none =>
   obtain rfl:=hn rfl
   unfold wN
   simp only [hb,hw]
   rfl
  | some w =>
   unfold wN
   simp only [hb,hw]
   rfl
 unfold uA
 rw [e0,show ((cM c xs).length:Int) = (xs.length:Int) by simp [cM],hl,hh]
 simp only [show (cM c xs).length = xs.length by simp [cM]]
 by_cases q:i8 xs.length l h
 ·rw [if_pos q,if_pos ⟨q.1,q.2.1,q.2.2,hs⟩]
  simp only [cM,kU,List.map_drop,List.map_take]
 ·rw [if_neg q,if_neg (fun w=>q ⟨w.1,w.2.1,w.2.2.1⟩)]; rfl
section
variable {α:Type} (size id v:Nat) (c:α->List D) (xs:List α) (hs:sized size (cM c xs) = true)
include hs
theorem aBe (e s:Nat) (kd:IntKind) (l:Int):uA size id v (some (.d (.int kd l))) none (some (.rows v e s (cM c xs))) k kw = if i8 xs.length l (xs.length:Int) then kw (.d (.sl (cM c (kU xs l (xs.length:Int))))) [(id,some (.froz v (cM c xs)))] else none :=
 vG size id v c xs hs _ _ _ _ _ _ rfl rfl (by simp [fM]) rfl (fun h=>by cases h)
theorem aBW (e s:Nat) (kd kd' : IntKind) (l h:Int):uA size id v (some (.d (.int kd l))) (some (.d (.int kd' h))) (some (.rows v e s (cM c xs))) k kw = if i8 xs.length l h then kw (.d (.sl (cM c (kU xs l h)))) [(id,some (.froz v (cM c xs)))] else none :=
 vG size id v c xs hs _ _ _ _ _ _ rfl rfl (by simp [fM]) rfl (fun h=>by cases h)
theorem aBs (e s:Nat):uA size id v none none (some (.rows v e s (cM c xs))) k kw = if i8 xs.length 0 (xs.length:Int) then kw (.d (.sl (cM c (kU xs 0 (xs.length:Int))))) [(id,some (.froz v (cM c xs)))] else none :=
 vG size id v c xs hs _ _ _ _ _ _ rfl rfl (by simp [fM]) rfl (fun _=>rfl)
theorem aB4 (kd:IntKind) (l:Int):uA size id v (some (.d (.int kd l))) none (some (.froz v (cM c xs))) k kw = if i8 xs.length l (xs.length:Int) then k (.d (.sl (cM c (kU xs l (xs.length:Int))))) else none :=
 vG size id v c xs hs _ _ _ _ _ _ rfl rfl (by simp [fM]) rfl (fun h=>by cases h)
theorem aAF (kd kd' : IntKind) (l h:Int):uA size id v (some (.d (.int kd l))) (some (.d (.int kd' h))) (some (.froz v (cM c xs))) k kw = if i8 xs.length l h then k (.d (.sl (cM c (kU xs l h)))) else none :=
 vG size id v c xs hs _ _ _ _ _ _ rfl rfl (by simp [fM]) rfl (fun h=>by cases h)
theorem aAG:uA size id v none none (some (.froz v (cM c xs))) k kw = if i8 xs.length 0 (xs.length:Int) then k (.d (.sl (cM c (kU xs 0 (xs.length:Int))))) else none :=
 vG size id v c xs hs _ _ _ _ _ _ rfl rfl (by simp [fM]) rfl (fun _=>rfl)
end
theorem aBi {α:Type} (size id v e s:Nat) (c:α->List D) (xs:List α) (kd:IntKind) (h:Int):uA size id v none (some (.d (.int kd h))) (some (.rows v e s (cM c xs))) k kw = if 0 <= h ∧ h.toNat <= xs.length then kw (.own id (v + 1)) [(id,some (.rows (v + 1) e s (cM c (xs.take h.toNat))))] else none:=by
 unfold uA wN
 simp only [cM,List.length_map,true_and,List.map_take]
 split <;> rfl
end
end Vm
end Go.Proofs.Ytgjcnbgfaimepaa
namespace Go.Proofs.Ytgjcnbgfaimepaa
namespace Vm
open Go.RowKit
section
variable {β:Type} {T:vS} {d:Nat} {fr:List (Nat × V)} {bl:List (Nat × Option aI)} {k:V->Option β} {kw:V->List (Nat × Option aI)->Option β}
def aQG (size:Nat) (a:V) (lo hi:Option V) (bl:List (Nat × Option aI)) (kw:V->List (Nat × Option aI)->Option β):Option β:=match K1 (lk bl none) size a lo hi with
 | some (v,wr)=>kw v wr
 | none=>none
def QA (size id ver:Nat) (lo hi:Option V) (b:Option aI) (kw:V->List (Nat × Option aI)->Option β):Option β:=match K1 (fun _=>b) size (.own id ver) lo hi with
 | some (v,wr)=>kw v wr
 | none=>none
theorem aOg {bl:Nat->Option aI} {size:Nat} {a:V} {lo hi:Option V} {v:V} {wr:List (Nat × Option aI)} (h:K1 bl size a lo hi = some (v,wr)):∃ p l,wr = p :: l:=by
 unfold K1 at h
 split at h
 ·split at h
  ·split at h
   ·split at h
    ·cases h; exact ⟨_,_,rfl⟩
    ·cases h
   ·cases h
  ·cases h
 ·cases h
theorem aMX (size:Nat) (x:bD) (lo hi:Option bD):rE T d (.cut size x lo hi) fr bl k kw = bN fr x fun a=>aBG fr lo fun l=>aBG fr hi fun h=>aQG size a l h bl kw:=by
 rw [iK]
 simp only [b8]
 have e:∀ (o:Option bD) (g:Option V->Option β),aBG fr o g = g (o.map (bC (lk fr .any))):=fun o g=>by cases o <;> rfl
 simp only [e,bN,aQG,FD]
 cases h:K1 (lk bl none) size (bC (lk fr .any) x) (lo.map (bC (lk fr .any))) (hi.map (bC (lk fr .any))) with
 | none=>rfl
 | some r =>
  obtain ⟨v,wr⟩:=r
  obtain ⟨p,l,rfl⟩:=aOg h
  rfl
theorem aJg (size id ver:Nat) (lo hi:Option V):aQG size (.own id ver) lo hi bl kw = aZ bl id fun b=>QA size id ver lo hi b kw:=rfl
theorem aKo {α:Type} (c:α->List D) (xs:List α) (e s id v:Nat) (kd:IntKind) (l:Int):QA s id v (some (.d (.int kd l))) none (some (.rows v e s (cM c xs))) kw = if i8 xs.length l (xs.length:Int) then kw (.own id (v + 1)) [(id,some (.rows (v + 1) e s (cM c (kU xs l (xs.length:Int)))))] else none:=by
 have e1:(cM c xs).length = xs.length:=List.length_map ..
 have e2:((cM c xs).take (Int.toNat (xs.length:Int))).drop l.toNat = cM c (kU xs l (xs.length:Int)):=by unfold cM kU; rw [List.map_drop,List.map_take]
 by_cases h:i8 xs.length l (xs.length:Int)
 ·rw [if_pos h]
  simp only [QA,K1,e1,e2]
  rw [if_pos ⟨trivial,trivial,h⟩]
 ·rw [if_neg h]
  simp only [QA,K1,e1,e2]
  rw [if_neg fun q=>h q.2.2]
theorem aIm {α:Type} (c:α->List D) (xs:List α) (e s id v:Nat) (kd kd' : IntKind) (l m:Int):QA s id v (some (.d (.int kd l))) (some (.d (.int kd' m))) (some (.rows v e s (cM c xs))) kw = if i8 xs.length l m then kw (.own id (v + 1)) [(id,some (.rows (v + 1) e s (cM c (kU xs l m))))] else none:=by
 have e1:(cM c xs).length = xs.length:=List.length_map ..
 have e2:((cM c xs).take m.toNat).drop l.toNat = cM c (kU xs l m):=by unfold cM kU; rw [List.map_drop,List.map_take]
 by_cases h:i8 xs.length l m
 ·rw [if_pos h]
  simp only [QA,K1,e1,e2]
  rw [if_pos ⟨trivial,trivial,h⟩]
 ·rw [if_neg h]
  simp only [QA,K1,e1,e2]
  rw [if_neg fun q=>h q.2.2]
def UH (z:List D) (a:V) (bl:List (Nat × Option aI)) (k:V->Option β) (kw:V->List (Nat × Option aI)->Option β):Option β:=FD (match a with
  | .nil=>some (.any,[])
  | .own id ver=>match lk bl none id with
   | some (.rows v e size rows)=>if ver = v ∧ z.length = size then some (.any,[(id,some (.rows v e size (List.replicate rows.length z)))]) else none
   | _=>none
  | _=>none) k kw
def aDH (z:List D) (id ver:Nat) (b:Option aI) (kw:V->List (Nat × Option aI)->Option β):Option β:=match b with
 | some (.rows v e size rows)=>if ver = v ∧ z.length = size then kw .any [(id,some (.rows v e size (List.replicate rows.length z)))] else none
 | _=>none
def RE (neg:Bool) (a:V) (bl:List (Nat × Option aI)) (k:V->Option β):Option β:=match J6 (lk bl none) neg a with
 | some d=>k (.d d)
 | none=>none
def IX (neg:Bool) (ver:Nat) (b:Option aI) (k:V->Option β):Option β:=match b with
 | some (.rows v _ _ rows)=>if ver = v ∧ 0 < rows.length then k (.d (.bool neg)) else none
 | some (.froz v rows)=>if ver = v ∧ 0 < rows.length then k (.d (.bool neg)) else none
 | _=>none
theorem VM {α:Type} (c:α->List D) (xs:List α) (neg:Bool) (v e size:Nat):IX neg v (some (.rows v e size (cM c xs))) k = if 0 < xs.length then k (.d (.bool neg)) else none:=by
 unfold IX
 simp only [vK,true_and]
theorem U8 {α:Type} (c:α->List D) (xs:List α) (neg:Bool) (v:Nat):IX neg v (some (.froz v (cM c xs))) k = if 0 < xs.length then k (.d (.bool neg)) else none:=by
 unfold IX
 simp only [vK,true_and]
theorem aE2 (neg:Bool) (x:bD):rE T d (.isnil neg x) fr bl k kw = bN fr x fun a=>RE neg a bl k:=by
 unfold rE bN RE
 simp only [b8,JE.v]
 cases J6 (lk bl none) neg (bC (lk fr .any) x) <;> rfl
theorem aB5 (neg:Bool):RE neg .nil bl k = k (.d (.bool (!neg))):=rfl
theorem aCJ (neg:Bool) (id ver:Nat):RE neg (.own id ver) bl k = aZ bl id fun b=>IX neg ver b k:=by
 unfold RE J6 IX aZ
 simp only [fM]
 cases lk bl none id with
 | none=>rfl
 | some b =>
  cases b with
  | rows v e size rows =>
   simp only
   by_cases q:ver = v
   ·cases rows <;> simp [q]
   ·simp [q]
  | froz v rows =>
   simp only
   by_cases q:ver = v
   ·cases rows <;> simp [q]
   ·simp [q]
  | _=>rfl
theorem aGJ (z:List D) (x:bD):rE T d (.clear z x) fr bl k kw = bN fr x fun a=>UH z a bl k kw:=by
 rw [iK]
 rfl
theorem aAT (z:List D):UH z .nil bl k kw = k .any:=rfl
theorem aA8 (z:List D) (id ver:Nat):UH z (.own id ver) bl k kw = aZ bl id fun b=>aDH z id ver b kw:=by
 unfold UH aZ aDH
 simp only
 cases lk bl none id with
 | none=>rfl
 | some b =>
  cases b with
  | rows v e size rows =>
   simp only
   split <;> rfl
  | _=>rfl
def aEH:List bD->Nat->(bD->Option β)->Option β
 | [],_,_=>none
 | x :: _,0,g=>g x
 | _ :: l,n + 1,g=>aEH l n g
theorem aQo (x:bD) (l:List bD) (g:bD->Option β):aEH (x :: l) 0 g = g x:=rfl
theorem aQr (x:bD) (l:List bD) (n:Nat) (g:bD->Option β):aEH (x :: l) (n + 1) g = aEH l n g:=rfl
theorem aDp (g:bD->Option β):∀ (l:List bD) (n:Nat),aEH l n g = l[n]?.bind g
 | [],_=>rfl
 | _ :: _,0=>rfl
 | _ :: l,n + 1=>aDp g l n
def V9 (v:V) (g:Nat->Nat->Option β):Option β:=match v with
 | .own id ver=>g id ver
 | _=>none
theorem aQI (id ver:Nat) (g:Nat->Nat->Option β):V9 (.own id ver) g = g id ver:=rfl
def X2 (v:V) (bl:List (Nat × Option aI)) (g:D->Option β):Option β:=(MR (lk bl none) v).bind g
def aBU (ver:Nat) (b:Option aI) (g:D->Option β):Option β:=match b with
 | some (.rows v e size rows)=>if ver = v then g (.own (.ref 0) [(e,size)] [rows]) else none
 | _=>none
theorem aFl (id ver:Nat) (g:D->Option β):X2 (.own id ver) bl g = aZ bl id fun b=>aBU ver b g:=by
 unfold X2 aZ aBU MR
 simp only
 cases lk bl none id with
 | none=>rfl
 | some b =>
  cases b with
  | rows v e size rows=>simp only; split <;> rfl
  | _=>rfl
theorem ZF (v e s:Nat) (rows:List (List D)) (g:D->Option β):aBU v (some (.rows v e s rows)) g = g (.own (.ref 0) [(e,s)] [rows]):=if_pos rfl
def FM (fr:List (Nat × V)) (bl:List (Nat × Option aI)) (t:Nat):Nat->List bD->(List D->List (Nat × Option aI)->Option β)->Option β
 | _,[],g=>g [] []
 | i,x :: l,g=>bN fr x fun v=>if i = t then X2 v bl fun y=>FM fr bl t (i + 1) l fun ds f=>g (y :: ds) f else AO v bl fun y f=>FM fr bl t (i + 1) l fun ds f'=>g (y :: ds) (f ++ f')
theorem aD5 (t i:Nat) (g:List D->List (Nat × Option aI)->Option β):FM fr bl t i [] g = g [] []:=rfl
theorem aD1 (t i:Nat) (x:bD) (l:List bD) (g:List D->List (Nat × Option aI)->Option β) (h:(i == t) = true):FM fr bl t i (x :: l) g = bN fr x fun v=>X2 v bl fun y=>FM fr bl t (i + 1) l fun ds f=>g (y :: ds) f:=by
 have:i = t:=by simpa using h
 simp only [FM,if_pos this]
theorem aA5 (t i:Nat) (x:bD) (l:List bD) (g:List D->List (Nat × Option aI)->Option β) (h:(i == t) = false):FM fr bl t i (x :: l) g = bN fr x fun v=>AO v bl fun y f=>FM fr bl t (i + 1) l fun ds f'=>g (y :: ds) (f ++ f'):=by
 have:¬ i = t:=by simpa using h
 simp only [FM,if_neg this]
theorem RD (t:Nat):∀ (l:List bD) (i:Nat) (g:List D->List (Nat × Option aI)->Option β),FM fr bl t i l g = (DT (lk bl none) t i (l.map (bC (lk fr .any)))).bind fun ds=>g ds (tF (lk bl none) t i (l.map (bC (lk fr .any))))
 | [],i,g=>rfl
 | x :: l,i,g=>by
  simp only [FM,List.map_cons,DT,tF,bN]
  by_cases h:i = t
  ·simp only [if_pos h,X2,RD t l (i + 1)]
   cases MR (lk bl none) (bC (lk fr .any) x) with
   | none=>rfl
   | some y =>
    cases DT (lk bl none) t (i + 1) (l.map (bC (lk fr .any))) with
    | none=>rfl
    | some ds=>simp
  ·simp only [if_neg h,AO,RD t l (i + 1)]
   cases iB (lk bl none) (bC (lk fr .any) x) with
   | none=>rfl
   | some y=>cases DT (lk bl none) t (i + 1) (l.map (bC (lk fr .any))) <;> rfl
noncomputable def OT (T:vS) (bl:List (Nat × Option aI)) (f id ver:Nat) (ds:List D) (kw:V->List (Nat × Option aI)->Option β):Option β:=match call T f ds with
 | some (.own y [(e,size)] [rows'])=>match lk bl none id with
  | some (.rows v e' size' _)=>if ver = v ∧ e = e' ∧ size = size' ∧ GW y = true ∧ n8 rows' = true then kw (toV y) [(id,some (.rows v e size rows'))] else none
  | _=>none
 | _=>none
theorem aHf (f:Nat) (args:List bD) (t:Nat):rE T d (.lend f args t) fr bl k kw = aEH args t fun x=>bN fr x fun v=>V9 v fun id ver=>FM fr bl t 0 args fun ds fz=>fzN id fz (OT T bl f id ver ds kw):=by
 rw [iK,aDp]
 simp only [b8,List.getElem?_map]
 cases args[t]? with
 | none=>rfl
 | some x =>
  simp only [Option.map_some,Option.bind_some,bN]
  generalize bC (lk fr .any) x = v
  cases v with
  | own id ver =>
   simp only [V9,RD]
   cases DT (lk bl none) t 0 (args.map (bC (lk fr .any))) with
   | none=>rfl
   | some ds =>
    simp only [Option.bind_some,fzN]
    split
    ·unfold OT
     generalize call T f ds = r
     generalize lk bl none id = b
     split
     ·split
      ·split
       ·rename_i hq
        exact (if_pos hq).symm
       ·rename_i hq
        exact (if_neg hq).symm
      ·rename_i hq
       cases b with
       | none=>rfl
       | some b=>cases b <;> first | rfl | exact absurd rfl (hq _ _ _ _)
     ·rename_i hq
      split
      ·exact absurd rfl (hq _ _ _ _)
      ·rfl
    ·rfl
  | _=>rfl
def J3 (ver e size:Nat) (rows' : List (List D)) (b:Option aI) (g:Option aI->Option β):Option β:=match b with
 | some (.rows v e' s' _)=>if ver = v ∧ e = e' ∧ size = s' then g (some (.rows v e size rows')) else none
 | _=>none
theorem YX (v e s:Nat) (rows rows' : List (List D)) (g:Option aI->Option β):J3 v e s rows' (some (.rows v e s rows)) g = g (some (.rows v e s rows')):=if_pos ⟨rfl,rfl,rfl⟩
theorem IL {α:Type} {f e size:Nat} {ds:List D} {o:Option α} {y:α->D} {r:α->List (List D)} (h:call T f ds = o.map fun x=>.own (y x) [(e,size)] [r x]) (hy:∀ x,GW (y x) = true) (hr:∀ x,n8 (r x) = true) (id ver:Nat) :
  OT T bl f id ver ds kw = o.bind fun x=>aZ bl id fun b=>J3 ver e size (r x) b fun b'=>kw (toV (y x)) [(id,b')]:=by
 unfold OT
 rw [h]
 cases o with
 | none=>rfl
 | some x =>
  simp only [Option.map_some,Option.bind_some,aZ,J3,hy x,hr x,and_true]
theorem nV {α:Type} (c:α->List D) (hc:∀ x,(c x).all FL = true) (xs:List α):n8 (cM c xs) = true:=by
 unfold n8 cM
 rw [List.all_eq_true]
 intro row hr
 obtain ⟨x,_,rfl⟩:=List.mem_map.1 hr
 exact hc x
def aMG (res:List jN) (t:Nat):Ex->St->Option D
 | .normal,s=>xZ ⟨0,0,res,.skip,true,true⟩ s t
 | .ret,s=>xZ ⟨0,0,res,.skip,true,true⟩ s t
 | .exit _,_=>none
def WZ (ver:Nat) (b:Option aI) (g:Nat->Nat->List (List D)->Option D):Option D:=match b with
 | some (.rows v e size rows)=>if ver = v then g e size rows else none
 | _=>none
theorem aAO (v e s:Nat) (rows:List (List D)) (g:Nat->Nat->List (List D)->Option D):WZ v (some (.rows v e s rows)) g = g e s rows:=if_pos rfl
def NY (e s:Nat) (rows:List (List D)) (y:D):Option D:=if GW y = true then some (.own y [(e,s)] [rows]) else none
theorem aLl (e s:Nat) (rows:List (List D)):NY e s rows (.tup []) = some (.own (.tup []) [(e,s)] [rows]):=rfl
theorem aKN (e s:Nat) (rows:List (List D)) (k:IntKind) (n:Int):NY e s rows (.int k n) = some (.own (.int k n) [(e,s)] [rows]):=rfl
theorem aIu (e s:Nat) (rows:List (List D)) (b:Bool):NY e s rows (.bool b) = some (.own (.bool b) [(e,s)] [rows]):=rfl
theorem aC9 (res:List jN) (t:Nat):xZ ⟨0,0,res,.skip,true,true⟩ ⟨fr,bl⟩ t = hU fr t fun v=>V9 v fun id ver=>aZ bl id fun b=>WZ ver b fun e s rows=>(JM fr bl res LW).bind (NY e s rows):=by
 unfold xZ hU
 rw [CM]
 cases lk fr .any t with
 | own id ver =>
  simp only [V9,aZ,WZ]
  rw [CJ]
  cases lk bl none id with
  | none=>rfl
  | some b =>
   cases b with
   | rows v e size rows =>
    simp only
    split
    ·rw [← UZ]
     cases aK (s8 ⟨fr,bl⟩) res with
     | none=>rfl
     | some us =>
      cases us with
      | nil=>rfl
      | cons u us=>cases us with
       | nil=>simp only [CJ]; cases iB (lk bl none) u <;> rfl
       | cons w us=>simp only [CJ]; cases toD (lk bl none) (.tup (u :: w :: us)) <;> rfl
    ·rfl
   | _=>rfl
 | _=>rfl
theorem aQj (res:List jN) (t:Nat):aMG res t .normal ⟨fr,bl⟩ = hU fr t fun v=>V9 v fun id ver=>aZ bl id fun b=>WZ ver b fun e s rows=>(JM fr bl res LW).bind (NY e s rows):=aC9 res t
theorem aRm (res:List jN) (t:Nat):aMG res t .ret ⟨fr,bl⟩ = hU fr t fun v=>V9 v fun id ver=>aZ bl id fun b=>WZ ver b fun e s rows=>(JM fr bl res LW).bind (NY e s rows):=aC9 res t
theorem aPR (res:List jN) (t i:Nat) (s:St):aMG res t (.exit i) s = none:=rfl
theorem aLw:LW [] = some (.tup []):=rfl
theorem Q6 {T:vS} {f np nt t:Nat} {res:List jN} {body:aH} {fs:Bool} (hf:T f = some (.code ⟨np,nt,res,body,fs,true⟩)) (ds:List D) (hl:ds.length = np) (hlt:iV 0 ds = some t) (hnd:zU t body = true):Vm.call T f ds = bP T body (A2 t ds) (aMG res t):=by
 rw [aGq hf ds hl hlt rfl hnd]
 unfold bP
 cases Vm.ev T body (A2 t ds) with
 | none=>rfl
 | some q =>
  obtain ⟨e,s⟩:=q
  cases e <;> rfl
end
section
variable {β:Type} {T:vS}
end
section
variable {β:Type} {T:vS} {fr:List (Nat × V)} {bl:List (Nat × Option aI)}
def AH (fr:List (Nat × V)):List Nat->(List V->Option β)->Option β
 | [],k=>k []
 | t :: l,k=>hU fr t fun v=>AH fr l fun vs=>k (v :: vs)
theorem NF (l:List Nat) (k:List V->Option β):AH fr l k = k (l.map (lk fr .any)):=by
 induction l generalizing k with
 | nil=>rfl
 | cons x l ih=>simp only [AH,hU,ih,List.map_cons]
theorem aAs (k:List V->Option β):AH fr [] k = k []:=rfl
theorem X8 (t:Nat) (l:List Nat) (k:List V->Option β):AH fr (t :: l) k = hU fr t fun v=>AH fr l fun vs=>k (v :: vs):=rfl
def aSG (args:List bD) (id:Nat) (slots:List Nat) (fr:List (Nat × V)) (bl:List (Nat × Option aI)) (k:List (Nat × V)->List (Nat × Option aI)->Option β):Option β :=
 aZ bl id fun b=>fL b (AH fr slots fun cs=>FT fr args fun vs=>k (mW 0 vs) ((id,some (.outer cs)) :: bl))
def inK (args:List bD) (id:Nat) (slots:List Nat) (s:St) (k:List (Nat × V)->List (Nat × Option aI)->Option β):Option β:=aSG args id slots s.fr s.bl k
theorem aP5 (args:List bD) (id:Nat) (slots:List Nat) (k:List (Nat × V)->List (Nat × Option aI)->Option β):inK args id slots ⟨fr,bl⟩ k = aZ bl id fun b=>fL b (AH fr slots fun cs=>FT fr args fun vs=>k (mW 0 vs) ((id,some (.outer cs)) :: bl)):=rfl
theorem aEt (i:Nat):mW i [] = []:=rfl
theorem aBQ (i:Nat) (v:V) (l:List V):mW i (v :: l) = (i,v) :: mW (i + 1) l:=rfl
theorem aMZ (args:List bD) (id:Nat) (slots:List Nat) (k:St->Option β):(SZ args id slots ⟨fr,bl⟩).bind k = inK args id slots ⟨fr,bl⟩ fun fr' bl'=>k ⟨fr',bl'⟩:=by
 unfold SZ inK aSG aZ fL
 rw [NS]
 cases hb:lk bl none id with
 | some b=>rfl
 | none =>
  simp only [Option.isNone_none,if_true,Option.bind_some,NF,LM]
  rfl
def O8 (fr:List (Nat × V)) (bl:List (Nat × Option aI)):List jN->(List V->Option β)->Option β
 | [],k=>k []
 | .tmp t :: r,k=>hU fr t fun v=>O8 fr bl r fun l=>k (v :: l)
 | .cell t size isAgg :: r,k=>hU fr t fun p=>yH size isAgg p bl fun v=>O8 fr bl r fun l=>k (v :: l)
theorem aMT (res:List jN):∀ (k:List V->Option β),O8 fr bl res k = (aK (s8 ⟨fr,bl⟩) res).bind k:=by
 induction res with
 | nil=>intro k; rfl
 | cons r res ih =>
  intro k
  cases r with
  | tmp t =>
   simp only [O8,hU,ih,aK,s8,CM]
   cases aK (s8 ⟨fr,bl⟩) res <;> rfl
  | cell t size isAgg =>
   simp only [O8,hU,RH,ih,aK,s8,H5,CM,CJ]
   cases ME size isAgg (lk fr .any t) (lk bl none) with
   | none=>rfl
   | some q =>
    obtain ⟨v,wr⟩:=q
    simp only [Option.bind_some]
    cases aK (s8 ⟨fr,bl⟩) res <;> rfl
theorem aH8 (k:List V->Option β):O8 fr bl [] k = k []:=rfl
theorem aQl (t:Nat) (r:List jN) (k:List V->Option β):O8 fr bl (.tmp t :: r) k = hU fr t fun v=>O8 fr bl r fun l=>k (v :: l):=rfl
theorem aQ8 (t size:Nat) (isAgg:Bool) (r:List jN) (k:List V->Option β):O8 fr bl (.cell t size isAgg :: r) k = hU fr t fun p=>yH size isAgg p bl fun v=>O8 fr bl r fun l=>k (v :: l):=rfl
def S2 (dst:Option Nat) (slots:List Nat) (cs vs:List V) (k:List (Nat × V)->Option β):Option β :=
 match vs with
 | [v]=>k (N5 dst v ++ slots.zip cs)
 | vs=>if vs.all V.noTup = true then k (N5 dst (.tup vs) ++ slots.zip cs) else none
theorem aE7 (dst:Option Nat) (slots:List Nat) (cs:List V) (v:V) (k:List (Nat × V)->Option β):S2 dst slots cs [v] k = k (N5 dst v ++ slots.zip cs):=rfl
theorem aGn (dst:Option Nat) (slots:List Nat) (cs:List V) (k:List (Nat × V)->Option β):S2 dst slots cs [] k = k (N5 dst (.tup []) ++ slots.zip cs):=rfl
theorem RA (dst:Option Nat) (slots:List Nat) (cs:List V) (v u:V) (l:List V) (k:List (Nat × V)->Option β):S2 dst slots cs (v :: u :: l) k = if (v :: u :: l).all V.noTup = true then k (N5 dst (.tup (v :: u :: l)) ++ slots.zip cs) else none:=rfl
theorem aDR (d:Nat) (v:V) (l:List (Nat × V)):N5 (some d) v ++ l = (d,v) :: l:=rfl
theorem aGQ (v:V) (l:List (Nat × V)):N5 none v ++ l = l:=rfl
theorem aH5:([]:List Nat).zip ([]:List V) = []:=rfl
theorem aE1 (t:Nat) (v:V) (l:List Nat) (r:List V):(t :: l).zip (v :: r) = (t,v) :: l.zip r:=rfl
def HE (b:Option aI) (k:List V->Option β):Option β:=match b with
 | some (.outer cs)=>k cs
 | _=>none
theorem aKv (cs:List V) (k:List V->Option β):HE (some (.outer cs)) k = k cs:=rfl
def aHx (dst:Option Nat) (res:List jN) (id:Nat) (slots:List Nat) (fr:List (Nat × V)) (bl:List (Nat × Option aI)) (k:List (Nat × V)->List (Nat × Option aI)->Option β):Option β :=
 aZ bl id fun b=>HE b fun cs=>O8 fr bl res fun vs=>S2 dst slots cs vs fun fr'=>k fr' ((id,none) :: bl)
theorem aOK (dst:Option Nat) (res:List jN) (id:Nat) (slots:List Nat) (k:List (Nat × V)->List (Nat × Option aI)->Option β):aHx dst res id slots fr bl k = aZ bl id fun b=>HE b fun cs=>O8 fr bl res fun vs=>S2 dst slots cs vs fun fr'=>k fr' ((id,none) :: bl):=rfl
theorem ZW (dst:Option Nat) (res:List jN) (id:Nat) (slots:List Nat) (k:St->Option β):(kQ dst res id slots ⟨fr,bl⟩).bind k = aHx dst res id slots fr bl fun fr' bl'=>k ⟨fr',bl'⟩:=by
 unfold kQ aHx aZ
 rw [NS]
 cases hb:lk bl none id with
 | none=>cases aK (s8 ⟨fr,bl⟩) res <;> rfl
 | some b =>
  cases b with
  | outer cs =>
   simp only [HE,aMT]
   cases aK (s8 ⟨fr,bl⟩) res with
   | none=>rfl
   | some vs =>
    simp only [Option.bind_some]
    cases vs with
    | nil=>rfl
    | cons v vs=>cases vs with
     | nil=>rfl
     | cons u vs =>
      rw [RA]
      show (if (v :: u :: vs).all V.noTup = true then some _ else none).bind k = _
      split <;> rfl
  | _=>cases aK (s8 ⟨fr,bl⟩) res <;> rfl
def P2 (dst:Option Nat) (res:List jN) (id:Nat) (slots:List Nat) (k:Ex->St->Option β):Ex->St->Option β
 | .normal,s=>(kQ dst res id slots s).bind fun s4=>k .normal s4
 | .ret,s=>(kQ dst res id slots s).bind fun s4=>k .normal s4
 | .exit _,_=>none
theorem aJu (dst:Option Nat) (res:List jN) (id:Nat) (slots:List Nat) (k:Ex->St->Option β):P2 dst res id slots k .normal ⟨fr,bl⟩ = aHx dst res id slots fr bl fun fr' bl'=>k .normal ⟨fr',bl'⟩:=ZW dst res id slots _
theorem aH9 (dst:Option Nat) (res:List jN) (id:Nat) (slots:List Nat) (k:Ex->St->Option β):P2 dst res id slots k .ret ⟨fr,bl⟩ = aHx dst res id slots fr bl fun fr' bl'=>k .normal ⟨fr',bl'⟩:=ZW dst res id slots _
theorem aLS {k:Ex->St->Option β} (ops:List aM) (args:List bD) (dst:Option Nat) (f:Nat) (body:aH) (res:List jN) (id:Nat) (slots:List Nat) :
  bP T (.inl ops args dst f body res id slots) ⟨fr,bl⟩ k = sZ T ops ⟨fr,bl⟩ fun s1=>inK args id slots s1 fun fr' bl'=>bP T body ⟨fr',bl'⟩ (P2 dst res id slots k):=by
 rw [aN8]
 congr 1
 funext s1
 refine Eq.trans ?_ (aMZ (fr:=s1.fr) (bl:=s1.bl) args id slots fun s=>bP T body s (P2 dst res id slots k))
 congr 1
 funext s2
 congr 1
 funext ex s3
 cases ex <;> rfl
def KH (keep:List Nat) (bl:List (Nat × Option aI)):List V->(List V->Option β)->Option β
 | [],k=>k []
 | v :: cs,k=>oT keep bl v fun v'=>KH keep bl cs fun l=>k (v' :: l)
theorem aEE (keep:List Nat) (cs:List V):∀ (k:List V->Option β),KH keep bl cs k = k (cs.map (FX keep (lk bl none))):=by
 induction cs with
 | nil=>intro k; rfl
 | cons v cs ih=>intro k; simp only [KH,oT,ih,List.map_cons]
theorem Z9 (keep:List Nat) (k:List V->Option β):KH keep bl [] k = k []:=rfl
theorem WN (keep:List Nat) (v:V) (cs:List V) (k:List V->Option β):KH keep bl (v :: cs) k = oT keep bl v fun v'=>KH keep bl cs fun l=>k (v' :: l):=rfl
theorem V3 (keep:List Nat) (cs:List V) (k:Option aI->Option β):xI keep bl (some (.outer cs)) k = KH keep bl cs fun l=>k (some (.outer l)):=by rw [aEE]; rfl
end
section
variable {β:Type} {T:vS} {d:Nat} {fr:List (Nat × V)} {bl:List (Nat × Option aI)} {k:V->Option β} {kw:V->List (Nat × Option aI)->Option β}
noncomputable def vX (T:vS) (d:Nat) (bl:List (Nat × Option aI)) (f:Nat) (ds:List D) (k:V->Option β) (kw:V->List (Nat × Option aI)->Option β):Option β:=match call T f ds with
 | some (.own x es rs)=>if I2 x rs = true then FD (nT d (lk bl none) [] (.own x es rs)) k kw else none
 | _=>none
theorem aEB (f:Nat) (args:List bD):rE T d (.calln f args) fr bl k kw = N9 fr bl args fun ds _=>vX T d bl f ds k kw:=by
 rw [iK,X3]
 simp only [b8]
 cases aK (fun x=>iB (lk bl none) (bC (lk fr .any) x)) args with
 | none=>rfl
 | some ds =>
  simp only [Option.bind_some,vX]
  cases call T f ds with
  | none=>rfl
  | some y =>
   cases y with
   | own x es rs=>simp only; split <;> rfl
   | _=>rfl
theorem aDY (f:Nat) (args:List bD) (k:List Nat->Option β):FV d (.calln f args) fr bl k = CO fr bl args k:=by
 rw [IV]; rfl
theorem nL {x:D} {rs:List (List (List D))} (h1:aC5 x = true) (h2:rs.all n8 = true):I2 x rs = true:=by simp only [I2,h1,h2,Bool.and_self]
theorem uB {r:List (List D)} {rs:List (List (List D))} (h1:n8 r = true) (h2:rs.all n8 = true):(r :: rs).all n8 = true:=by simp only [List.all_cons,h1,h2,Bool.and_self]
theorem qN {α:Type} {f:Nat} {ds:List D} {o:Option α} {y:α->D} {p:Nat × Nat} {es:List (Nat × Nat)} {r:α->List (List D)} {rs:α->List (List (List D))} (h:call T f ds = o.map fun x=>.own (y x) (p :: es) (r x :: rs x)) (hn:∀ x,I2 (y x) (r x :: rs x) = true) :
  vX T d bl f ds k kw = o.bind fun x=>WF bl (fB d 0 (p :: es) (r x :: rs x)) (kw (thaw d (y x)) (fB d 0 (p :: es) (r x :: rs x))):=by
 unfold vX
 rw [h]
 cases o with
 | none=>rfl
 | some x =>
  simp only [Option.map_some,Option.bind_some,nT,RJ,hn x,if_true,List.append_nil]
  split
  ·obtain ⟨e,s⟩:=p; rfl
  ·rfl
end
end Vm
end Go.Proofs.Ytgjcnbgfaimepaa
namespace Go.Proofs.Ytgjcnbgfaimepaa
namespace Vm
open Go.RowKit
section
variable {β:Type} {T:vS} {d:Nat} {fr:List (Nat × V)} {bl:List (Nat × Option aI)} {k:V->Option β} {kw:V->List (Nat × Option aI)->Option β}
def TG (b:Option aI) (x:Option β):Option β:=match b with
 | some (.box _)=>x
 | some (.fbox _)=>x
 | _=>none
theorem aFI (cs:List V) (x:Option β):TG (some (.box cs)) x = x:=rfl
theorem aAw (cs:List D) (x:Option β):TG (some (.fbox cs)) x = x:=rfl
def aQ6:Option aI->Bool
 | some (.box _)=>true
 | some (.fbox _)=>true
 | _=>false
theorem aG8 (b:Option aI) (x:Option β):TG b x = if aQ6 b = true then x else none:=by
 cases b with
 | none=>rfl
 | some b=>cases b <;> rfl
def aHN (v:V) (bl:List (Nat × Option aI)) (k:V->Option β):Option β:=match v with
 | .ptr id off=>aZ bl id fun b=>TG b (k (.ptr id off))
 | _=>none
theorem aHX (id off:Nat):aHN (.ptr id off) bl k = aZ bl id fun b=>TG b (k (.ptr id off)):=rfl
def LD (fr:List (Nat × V)) (bl:List (Nat × Option aI)):List bD->(List V->Option β)->Option β
 | [],k=>k []
 | x :: l,k=>bN fr x fun v=>aHN v bl fun u=>LD fr bl l fun us=>k (u :: us)
theorem aBf (k:List V->Option β):LD fr bl [] k = k []:=rfl
theorem OW (x:bD) (l:List bD) (k:List V->Option β):LD fr bl (x :: l) k = bN fr x fun v=>aHN v bl fun u=>LD fr bl l fun us=>k (u :: us):=rfl
theorem aMO (v:V):aHN v bl k = if NW (lk bl none) v = true then k v else none:=by
 cases v with
 | ptr id off =>
  show TG (lk bl none id) (k (.ptr id off)) = if NW (lk bl none) (.ptr id off) = true then _ else _
  have:NW (lk bl none) (.ptr id off) = aQ6 (lk bl none id):=by
   show (match lk bl none id with | some (.box _)=>true | some (.fbox _)=>true | _=>false) = aQ6 (lk bl none id)
   cases lk bl none id with
   | none=>rfl
   | some b=>cases b <;> rfl
  rw [this]
  exact aG8 _ _
 | _=>rfl
theorem aEl (l:List bD):∀ (k:List V->Option β),LD fr bl l k = if (l.map (bC (lk fr .any))).all (NW (lk bl none)) = true then k (l.map (bC (lk fr .any))) else none:=by
 induction l with
 | nil=>intro k; rfl
 | cons x l ih =>
  intro k
  rw [OW]
  unfold bN
  show aHN (bC (lk fr .any) x) bl (fun u=>LD fr bl l fun us=>k (u :: us)) = _
  rw [aMO,List.map_cons,List.all_cons]
  cases NW (lk bl none) (bC (lk fr .any) x) with
  | false=>rfl
  | true =>
   rw [if_pos rfl,ih,Bool.true_and]
theorem aD2 (f:Nat) (caps:List bD):rE T d (.mkfnv f caps) fr bl k kw = LD fr bl caps fun vs=>k (.fn f vs):=by
 rw [aEl]
 unfold rE
 simp only [b8]
 split
 ·rename_i h
  split at h
  ·cases h
  ·rename_i hc; rw [if_neg hc]
 ·rename_i v h
  split at h
  ·rename_i hc
   cases h
   rw [if_pos hc]
  ·cases h
 ·rename_i v p wr h
  split at h
  ·cases h
  ·cases h
theorem aEe (f:Nat) (vs:List V) (k:List V->Option β):uR (.fn f vs) k = k [.fn f vs]:=rfl
def aAZ (keep:List Nat) (id:Nat) (b:Option aI) (x y:Option β):Option β:=match b with
 | some (.box _)=>e7 keep id x y
 | _=>y
theorem aJk (keep:List Nat) (id:Nat) (cs:List V) (x y:Option β):aAZ keep id (some (.box cs)) x y = e7 keep id x y:=rfl
theorem aF1 (keep:List Nat) (id:Nat) (cs:List D) (x y:Option β):aAZ keep id (some (.fbox cs)) x y = y:=rfl
theorem aFJ (keep:List Nat) (id:Nat) (x y:Option β):aAZ keep id none x y = y:=rfl
def aNy (keep:List Nat) (id:Nat):Option aI->Bool
 | some (.box _)=>keep.contains id
 | _=>false
theorem aOT (keep:List Nat) (id:Nat) (b:Option aI) (x y:Option β):aAZ keep id b x y = if aNy keep id b = true then x else y:=by
 cases b with
 | none=>rfl
 | some b=>cases b <;> rfl
def fnK (keep:List Nat) (bl:List (Nat × Option aI)):List V->Option β->Option β->Option β
 | [],x,_=>x
 | .ptr id _ :: l,x,y=>aZ bl id fun b=>aAZ keep id b (fnK keep bl l x y) y
 | _ :: _,_,y=>y
theorem aNi (keep:List Nat) (x y:Option β):fnK keep bl [] x y = x:=rfl
theorem aDK (keep:List Nat) (id off:Nat) (l:List V) (x y:Option β):fnK keep bl (.ptr id off :: l) x y = aZ bl id fun b=>aAZ keep id b (fnK keep bl l x y) y:=rfl
theorem aJG (keep:List Nat) (x y:Option β):∀ l:List V,fnK keep bl l x y = if l.all (aDy keep (lk bl none)) = true then x else y
 | []=>rfl
 | v :: l=>by
  rw [List.all_cons]
  cases v with
  | ptr id off =>
   rw [aDK]
   show aAZ keep id (lk bl none id) (fnK keep bl l x y) y = _
   have:aDy keep (lk bl none) (.ptr id off) = aNy keep id (lk bl none id):=by
    show (match lk bl none id with | some (.box _)=>keep.contains id | _=>false) = aNy keep id (lk bl none id)
    cases lk bl none id with
    | none=>rfl
    | some b=>cases b <;> rfl
   rw [aOT,aJG keep x y l,this]
   cases aNy keep id (lk bl none id) <;> rfl
  | _=>rfl
theorem aJR (keep:List Nat) (f:Nat) (vs:List V):oT keep bl (.fn f vs) k = fnK keep bl vs (k (.fn f vs)) (k .any):=by
 rw [aJG]
 unfold oT
 simp only [FX,OG,sJ]
 split <;> rfl
theorem aEo (keep:List Nat) (f:Nat) (vs cs:List V) (k:List V->Option β):qR keep bl (.fn f vs :: cs) k = oT keep bl (.fn f vs) fun v=>qR keep bl cs fun l=>k (v :: l):=by simp only [rZ]; rfl
def QS (f nc:Nat) (v:V) (k:List V->Option β):Option β:=(EY f nc v).bind k
theorem aGP (f nc g:Nat) (vs:List V) (k:List V->Option β):QS f nc (.fn g vs) k = if g = f ∧ vs.length = nc then k vs else none:=by
 unfold QS EY
 simp only
 split <;> rfl
def aR3 (x:bD) (nc f:Nat) (args:List bD) (id:Nat) (slots:List Nat) (fr:List (Nat × V)) (bl:List (Nat × Option aI)) (k:List (Nat × V)->List (Nat × Option aI)->Option β):Option β :=
 bN fr x fun v=>QS f nc v fun caps=>aZ bl id fun b=>fL b (AH fr slots fun cs=>FT fr args fun vs=>k (mW 0 (vs ++ caps)) ((id,some (.outer cs)) :: bl))
def aRH (x:bD) (nc f:Nat) (args:List bD) (id:Nat) (slots:List Nat) (s:St) (k:List (Nat × V)->List (Nat × Option aI)->Option β):Option β:=aR3 x nc f args id slots s.fr s.bl k
theorem aDb (x:bD) (nc f:Nat) (args:List bD) (id:Nat) (slots:List Nat) (k:List (Nat × V)->List (Nat × Option aI)->Option β):aRH x nc f args id slots ⟨fr,bl⟩ k = bN fr x fun v=>QS f nc v fun caps=>aZ bl id fun b=>fL b (AH fr slots fun cs=>FT fr args fun vs=>k (mW 0 (vs ++ caps)) ((id,some (.outer cs)) :: bl)):=rfl
theorem aHy {k:Ex->St->Option β} (ops:List aM) (x:bD) (nc:Nat) (args:List bD) (dst:Option Nat) (f:Nat) (body:aH) (res:List jN) (id:Nat) (slots:List Nat) (s:St) :
  bP T (.inlv ops x nc args dst f body res id slots) s k = sZ T ops s fun s1=>(EY f nc (bC s1.get x)).bind fun caps=>(CN (args.map (bC s1.get) ++ caps) id slots s1).bind fun s2=>bP T body s2 fun ex s3=>match ex with
   | .exit _=>none
   | _=>(kQ dst res id slots s3).bind fun s4=>k .normal s4:=by
 unfold bP sZ
 rw [aLz]
 cases gZ (call T) ops s with
 | none=>rfl
 | some s1 =>
  simp only [Option.bind_some]
  cases EY f nc (bC s1.get x) with
  | none=>rfl
  | some caps =>
   simp only [Option.bind_some]
   cases CN (args.map (bC s1.get) ++ caps) id slots s1 with
   | none=>rfl
   | some s2 =>
    simp only [Option.bind_some]
    cases ev T body s2 with
    | none=>rfl
    | some q =>
     obtain ⟨e,s3⟩:=q
     cases e with
     | normal=>simp only [Option.bind_some]; cases kQ dst res id slots s3 <;> rfl
     | exit i=>rfl
     | ret=>simp only [Option.bind_some]; cases kQ dst res id slots s3 <;> rfl
theorem aKI {k:Ex->St->Option β} (ops:List aM) (x:bD) (nc:Nat) (args:List bD) (dst:Option Nat) (f:Nat) (body:aH) (res:List jN) (id:Nat) (slots:List Nat) :
  bP T (.inlv ops x nc args dst f body res id slots) ⟨fr,bl⟩ k = sZ T ops ⟨fr,bl⟩ fun s1=>aRH x nc f args id slots s1 fun fr' bl'=>bP T body ⟨fr',bl'⟩ (P2 dst res id slots k):=by
 rw [aHy]
 congr 1
 funext s1
 obtain ⟨fr1,bl1⟩:=s1
 rw [aDb]
 unfold bN QS
 show (EY f nc (bC (lk fr1 .any) x)).bind _ = (EY f nc (bC (lk fr1 .any) x)).bind _
 congr 1
 funext caps
 unfold CN aZ fL
 rw [NS]
 cases hb:lk bl1 none id with
 | some b=>rfl
 | none =>
  simp only [Option.isNone_none,if_true,Option.bind_some,NF,LM]
  congr 1
  funext ex s3
  cases ex <;> rfl
theorem aMH (f:Nat) (vs:List V) (k:List Nat->Option β):H3 (.fn f vs) k = k []:=rfl
theorem aHA (f:Nat) (vs:List V) (k:List Nat->Option β):yM bl (.fn f vs) k = k []:=rfl
theorem aEc (f:Nat) (vs cs:List V) (k:List Nat->Option β):rJ bl (.fn f vs :: cs) k = rJ bl cs k:=by simp only [vL]; rfl
theorem aGH (f:Nat) (vs cs:List V) (k:List Nat->Option β):rS (.fn f vs :: cs) k = rS cs k:=by simp only [vI]; rfl
end
end Vm
end Go.Proofs.Ytgjcnbgfaimepaa
namespace Go.Proofs.Ytgjcnbgfaimepaa
namespace Vm
open Go.RowKit Vm
def L3 (rows:List (List D)):Bool:=rows.all fun row=>row.all D.atom
def U7 (E size bytes:Nat):List D->Option D
 | [.sl rows]=>if sized size rows = true ∧ L3 rows = true ∧ rows.length * bytes <= 140737488355328 then some (.own (.ref 0) [(E,size)] [rows]) else none
 | _=>none
theorem aIe {α:Type} (c:α->List D) (xs:List α) (h:∀ x,(c x).all D.atom = true):L3 (cM c xs) = true:=by
 unfold L3 cM
 rw [List.all_eq_true]
 intro row hr
 obtain ⟨x,_,rfl⟩:=List.mem_map.1 hr
 exact h x
end Vm
end Go.Proofs.Ytgjcnbgfaimepaa
