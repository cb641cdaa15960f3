/- The small machine, read from the front: slices that are laid out, calls, masks, answers. The small machine, read from the front: regions whose order is drawn. The small machine, read from the front: slices that are lent, cut, cleared. The small machine, read from the front: function values that hold boxes. slices.Clone: what it is told to answer. -/
import Derived.Test.YtgjcnbgfaimepaaVmE
set_option linter.unusedVariables false
set_option linter.unusedSimpArgs false
namespace Go.Proofs.Ytgjcnbgfaimepaa
theorem zA.{u} {α:Type u} {a:α} {l:List α}:(a::l).length = l.length + 1:=rfl
theorem zB.{u} {α:Type u}:([]:List α).length = 0:=rfl
theorem zC:(!true) = false:=rfl
theorem zD:(!false) = true:=rfl
theorem zE.{u} {α:Type u} {n:Nat} {a:α}:List.replicate (n + 1) a = a::List.replicate n a:=rfl
theorem zF.{u} {α:Type u} {a:α}:List.replicate 0 a = []:=rfl
theorem zG.{u,v} {α:Type u} {β:Type v} (a:α) (f:α->Option β):(some a).bind f = f a:=rfl
theorem zH.{u,v} {α:Type u} {β:Type v} (a:α) (f:α->β):(some a).map f = some (f a):=rfl
theorem zI.{u,v} {α:Type u} {β:Type v} (f:α->β):(none:Option α).map f = none:=rfl
theorem zJ.{u,v,w} {α:Type u} {β:Type v} {γ:Sort w} (f:α->γ) (g:β->γ) (x:α):Sum.elim f g (Sum.inl x) = f x:=rfl
theorem zK.{u,v,w} {α:Type u} {β:Type v} {γ:Sort w} (f:α->γ) (g:β->γ) (x:β):Sum.elim f g (Sum.inr x) = g x:=rfl
theorem zL.{u,v,w} {α:Type u} {β:Type v} {γ:Type w} (x:Option α) (f:α->Option β) (g:β->Option γ):(x.bind f).bind g = x.bind fun y=>(f y).bind g:=Option.bind_assoc x f g
theorem zM.{u} {α:Type u} [BEq α] [ReflBEq α] (a:α):(a == a) = true:=beq_self_eq_true a
theorem zN:(¬False) = True:=not_false_eq_true
namespace Vm
open Go.RowKit
section
variable {β:Type} {T:vA} {d:Nat} {fr:List (Nat × V)} {bl:List (Nat × Option aI)} {k:V->Option β} {kw:V->List (Nat × Option aI)->Option β}
def vI (bl:List (Nat × Option aI)):List V->(List D->List (Nat × Option aI)->Option β)->Option β
 | [],k=>k [] []
 | v :: cs,k=>(iA (lk bl none) v).bind fun x=>vI bl cs fun ds f=>k (x :: ds) (yX (lk bl none) v ++ f)
theorem LH (cs:List V) (k:List D->List (Nat × Option aI)->Option β):vI bl cs k = (aK (iA (lk bl none)) cs).bind fun ds=>k ds (cs.flatMap (yX (lk bl none))):=by
 induction cs generalizing k with
 | nil=>rfl
 | cons v cs ih =>
  simp only [vI,aK,ih,List.flatMap_cons]
  cases iA (lk bl none) v with
  | none=>rfl
  | some x=>cases aK (iA (lk bl none)) cs <;> rfl
def OP (v:V) (bl:List (Nat × Option aI)) (k:D->List (Nat × Option aI)->Option β):Option β:=(iA (lk bl none) v).bind fun x=>k x (yX (lk bl none) v)
theorem aRl (x:D) (k:D->List (Nat × Option aI)->Option β):OP (.d x) bl k = k x []:=rfl
theorem aMS (k:D->List (Nat × Option aI)->Option β):OP .nil bl k = k (.sl []) []:=rfl
def d1B (id ver:Nat) (b:Option aI) (k:D->List (Nat × Option aI)->Option β):Option β:=match b with
 | some (.rows v _ _ rows)=>if ver = v then k (.sl rows) [(id,some (.froz v rows))] else none
 | some (.froz v rows)=>if ver = v then k (.sl rows) [] else none
 | _=>none
theorem aNu (id ver:Nat) (k:D->List (Nat × Option aI)->Option β):OP (.own id ver) bl k = aY bl id fun b=>d1B id ver b k:=by
 unfold OP aY d1B
 simp only [iA,yX,qF,HP]
 generalize lk bl none id = b
 cases b with
 | none=>rfl
 | some b=>cases b with
  | rows v e s rows=>simp only; by_cases h:ver = v <;> simp [h]
  | froz v rows=>simp only; by_cases h:ver = v <;> simp [h]
  | _=>rfl
theorem aKX (id v e s:Nat) (rows:List (List D)) (k:D->List (Nat × Option aI)->Option β):d1B id v (some (.rows v e s rows)) k = k (.sl rows) [(id,some (.froz v rows))]:=if_pos rfl
theorem aHf (id v:Nat) (rows:List (List D)) (k:D->List (Nat × Option aI)->Option β):d1B id v (some (.froz v rows)) k = k (.sl rows) []:=if_pos rfl
def sP (bl:List (Nat × Option aI)):List V->(List D->List (Nat × Option aI)->Option β)->Option β
 | [],k=>k [] []
 | v :: cs,k=>(qF (lk bl none) v).bind fun x=>sP bl cs fun ds f=>k (x :: ds) (HP (lk bl none) v ++ f)
theorem aEm (cs:List V) (k:List D->List (Nat × Option aI)->Option β):sP bl cs k = (aK (qF (lk bl none)) cs).bind fun ds=>k ds (cs.flatMap (HP (lk bl none))):=by
 induction cs generalizing k with
 | nil=>rfl
 | cons v cs ih =>
  simp only [sP,aK,ih,List.flatMap_cons]
  cases qF (lk bl none) v with
  | none=>rfl
  | some x=>cases aK (qF (lk bl none)) cs <;> rfl
theorem aB1 (k:List D->List (Nat × Option aI)->Option β):sP bl [] k = k [] []:=rfl
theorem aKp (x:D) (cs:List V) (k:List D->List (Nat × Option aI)->Option β):sP bl (.d x :: cs) k = sP bl cs fun ds f=>k (x :: ds) f:=rfl
theorem aHH (cs:List V) (k:List D->List (Nat × Option aI)->Option β):sP bl (.nil :: cs) k = sP bl cs fun ds f=>k (.sl [] :: ds) f:=rfl
theorem ZP (id ver:Nat) (cs:List V) (k:List D->List (Nat × Option aI)->Option β):sP bl (.own id ver :: cs) k = OP (.own id ver) bl fun x g=>sP bl cs fun ds f=>k (x :: ds) (g ++ f):=rfl
theorem IX (ds:List D) (k:List D->List (Nat × Option aI)->Option β):sP bl (aQ ds) k = k ds []:=by
 have:∀ (ds:List D) (k:List D->List (Nat × Option aI)->Option β),sP bl (aQ ds) k = k ds []:=by
  intro ds
  induction ds with
  | nil=>intro k; rfl
  | cons x ds ih=>intro k; show sP bl (aQ ds) _ = _; rw [ih]; rfl
 exact this ds k
def d1P (id off:Nat) (b:Option aI) (bl:List (Nat × Option aI)) (k:D->List (Nat × Option aI)->Option β):Option β:=match b with
 | some (.box cs)=>sP bl cs fun ds f=>k (.ptr ds off) ((id,some (.fbox ds)) :: f)
 | some (.fbox ds)=>k (.ptr ds off) []
 | _=>none
theorem aN3 (id off:Nat) (k:D->List (Nat × Option aI)->Option β):OP (.ptr id off) bl k = aY bl id fun b=>d1P id off b bl k:=by
 unfold OP aY d1P
 simp only [iA,yX]
 cases lk bl none id with
 | none=>rfl
 | some b=>cases b with
  | box cs =>
   simp only [aEm]
   cases aK (qF (lk bl none)) cs <;> rfl
  | _=>rfl
theorem aND (id off:Nat) (c:V) (cs:List V) (k:D->List (Nat × Option aI)->Option β):d1P id off (some (.box (c :: cs))) bl k = sP bl (c :: cs) fun ds f=>k (.ptr ds off) ((id,some (.fbox ds)) :: f):=rfl
theorem aAd (id off:Nat) (ds:List D) (k:D->List (Nat × Option aI)->Option β):d1P id off (some (.box (aQ ds))) bl k = k (.ptr ds off) [(id,some (.fbox ds))]:=by
 show sP bl (aQ ds) _ = _
 rw [IX]
theorem aK5 (id off:Nat) (ds:List D) (k:D->List (Nat × Option aI)->Option β):d1P id off (some (.fbox ds)) bl k = k (.ptr ds off) []:=rfl
theorem aF2 (id off:Nat) (cs:List V) (k:List D->List (Nat × Option aI)->Option β):vI bl (.ptr id off :: cs) k = OP (.ptr id off) bl fun x g=>vI bl cs fun ds f=>k (x :: ds) (g ++ f):=rfl
theorem aGi (k:List D->List (Nat × Option aI)->Option β):vI bl [] k = k [] []:=rfl
theorem aL8 (x:D) (cs:List V) (k:List D->List (Nat × Option aI)->Option β):vI bl (.d x :: cs) k = vI bl cs fun ds f=>k (x :: ds) f:=rfl
theorem aNN (cs:List V) (k:List D->List (Nat × Option aI)->Option β):vI bl (.nil :: cs) k = vI bl cs fun ds f=>k (.sl [] :: ds) f:=rfl
theorem aFg (id ver:Nat) (cs:List V) (k:List D->List (Nat × Option aI)->Option β):vI bl (.own id ver :: cs) k = OP (.own id ver) bl fun x g=>vI bl cs fun ds f=>k (x :: ds) (g ++ f):=rfl
theorem D0 (ds:List D) (k:List D->List (Nat × Option aI)->Option β):vI bl (aQ ds) k = k ds []:=by
 have:∀ (ds:List D) (k:List D->List (Nat × Option aI)->Option β),vI bl (aQ ds) k = k ds []:=by
  intro ds
  induction ds with
  | nil=>intro k; rfl
  | cons x ds ih=>intro k; show vI bl (aQ ds) _ = _; rw [ih]; rfl
 exact this ds k
def AB (v:V) (bl:List (Nat × Option aI)) (k:D->List (Nat × Option aI)->Option β):Option β:=(iB (lk bl none) v).bind fun x=>k x (u3 (lk bl none) v)
theorem aP5 (x:D) (k:D->List (Nat × Option aI)->Option β):AB (.d x) bl k = k x []:=rfl
theorem aKv (k:D->List (Nat × Option aI)->Option β):AB .nil bl k = k (.sl []) []:=rfl
theorem aJy (id ver:Nat) (k:D->List (Nat × Option aI)->Option β):AB (.own id ver) bl k = OP (.own id ver) bl k:=rfl
theorem aH6 (id off:Nat) (k:D->List (Nat × Option aI)->Option β):AB (.ptr id off) bl k = OP (.ptr id off) bl k:=rfl
theorem XQ (cs:List V) (k:D->List (Nat × Option aI)->Option β):AB (.agg cs) bl k = vI bl cs fun ds f=>k (.agg ds) f:=by
 rw [LH]
 show ((aK (iA (lk bl none)) cs).map D.agg).bind _ = _
 cases aK (iA (lk bl none)) cs <;> rfl
theorem aGv (ds:List D) (k:D->List (Nat × Option aI)->Option β):AB (kB ds) bl k = k (.agg ds) []:=by
 show AB (.agg (aQ ds)) bl k = _
 rw [XQ,D0]
theorem aPq (x:D) (k:List D->List (Nat × Option aI)->Option β):LG (.d x) bl k = k [x] []:=rfl
theorem VP (cs:List V) (k:List D->List (Nat × Option aI)->Option β):LG (.agg cs) bl k = vI bl cs k:=by
 rw [LH]
 show (match aK (iA (lk bl none)) cs with | some row=>k row (cs.flatMap (yX (lk bl none))) | none=>none) = _
 cases aK (iA (lk bl none)) cs <;> rfl
theorem aFf (ds:List D) (k:List D->List (Nat × Option aI)->Option β):LG (kB ds) bl k = k ds []:=by
 show LG (.agg (aQ ds)) bl k = _
 rw [VP,D0]
theorem aHP (k:List D->List (Nat × Option aI)->Option β):LG .nil bl k = k [.sl []] []:=rfl
theorem aKf (id ver:Nat) (k:List D->List (Nat × Option aI)->Option β):LG (.own id ver) bl k = OP (.own id ver) bl fun x f=>k [x] f:=by
 unfold LG OP
 show (match aK (iA (lk bl none)) [.own id ver] with | some row=>k row (yX (lk bl none) (.own id ver)) | none=>none) = _
 simp only [aK]
 cases iA (lk bl none) (.own id ver) <;> rfl
def YC (rs:List (List D)) (i:Nat) (row:List D) (k:List (List D)->Option β):Option β:=if i < rs.length then k (rs.set i row) else none
theorem aPO (r:List D) (rs:List (List D)) (row:List D) (k:List (List D)->Option β):YC (r :: rs) 0 row k = k (row :: rs):=by simp [YC]
theorem aPS (r:List D) (rs:List (List D)) (i:Nat) (row:List D) (k:List (List D)->Option β):YC (r :: rs) (i + 1) row k = YC rs i row fun l=>k (r :: l):=by
 unfold YC
 simp only [List.length_cons,List.set_cons_succ]
 by_cases h:i < rs.length
 ·rw [if_pos h,if_pos (by omega)]
 ·rw [if_neg h,if_neg (by omega)]
def bsF (fr:List (Nat × V)) (bl:List (Nat × Option aI)) (size:Nat) (rs:List (List D)):List (Nat × bD)->List (Nat × Option aI)->(List (List D)->List (Nat × Option aI)->Option β)->Option β
 | [],wr,k=>k rs wr
 | (i,x) :: r,wr,k=>bM fr x fun v=>LG v bl fun row f=>rS row size (YC rs i row fun rs'=>bsF fr bl size rs' r (wr ++ f) k)
theorem aMT (size:Nat) (rs:List (List D)) (wr:List (Nat × Option aI)) (k:List (List D)->List (Nat × Option aI)->Option β):bsF fr bl size rs [] wr k = k rs wr:=rfl
theorem aGQ (size:Nat) (rs:List (List D)) (i:Nat) (x:bD) (r:List (Nat × bD)) (wr:List (Nat × Option aI)) (k:List (List D)->List (Nat × Option aI)->Option β):bsF fr bl size rs ((i,x) :: r) wr k = bM fr x fun v=>LG v bl fun row f=>rS row size (YC rs i row fun rs'=>bsF fr bl size rs' r (wr ++ f) k):=rfl
theorem aQ2 (size:Nat) (parts:List (Nat × bD)):∀ (rs:List (List D)) (wr:List (Nat × Option aI)) (k:List (List D)->List (Nat × Option aI)->Option β),bsF fr bl size rs parts wr k = (kC (lk bl none) size rs (parts.map fun p=>(p.1,bC (lk fr .any) p.2))).bind fun rs'=>k rs' (wr ++ parts.flatMap fun p=>u3 (lk bl none) (bC (lk fr .any) p.2)):=by
 induction parts with
 | nil=>intro rs wr k; simp [bsF,kC]
 | cons p r ih =>
  intro rs wr k
  obtain ⟨i,x⟩:=p
  simp only [bsF,bM,LG,List.map_cons,kC,List.flatMap_cons]
  cases aK (iA (lk bl none)) (bC (lk fr .any) x).cells with
  | none=>rfl
  | some row =>
   simp only [rS,YC]
   by_cases h1:row.length = size
   ·by_cases h2:i < rs.length
    ·rw [if_pos h1,if_pos h2,if_pos ⟨h1,h2⟩,ih,List.append_assoc]
    ·rw [if_pos h1,if_neg h2,if_neg (fun q=>h2 q.2)]; rfl
   ·rw [if_neg h1,if_neg (fun q=>h1 q.1)]; rfl
theorem PH (e size n:Nat) (z:List D) (parts:List (Nat × bD)):qL T d (.buildSlice e size z n parts) fr bl k kw = aY bl d fun b=>fK b (bsF fr bl size (List.replicate n z) parts [] fun rows wr=>OH e rows fun rows=>kw (.own d 0) ((d,some (.rows 0 e size rows)) :: wr)):=by
 rw [iH]
 unfold aY fK OH
 simp only [bZ,aQ2,List.nil_append]
 cases lk bl none d with
 | some b=>rfl
 | none =>
  simp only
  have e1:(parts.map fun x=>match x with | (i,x)=>(i,bC (lk fr .any) x)) = parts.map fun p=>(p.1,bC (lk fr .any) p.2):=rfl
  have e2:(parts.flatMap fun x=>match x with | (_,x)=>u3 (lk bl none) (bC (lk fr .any) x)) = parts.flatMap fun p=>u3 (lk bl none) (bC (lk fr .any) p.2):=rfl
  rw [e1,e2]
  cases kC (lk bl none) size (List.replicate n z) (parts.map fun p=>(p.1,bC (lk fr .any) p.2)) <;> rfl
theorem RA {α:Type} (e size bytes:Nat) (z:List D) (c:α->List D) (x:α) (hz:z = c x) (l cp:bD):qL T d (.makeSlice e size bytes z l cp) fr bl k kw = aY bl d fun b=>fK b (bM fr l fun a=>bM fr cp fun b=>match a,b with
   | .d (.int _ n),.d (.int _ m)=>if 0 <= n ∧ n <= m ∧ (bytes:Int) * m <= 281474976710656 ∧ m <= 9223372036854775807 then kw (.own d 0) [(d,some (.rows 0 e size (cM c (List.replicate n.toNat x))))] else none
   | _,_=>none):=by
 subst hz
 rw [iH]
 unfold aY fK bM
 simp only [bZ,VG]
 generalize bC (lk fr .any) l = a
 generalize bC (lk fr .any) cp = b
 cases lk bl none d with
 | some b=>rfl
 | none =>
  simp only
  split
  ·rename_i n _ m
   simp only
   by_cases h:0 <= n ∧ n <= m ∧ (bytes:Int) * m <= 281474976710656 ∧ m <= 9223372036854775807
   ·rw [if_pos h,if_pos h]; rfl
   ·rw [if_neg h,if_neg h]; rfl
  ·rename_i h
   split
   ·rename_i n _ m
    exact absurd rfl (h _ _ _ _ rfl)
   ·rfl
def NS (fr:List (Nat × V)) (bl:List (Nat × Option aI)):List bD->(List D->List (Nat × Option aI)->Option β)->Option β
 | [],k=>k [] []
 | x :: l,k=>bM fr x fun v=>AB v bl fun y f=>NS fr bl l fun ds g=>k (y :: ds) (f ++ g)
theorem aD2 (k:List D->List (Nat × Option aI)->Option β):NS fr bl [] k = k [] []:=rfl
theorem ZY (x:bD) (l:List bD) (k:List D->List (Nat × Option aI)->Option β):NS fr bl (x :: l) k = bM fr x fun v=>AB v bl fun y f=>NS fr bl l fun ds g=>k (y :: ds) (f ++ g):=rfl
theorem Y8 (l:List bD) (k:List D->List (Nat × Option aI)->Option β):NS fr bl l k = (aK (fun x=>iB (lk bl none) (bC (lk fr .any) x)) l).bind fun ds=>k ds (l.flatMap fun x=>u3 (lk bl none) (bC (lk fr .any) x)):=by
 induction l generalizing k with
 | nil=>rfl
 | cons x l ih =>
  simp only [NS,bM,AB,aK,ih,List.flatMap_cons]
  cases iB (lk bl none) (bC (lk fr .any) x) with
  | none=>rfl
  | some y=>cases aK (fun x=>iB (lk bl none) (bC (lk fr .any) x)) l <;> rfl
def fzK (fz:List (Nat × Option aI)) (v:V) (k:V->Option β) (kw:V->List (Nat × Option aI)->Option β):Option β:=match fz with
 | []=>k v
 | p :: w=>kw v (p :: w)
theorem aLf (v:V):fzK [] v k kw = k v:=rfl
theorem aQu (l:List (Nat × Option aI)) (v:V):fzK ([] ++ l) v k kw = fzK l v k kw:=rfl
theorem aQC (p:Nat × Option aI) (w l:List (Nat × Option aI)) (v:V):fzK ((p :: w) ++ l) v k kw = kw v ((p :: w) ++ l):=rfl
theorem aKm (p:Nat × Option aI) (w:List (Nat × Option aI)) (v:V):fzK (p :: w) v k kw = kw v (p :: w):=rfl
noncomputable def wC (T:vA) (d:Nat) (bl:List (Nat × Option aI)) (f:Nat) (ds:List D) (fz:List (Nat × Option aI)) (k:V->Option β) (kw:V->List (Nat × Option aI)->Option β):Option β:=match call T f ds with
 | none=>none
 | some r=>DH (nK d (lk bl none) fz r) k kw
theorem aKr (f:Nat) (args:List bD):qL T d (.call f args) fr bl k kw = NS fr bl args fun ds fz=>wC T d bl f ds fz k kw:=by
 rw [iH,Y8]
 simp only [bZ]
 cases aK (fun x=>iB (lk bl none) (bC (lk fr .any) x)) args with
 | none=>rfl
 | some ds =>
  simp only [Option.bind_some,wC]
  cases call T f ds <;> rfl
def D.calm:D->Bool
 | .own _ _ _=>false
 | _=>true
theorem aCy {x:D} (h:x.calm = true):∀ y es rs,x ≠ .own y es rs:=fun y es rs e=>by rw [e] at h; cases h
theorem aD8 {x:D} (h:GM x = true):x.calm = true:=by cases x <;> first | rfl | cases h
theorem aA9 {α:Type} {f:Nat} {ds:List D} {o:Option α} {enc:α->D} (h:call T f ds = o.map enc) (hf:∀ x,GM (enc x) = true) (fz:List (Nat × Option aI)):wC T d bl f ds fz k kw = o.bind fun x=>k (toV (enc x)):=by
 unfold wC
 rw [h]
 cases o with
 | none=>rfl
 | some x=>simp only [Option.map_some,Option.bind_some]; rw [DW (aCy (aD8 (hf x))),if_pos (hf x)]; rfl
theorem aBl {α:Type} {f:Nat} {ds:List D} {o:Option α} {enc:α->D} (h:call T f ds = o.map enc) (hf:∀ x,GM (enc x) = false) (hc:∀ x,(enc x).calm = true) (fz:List (Nat × Option aI)):wC T d bl f ds fz k kw = o.bind fun x=>fzK fz (toV (enc x)) k kw:=by
 unfold wC
 rw [h]
 cases o with
 | none=>rfl
 | some x=>simp only [Option.map_some,Option.bind_some]; rw [DW (aCy (hc x)),if_neg (by rw [hf x]; decide)]; cases fz <;> rfl
def WO (bl:List (Nat × Option aI)):List (Nat × Option aI)->Option β->Option β
 | [],x=>x
 | (i,_) :: l,x=>aY bl i fun b=>fK b (WO bl l x)
theorem OX (bl:List (Nat × Option aI)) (x:Option β):∀ (l:List (Nat × Option aI)),WO bl l x = if KZ (lk bl none) l = true then x else none
 | []=>rfl
 | (i,b) :: l=>by
  cases h:lk bl none i <;> simp [WO,KZ,aY,fK,OX bl x l,h]
theorem C5 {α:Type} {f:Nat} {ds:List D} {o:Option α} {y:α->D} {p:Nat × Nat} {es:List (Nat × Nat)} {r:α->List (List D)} {rs:α->List (List (List D))} (h:call T f ds = o.map fun x=>.own (y x) (p :: es) (r x :: rs x)) (fz:List (Nat × Option aI)) :
  wC T d bl f ds fz k kw = o.bind fun x=>WO bl (fA d 0 (p :: es) (r x :: rs x)) (kw (thaw d (y x)) (fA d 0 (p :: es) (r x :: rs x) ++ fz)):=by
 unfold wC
 rw [h]
 cases o with
 | none=>rfl
 | some x =>
  simp only [Option.map_some,Option.bind_some,nK,OX]
  split
  ·obtain ⟨e,s⟩:=p; rfl
  ·rfl
def PY (fr:List (Nat × V)) (bl:List (Nat × Option aI)):List bD->(List D->List (Nat × Option aI)->Option β)->Option β
 | [],k=>k [] []
 | x :: l,k=>bM fr x fun v=>OP v bl fun y f=>PY fr bl l fun ds g=>k (y :: ds) (f ++ g)
theorem aEO (k:List D->List (Nat × Option aI)->Option β):PY fr bl [] k = k [] []:=rfl
theorem aCi (x:bD) (l:List bD) (k:List D->List (Nat × Option aI)->Option β):PY fr bl (x :: l) k = bM fr x fun v=>OP v bl fun y f=>PY fr bl l fun ds g=>k (y :: ds) (f ++ g):=rfl
theorem aKk (l:List bD) (k:List D->List (Nat × Option aI)->Option β):PY fr bl l k = (aK (fun x=>iA (lk bl none) (bC (lk fr .any) x)) l).bind fun ds=>k ds (l.flatMap fun x=>yX (lk bl none) (bC (lk fr .any) x)):=by
 induction l generalizing k with
 | nil=>rfl
 | cons x l ih =>
  simp only [PY,bM,OP,aK,ih,List.flatMap_cons]
  cases iA (lk bl none) (bC (lk fr .any) x) with
  | none=>rfl
  | some y=>cases aK (fun x=>iA (lk bl none) (bC (lk fr .any) x)) l <;> rfl
theorem aGS (f:Nat) (caps:List bD):qL T d (.mkfn f caps) fr bl k kw = PY fr bl caps fun ds fz=>fzK fz (.d (.fn f ds)) k kw:=by
 rw [iH,aKk]
 simp only [bZ]
 cases aK (fun x=>iA (lk bl none) (bC (lk fr .any) x)) caps with
 | none=>rfl
 | some ds =>
  simp only [Option.bind_some]
  cases caps.flatMap fun x=>yX (lk bl none) (bC (lk fr .any) x) <;> rfl
def NW (fr:List (Nat × V)) (bl:List (Nat × Option aI)) (caps:List D):List bD->(List D->List (Nat × Option aI)->Option β)->Option β
 | [],k=>k caps []
 | x :: l,k=>bM fr x fun v=>AB v bl fun y f=>NW fr bl caps l fun ds g=>k (y :: ds) (f ++ g)
theorem aDN (caps:List D) (k:List D->List (Nat × Option aI)->Option β):NW fr bl caps [] k = k caps []:=rfl
theorem aBo (caps:List D) (x:bD) (l:List bD) (k:List D->List (Nat × Option aI)->Option β):NW fr bl caps (x :: l) k = bM fr x fun v=>AB v bl fun y f=>NW fr bl caps l fun ds g=>k (y :: ds) (f ++ g):=rfl
theorem aHq (caps:List D) (l:List bD) (k:List D->List (Nat × Option aI)->Option β):NW fr bl caps l k = (aK (fun x=>iB (lk bl none) (bC (lk fr .any) x)) l).bind fun ds=>k (ds ++ caps) (l.flatMap fun x=>u3 (lk bl none) (bC (lk fr .any) x)):=by
 induction l generalizing k with
 | nil=>rfl
 | cons x l ih =>
  simp only [NW,bM,AB,aK,ih,List.flatMap_cons]
  cases iB (lk bl none) (bC (lk fr .any) x) with
  | none=>rfl
  | some y=>cases aK (fun x=>iB (lk bl none) (bC (lk fr .any) x)) l <;> rfl
noncomputable def Z5 (T:vA) (d:Nat) (v:V) (args:List bD) (fr:List (Nat × V)) (bl:List (Nat × Option aI)) (k:V->Option β) (kw:V->List (Nat × Option aI)->Option β):Option β:=match v with
 | .d (.fn f caps)=>NW fr bl caps args fun ds fz=>wC T d bl f ds fz k kw
 | _=>none
theorem aKC (f:Nat) (caps:List D) (args:List bD):Z5 T d (.d (.fn f caps)) args fr bl k kw = NW fr bl caps args fun ds fz=>wC T d bl f ds fz k kw:=rfl
theorem aFc (g:bD) (args:List bD):qL T d (.callv g args) fr bl k kw = bM fr g fun v=>Z5 T d v args fr bl k kw:=by
 rw [iH]
 unfold bM
 simp only [bZ]
 generalize bC (lk fr .any) g = v
 cases v with
 | d x=>cases x with
  | fn f caps =>
   simp only [Z5,aHq]
   cases aK (fun x=>iB (lk bl none) (bC (lk fr .any) x)) args with
   | none=>rfl
   | some ds =>
    simp only [Option.bind_some,wC]
    cases call T f (ds ++ caps) <;> rfl
  | _=>rfl
 | _=>rfl
def aQ3 (v:V) (i:Nat) (k:V->Option β):Option β:=match v with
 | .tup vs=>BM vs i k
 | _=>none
theorem WD (x:bD) (i:Nat):qL T d (.extract x i) fr bl k kw = bM fr x fun v=>aQ3 v i k:=by
 unfold qL bM
 simp only [bZ]
 generalize bC (lk fr .any) x = v
 cases v with
 | tup vs=>simp only [aQ3,LN]; cases vs[i]? <;> rfl
 | _=>rfl
theorem aQa (vs:List V) (i:Nat):aQ3 (.tup vs) i k = BM vs i k:=rfl
def sZ (m:sD) (fr:List (Nat × V)) (bl:List (Nat × Option aI)) (k:List (Nat × V)->List (Nat × Option aI)->Option β):Option β:=k (m.app ⟨fr,bl⟩).fr (m.app ⟨fr,bl⟩).bl
theorem aNT {k:Ex->St->Option β} (m:sD) (a:aH):bR T (.pre m a) ⟨fr,bl⟩ k = sZ m fr bl fun fr' bl'=>bR T a ⟨fr',bl'⟩ k:=by
 rw [aMP]; rfl
theorem aM0 {k:Ex->St->Option β} (m:sD):VZ m k .normal ⟨fr,bl⟩ = sZ m fr bl fun fr' bl'=>k .normal ⟨fr',bl'⟩:=by
 rw [aMV]; rfl
def oB (keep:List Nat) (bl:List (Nat × Option aI)) (v:V) (k:V->Option β):Option β:=k (FC keep (lk bl none) v)
def P9 (keep:List Nat) (fr:List (Nat × V)) (bl:List (Nat × Option aI)):List Nat->(List (Nat × V)->Option β)->Option β
 | [],k=>k []
 | t :: r,k=>gZ fr t fun v=>oB keep bl v fun v'=>P9 keep fr bl r fun l=>k ((t,v') :: l)
theorem aI7 (keep l:List Nat):∀ (k:List (Nat × V)->Option β),P9 keep fr bl l k = k (l.map fun t=>(t,FC keep (lk bl none) (lk fr .any t))):=by
 induction l with
 | nil=>intro k; rfl
 | cons t l ih=>intro k; simp only [P9,gZ,oB,ih,List.map_cons]
def wG (keep:List Nat) (bl:List (Nat × Option aI)) (b:Option aI) (k:Option aI->Option β):Option β:=k (b.bind (BA keep (lk bl none)))
def PM (keep:List Nat) (bl:List (Nat × Option aI)):List Nat->(List (Nat × Option aI)->Option β)->Option β
 | [],k=>k []
 | i :: r,k=>aY bl i fun b=>wG keep bl b fun b'=>PM keep bl r fun l=>k ((i,b') :: l)
theorem aHZ (keep l:List Nat):∀ (k:List (Nat × Option aI)->Option β),PM keep bl l k = k (l.map fun i=>(i,(lk bl none i).bind (BA keep (lk bl none)))):=by
 induction l with
 | nil=>intro k; rfl
 | cons t l ih=>intro k; simp only [PM,aY,wG,ih,List.map_cons]
theorem aE5 (keep:List Nat) (k:List (Nat × V)->Option β):P9 keep fr bl [] k = k []:=rfl
theorem ZV (keep:List Nat) (t:Nat) (r:List Nat) (k:List (Nat × V)->Option β):P9 keep fr bl (t :: r) k = gZ fr t fun v=>oB keep bl v fun v'=>P9 keep fr bl r fun l=>k ((t,v') :: l):=rfl
theorem aEq (keep:List Nat) (k:List (Nat × Option aI)->Option β):PM keep bl [] k = k []:=rfl
theorem aAy (keep:List Nat) (i:Nat) (r:List Nat) (k:List (Nat × Option aI)->Option β):PM keep bl (i :: r) k = aY bl i fun b=>wG keep bl b fun b'=>PM keep bl r fun l=>k ((i,b') :: l):=rfl
theorem aNg (live keep:List Nat) (k:List (Nat × V)->List (Nat × Option aI)->Option β):sZ ⟨live,keep,[],[],[],[]⟩ fr bl k = P9 keep fr bl live fun fr'=>PM keep bl keep fun bl'=>k fr' bl':=by
 rw [aI7,aHZ]; rfl
def eV (keep:List Nat) (i:Nat) (x y:Option β):Option β:=if keep.contains i = true then x else y
theorem Q4 (i:Nat) (x y:Option β):eV [] i x y = y:=rfl
theorem RP (i:Nat) (r:List Nat) (x y:Option β):eV (i :: r) i x y = x:=by simp [eV]
theorem QB (a i:Nat) (r:List Nat) (x y:Option β) (h:(i == a) = false):eV (a :: r) i x y = eV r i x y:=by
 unfold eV
 rw [List.contains_cons,h,Bool.false_or]
section
variable (keep:List Nat)
theorem aM6 (x:D):oB keep bl (.d x) k = k (.d x):=rfl
theorem aGA:oB keep bl .nil k = k .nil:=rfl
theorem aL7:oB keep bl (.tup []) k = k (.tup []):=rfl
theorem aGy:oB keep bl .any k = k .any:=rfl
def PV (keep:List Nat) (id off:Nat) (b:Option aI) (k:V->Option β):Option β:=match b with
 | some (.box _)=>eV keep id (k (.ptr id off)) (k .any)
 | some (.fbox ds)=>k (.d (.ptr ds off))
 | _=>k .any
theorem aCc (id off:Nat) (cs:List V):PV keep id off (some (.box cs)) k = eV keep id (k (.ptr id off)) (k .any):=rfl
theorem WK (id off:Nat) (ds:List D):PV keep id off (some (.fbox ds)) k = k (.d (.ptr ds off)):=rfl
theorem YP (id off:Nat):PV keep id off none k = k .any:=rfl
theorem aEh (id off:Nat):oB keep bl (.ptr id off) k = aY bl id fun b=>PV keep id off b k:=by
 unfold oB aY PV
 simp only [FC,NV,rT]
 generalize lk bl none id = b
 cases b with
 | none=>rfl
 | some b=>cases b with
  | box cs=>simp only [eV]; split <;> rfl
  | _=>rfl
def G5 (id ver:Nat) (b:Option aI) (k:V->Option β):Option β:=match b with
 | some (.rows v _ _ _)=>if (ver == v) = true then eV keep id (k (.own id 0)) (k .any) else k .any
 | some (.froz v rows)=>if ver = v then k (.d (.sl rows)) else k .any
 | _=>k .any
theorem aFl (id ver:Nat):oB keep bl (.own id ver) k = aY bl id fun b=>G5 keep id ver b k:=by
 unfold oB aY G5 eV
 simp only [FC,NV,rT]
 generalize lk bl none id = b
 cases b with
 | none=>rfl
 | some b=>cases b with
  | rows v e s rows=>simp only; cases (ver == v) <;> cases keep.contains id <;> rfl
  | froz v rows=>simp only; split <;> rfl
  | _=>rfl
theorem XO (id v e s:Nat) (rows:List (List D)):G5 keep id v (some (.rows v e s rows)) k = eV keep id (k (.own id 0)) (k .any):=by simp [G5]
theorem aBP (id ver v e s:Nat) (rows:List (List D)) (h:(ver == v) = false):G5 keep id ver (some (.rows v e s rows)) k = k .any:=by simp [G5,h]
theorem W5 (id v:Nat) (rows:List (List D)):G5 keep id v (some (.froz v rows)) k = k (.d (.sl rows)):=if_pos rfl
theorem YK (id v:Nat):G5 keep id v none k = k .any:=rfl
def MP (id ver i off:Nat) (b:Option aI) (k:V->Option β):Option β:=match b with
 | some (.rows v _ _ _)=>if (ver == v) = true then eV keep id (k (.orow id 0 i off)) (k .any) else k .any
 | _=>k .any
theorem aBb (id ver i off:Nat):oB keep bl (.orow id ver i off) k = aY bl id fun b=>MP keep id ver i off b k:=by
 unfold oB aY MP eV
 simp only [FC,NV,rT]
 generalize lk bl none id = b
 cases b with
 | none=>rfl
 | some b=>cases b with
  | rows v e s rows=>simp only; cases (ver == v) <;> cases keep.contains id <;> rfl
  | _=>rfl
theorem Y4 (id v i off e s:Nat) (rows:List (List D)):MP keep id v i off (some (.rows v e s rows)) k = eV keep id (k (.orow id 0 i off)) (k .any):=by simp [MP]
theorem aBL (id ver v i off e s:Nat) (rows:List (List D)) (h:(ver == v) = false):MP keep id ver i off (some (.rows v e s rows)) k = k .any:=by simp [MP,h]
def qB (keep:List Nat) (bl:List (Nat × Option aI)):List V->(List V->Option β)->Option β
 | [],k=>k []
 | v :: cs,k=>k (rT keep (lk bl none) v :: cs.map (rT keep (lk bl none)))
theorem rI (cs:List V) (k:List V->Option β):qB keep bl cs k = k (cs.map (rT keep (lk bl none))):=by cases cs <;> rfl
theorem ZN (k:List V->Option β):qB keep bl [] k = k []:=rfl
theorem aGO (x:D) (cs:List V) (k:List V->Option β):qB keep bl (.d x :: cs) k = qB keep bl cs fun l=>k (.d x :: l):=by simp only [rI]; rfl
theorem aJk (cs:List V) (k:List V->Option β):qB keep bl (.nil :: cs) k = qB keep bl cs fun l=>k (.nil :: l):=by simp only [rI]; rfl
theorem Z3 (cs:List V) (k:List V->Option β):qB keep bl (.any :: cs) k = qB keep bl cs fun l=>k (.any :: l):=by simp only [rI]; rfl
theorem aBH (id ver:Nat) (cs:List V) (k:List V->Option β):qB keep bl (.own id ver :: cs) k = oB keep bl (.own id ver) fun v=>qB keep bl cs fun l=>k (v :: l):=by simp only [rI]; rfl
theorem aBZ (id off:Nat) (cs:List V) (k:List V->Option β):qB keep bl (.ptr id off :: cs) k = oB keep bl (.ptr id off) fun v=>qB keep bl cs fun l=>k (v :: l):=by simp only [rI]; rfl
theorem aDy (cs:List V):oB keep bl (.agg cs) k = qB keep bl cs fun l=>k (.agg l):=by rw [rI]; rfl
theorem K2 (ds:List D) (b:Nat->Option aI):(aQ ds).map (rT keep b) = aQ ds:=by
 induction ds with
 | nil=>rfl
 | cons x ds ih=>show rT keep b (.d x) :: (aQ ds).map (rT keep b) = _; rw [ih]; rfl
theorem aBK (ds:List D):oB keep bl (kB ds) k = k (kB ds):=by
 show k (.agg ((aQ ds).map (rT keep (lk bl none)))) = _
 rw [K2]; rfl
theorem YX (k:Option aI->Option β):wG keep bl none k = k none:=rfl
theorem aAX (c:V) (cs:List V) (k:Option aI->Option β):wG keep bl (some (.box (c :: cs))) k = qB keep bl (c :: cs) fun l=>k (some (.box l)):=by rw [rI]; rfl
theorem YR (k:Option aI->Option β):wG keep bl (some (.box [])) k = k (some (.box [])):=rfl
theorem RJ (ds:List D) (k:Option aI->Option β):wG keep bl (some (.box (aQ ds))) k = k (some (.box (aQ ds))):=by
 show k (some (.box ((aQ ds).map (rT keep (lk bl none))))) = _
 rw [K2]
theorem WH (v e s:Nat) (rows:List (List D)) (k:Option aI->Option β):wG keep bl (some (.rows v e s rows)) k = k (some (.rows 0 e s rows)):=rfl
theorem VX (ds:List D) (k:Option aI->Option β):wG keep bl (some (.fbox ds)) k = k none:=rfl
theorem XD (v:Nat) (rows:List (List D)) (k:Option aI->Option β):wG keep bl (some (.froz v rows)) k = k none:=rfl
end
def aLe (res:List jI):Ex->St->Option D
 | .normal,s=>match aK (sC s) res with
  | none=>none
  | some [v]=>iB s.blk v
  | some vs=>toD s.blk (.tup vs)
 | .ret,s=>match aK (sC s) res with
  | none=>none
  | some [v]=>iB s.blk v
  | some vs=>toD s.blk (.tup vs)
 | .exit _,_=>none
def IL (fr:List (Nat × V)) (bl:List (Nat × Option aI)):List jI->(List D->Option D)->Option D
 | [],k=>k []
 | .tmp t :: r,k=>gZ fr t fun v=>AB v bl fun x _=>IL fr bl r fun l=>k (x :: l)
 | .cell t size isAgg :: r,k=>gZ fr t fun p=>xL size isAgg p bl fun v=>AB v bl fun x _=>IL fr bl r fun l=>k (x :: l)
def LM:List D->Option D
 | [x]=>some x
 | l=>some (.tup l)
theorem P3 (size:Nat) (a:Bool) (p:V):xL size a p bl k = (LA size a p (lk bl none)).bind fun r=>k r.1:=by
 have h:=Y1 (T:=fun _=>none) (d:=0) (fr:=[]) (bl:=bl) (k:=k) (kw:=fun v _=>k v) size a (.c p)
 have e:bM [] (.c p) (fun v=>xL size a v bl k) = xL size a p bl k:=rfl
 rw [← e,← h,iH,FY]
 show DH (LA size a p (lk bl none)) k (fun v _=>k v) = _
 cases LA size a p (lk bl none) with
 | none=>rfl
 | some r=>obtain ⟨v,wr⟩:=r; cases wr <;> rfl
theorem BP (fr:List (Nat × V)) (bl:List (Nat × Option aI)):St.blk ⟨fr,bl⟩ = lk bl none:=rfl
theorem aMs (res:List jI):∀ (k:List D->Option D),IL fr bl res k = (aK (sC ⟨fr,bl⟩) res).bind fun vs=>(aK (iB (lk bl none)) vs).bind k:=by
 induction res with
 | nil=>intro k; rfl
 | cons r res ih =>
  intro k
  cases r with
  | tmp t =>
   simp only [IL,gZ,AB,ih,aK,sC,B7,BP]
   cases h1:aK (sC ⟨fr,bl⟩) res with
   | none =>
    simp only [Option.bind_none]
    cases iB (lk bl none) (lk fr .any t) <;> rfl
   | some vs =>
    simp only [Option.bind_some,aK]
    cases iB (lk bl none) (lk fr .any t) with
    | none=>rfl
    | some x=>cases aK (iB (lk bl none)) vs <;> rfl
  | cell t size isAgg =>
   simp only [IL,gZ,P3,AB,ih,aK,sC,FY,B7,BP]
   cases LA size isAgg (lk fr .any t) (lk bl none) with
   | none=>rfl
   | some q =>
    obtain ⟨v,wr⟩:=q
    simp only [Option.bind_some]
    cases h1:aK (sC ⟨fr,bl⟩) res with
    | none =>
     simp only [Option.bind_none]
     cases iB (lk bl none) v <;> rfl
    | some vs =>
     simp only [Option.bind_some,aK]
     cases iB (lk bl none) v with
     | none=>rfl
     | some x=>cases aK (iB (lk bl none)) vs <;> rfl
theorem UB (res:List jI):(match aK (sC ⟨fr,bl⟩) res with
  | none=>none
  | some [v]=>iB (lk bl none) v
  | some vs=>toD (lk bl none) (.tup vs)) = IL fr bl res LM:=by
 rw [aMs]
 cases aK (sC ⟨fr,bl⟩) res with
 | none=>rfl
 | some vs =>
  simp only [Option.bind_some]
  cases vs with
  | nil=>rfl
  | cons v vs =>
   cases vs with
   | nil =>
    simp only [aK]
    cases iB (lk bl none) v <;> rfl
   | cons w ws =>
    show (aK (iB (lk bl none)) (v :: w :: ws)).map D.tup = _
    simp only [aK]
    cases iB (lk bl none) v with
    | none=>rfl
    | some x=>cases iB (lk bl none) w with
     | none=>rfl
     | some y=>cases aK (iB (lk bl none)) ws <;> rfl
theorem aPQ (res:List jI):aLe res .normal ⟨fr,bl⟩ = IL fr bl res LM:=UB res
theorem aPX (res:List jI):aLe res .ret ⟨fr,bl⟩ = IL fr bl res LM:=UB res
theorem aPD (res:List jI) (i:Nat) (s:St):aLe res (.exit i) s = none:=rfl
theorem aJz (k:List D->Option D):IL fr bl [] k = k []:=rfl
theorem aHQ (t:Nat) (r:List jI) (k:List D->Option D):IL fr bl (.tmp t :: r) k = gZ fr t fun v=>AB v bl fun x _=>IL fr bl r fun l=>k (x :: l):=rfl
theorem aEe (t size:Nat) (isAgg:Bool) (r:List jI) (k:List D->Option D):IL fr bl (.cell t size isAgg :: r) k = gZ fr t fun p=>xL size isAgg p bl fun v=>AB v bl fun x _=>IL fr bl r fun l=>k (x :: l):=rfl
theorem aM1 (x:D):LM [x] = some x:=rfl
theorem aNz (x y:D) (l:List D):LM (x :: y :: l) = some (.tup (x :: y :: l)):=rfl
theorem bH {T:vA} {f np nt:Nat} {res:List jI} {body:aH} (hf:T f = some (.code ⟨np,nt,res,body,false,false⟩)) (ds:List D) (hl:ds.length = np) (hlt:iU 0 ds = none):Vm.call T f ds = bR T body ⟨m6 0 ds,[]⟩ (aLe res):=by
 rw [ZF hf ds hl hlt]
 unfold bR
 cases Vm.ev T body ⟨m6 0 ds,[]⟩ with
 | none=>rfl
 | some q =>
  obtain ⟨e,s⟩:=q
  cases e <;> rfl
def XB:List V->V
 | [v]=>v
 | vs=>.tup vs
def MK (fr:List (Nat × V)) (bl:List (Nat × Option aI)):List jI->(List V->Option D)->Option D
 | [],k=>k []
 | .tmp t :: r,k=>gZ fr t fun v=>MK fr bl r fun l=>k (v :: l)
 | .cell t size isAgg :: r,k=>gZ fr t fun p=>xL size isAgg p bl fun v=>MK fr bl r fun l=>k (v :: l)
theorem aLx (res:List jI):∀ (k:List V->Option D),MK fr bl res k = (aK (sC ⟨fr,bl⟩) res).bind k:=by
 induction res with
 | nil=>intro k; rfl
 | cons r res ih =>
  intro k
  cases r with
  | tmp t =>
   simp only [MK,gZ,ih,aK,sC,B7]
   cases aK (sC ⟨fr,bl⟩) res <;> rfl
  | cell t size isAgg =>
   simp only [MK,gZ,P3,ih,aK,sC,FY,B7,BP]
   cases LA size isAgg (lk fr .any t) (lk bl none) with
   | none=>rfl
   | some q =>
    obtain ⟨v,wr⟩:=q
    simp only [Option.bind_some]
    cases aK (sC ⟨fr,bl⟩) res <;> rfl
def aK8 (res:List jI):Ex->St->Option D
 | .normal,s=>match aK (sC s) res with
  | none=>none
  | some [v]=>tH s.blk v
  | some vs=>tH s.blk (.tup vs)
 | .ret,s=>match aK (sC s) res with
  | none=>none
  | some [v]=>tH s.blk v
  | some vs=>tH s.blk (.tup vs)
 | .exit _,_=>none
theorem aCZ (res:List jI):(match aK (sC ⟨fr,bl⟩) res with
  | none=>none
  | some [v]=>tH (lk bl none) v
  | some vs=>tH (lk bl none) (.tup vs)) = MK fr bl res fun vs=>tH (lk bl none) (XB vs):=by
 rw [aLx]
 cases aK (sC ⟨fr,bl⟩) res with
 | none=>rfl
 | some vs =>
  cases vs with
  | nil=>rfl
  | cons v vs=>cases vs <;> rfl
theorem aPA (res:List jI):aK8 res .normal ⟨fr,bl⟩ = MK fr bl res fun vs=>tH (lk bl none) (XB vs):=aCZ res
theorem aPH (res:List jI):aK8 res .ret ⟨fr,bl⟩ = MK fr bl res fun vs=>tH (lk bl none) (XB vs):=aCZ res
theorem aQG (res:List jI) (i:Nat) (s:St):aK8 res (.exit i) s = none:=rfl
theorem aJr (k:List V->Option D):MK fr bl [] k = k []:=rfl
theorem aKH (t:Nat) (r:List jI) (k:List V->Option D):MK fr bl (.tmp t :: r) k = gZ fr t fun v=>MK fr bl r fun l=>k (v :: l):=rfl
theorem aDJ (t size:Nat) (isAgg:Bool) (r:List jI) (k:List V->Option D):MK fr bl (.cell t size isAgg :: r) k = gZ fr t fun p=>xL size isAgg p bl fun v=>MK fr bl r fun l=>k (v :: l):=rfl
theorem aLh (x:V):XB [x] = x:=rfl
theorem aMt (x y:V) (l:List V):XB (x :: y :: l) = .tup (x :: y :: l):=rfl
theorem LQ {T:vA} {f np nt:Nat} {res:List jI} {body:aH} (hf:T f = some (.code ⟨np,nt,res,body,true,false⟩)) (ds:List D) (hl:ds.length = np) (hlt:iU 0 ds = none):Vm.call T f ds = bR T body ⟨m6 0 ds,[]⟩ (aK8 res):=by
 rw [ZF hf ds hl hlt]
 unfold bR
 cases Vm.ev T body ⟨m6 0 ds,[]⟩ with
 | none=>rfl
 | some q =>
  obtain ⟨e,s⟩:=q
  cases e <;> rfl
def Q6 (v:V) (b:Option aI) (x y:Option β):Option β:=match v,b with
 | .nil,none=>x
 | _,_=>y
theorem aOh (b:aI) (x y:Option β):Q6 .nil (some b) x y = y:=rfl
theorem aQT (x y:Option β):Q6 .nil none x y = x:=rfl
theorem aIw (i v:Nat) (b:Option aI) (x y:Option β):Q6 (.own i v) b x y = y:=rfl
theorem aP0 (z:D) (b:Option aI) (x y:Option β):Q6 (.d z) b x y = y:=rfl
theorem aIL (b:Option aI) (x y:Option β):Q6 .any b x y = y:=rfl
theorem aMn (live keep:List Nat) (t i e s:Nat) (l:List (Nat × Nat × Nat × Nat)) (c:List (Nat × Nat × Nat × Nat × Nat)) (ft:List Nat) (fc:List (Nat × Nat)) (k:List (Nat × V)->List (Nat × Option aI)->Option β) (hs:0 < s) :
  sZ ⟨live,keep,(t,i,e,s) :: l,c,ft,fc⟩ fr bl k = gZ fr t fun v=>aY bl i fun b=>Q6 v b (OH e [] fun rows=>sZ ⟨live,keep,l,c,ft,fc⟩ ((t,.own i 0) :: fr) ((i,some (.rows 0 e s rows)) :: bl) k) (sZ ⟨live,keep,l,c,ft,fc⟩ fr bl k):=by
 show sZ ⟨live,keep,(t,i,e,s) :: l,c,ft,fc⟩ fr bl k = Q6 (lk fr .any t) (lk bl none i) _ _
 unfold sZ
 rw [aSn]
 unfold mkT OH
 show k (sD.app ⟨live,keep,l,c,ft,fc⟩ (match lk fr .any t,lk bl none i with | .nil,none=>if 0 < s then _ else _ | _,_=>_)).fr (sD.app ⟨live,keep,l,c,ft,fc⟩ (match lk fr .any t,lk bl none i with | .nil,none=>if 0 < s then _ else _ | _,_=>_)).bl = _
 generalize lk fr .any t = v
 generalize lk bl none i = b
 cases v with
 | nil=>cases b with
  | none=>simp only [Q6,if_pos hs]
  | some b=>rfl
 | _=>rfl
def aEW (b0:Option aI) (n:Nat) (b:Option aI) (x:List V->Option β) (y:Option β):Option β:=match b0 with
 | some (.box cs)=>match cs[n]?,b with
  | some .nil,none=>x cs
  | _,_=>y
 | _=>y
theorem aMC (live keep:List Nat) (i n j e s:Nat) (c:List (Nat × Nat × Nat × Nat × Nat)) (ft:List Nat) (fc:List (Nat × Nat)) (k:List (Nat × V)->List (Nat × Option aI)->Option β) (hs:0 < s) :
  sZ ⟨live,keep,[],(i,n,j,e,s) :: c,ft,fc⟩ fr bl k = aY bl i fun b0=>aY bl j fun b=>aEW b0 n b (fun cs=>AK cs n (.own j 0) fun cs'=>OH e [] fun rows=>sZ ⟨live,keep,[],c,ft,fc⟩ fr ((i,some (.box cs')) :: (j,some (.rows 0 e s rows)) :: bl) k) (sZ ⟨live,keep,[],c,ft,fc⟩ fr bl k):=by
 show sZ ⟨live,keep,[],(i,n,j,e,s) :: c,ft,fc⟩ fr bl k = aEW (lk bl none i) n (lk bl none j) _ _
 unfold sZ
 rw [aR1]
 have hm:∀ b0 b,lk bl none i = b0->lk bl none j = b->mkC (i,n,j,e,s) ⟨fr,bl⟩ = (match b0,b with
  | some (.box cs),none=>match cs[n]? with
   | some .nil=>if 0 < s then ⟨fr,(i,some (.box (cs.set n (.own j 0)))) :: (j,some (.rows 0 e s [])) :: bl⟩ else ⟨fr,bl⟩
   | _=>⟨fr,bl⟩
  | _,_=>⟨fr,bl⟩):=by
  rintro _ _ rfl rfl; rfl
 have hm:=hm _ _ rfl rfl
 rw [hm]
 generalize lk bl none i = b0
 generalize lk bl none j = b
 cases b0 with
 | none=>rfl
 | some b0=>cases b0 with
  | box cs =>
   cases b with
   | none =>
    simp only [aEW]
    cases h:cs[n]? with
    | none=>rfl
    | some v =>
     cases v with
     | nil =>
      have hn:n < cs.length:=by
       rw [List.getElem?_eq_some_iff] at h
       exact h.1
      simp only [if_pos hs,XT,OH]
      rw [if_pos (by omega)]
      have:∀ (cs:List V) (n:Nat),n < cs.length->hZ cs n [.own j 0] = cs.set n (.own j 0):=by
       intro cs
       induction cs with
       | nil=>intro n h; simp at h
       | cons c cs ih =>
        intro n h
        cases n with
        | zero=>cases cs <;> rfl
        | succ n=>simp only [hZ,List.set_cons_succ]; rw [ih n (by simpa using h)]
      rw [this cs n hn]
     | _=>rfl
   | some b=>simp only [aEW]; cases cs[n]? with
    | none=>rfl
    | some v=>cases v <;> rfl
  | _=>cases b <;> rfl
theorem aCn (k:List (Nat × Nat × V)->Option β):JK fr [] k = k []:=rfl
theorem Y2 (o s:Nat) (x:bD) (l:List (Nat × Nat × bD)) (k:List (Nat × Nat × V)->Option β):JK fr ((o,s,x) :: l) k = bM fr x fun v=>JK fr l fun vs=>k ((o,s,v) :: vs):=rfl
theorem aEI (l:List (Nat × Nat × bD)):∀ (k:List (Nat × Nat × V)->Option β),JK fr l k = k (l.map fun p=>(p.1,p.2.1,bC (lk fr .any) p.2.2)):=by
 induction l with
 | nil=>intro k; rfl
 | cons p l ih=>intro k; obtain ⟨o,s,x⟩:=p; simp only [JK,bM,ih,List.map_cons]
def QZ (z:List V):List (Nat × Nat × V)->(List V->Option β)->Option β
 | [],k=>k z
 | (off,size,v) :: r,k=>uH v fun cs=>zP cs size (kA z off cs fun z'=>QZ z' r k)
theorem aFb (z:List V) (k:List V->Option β):QZ z [] k = k z:=rfl
theorem aBx (z:List V) (off size:Nat) (v:V) (r:List (Nat × Nat × V)) (k:List V->Option β):QZ z ((off,size,v) :: r) k = uH v fun cs=>zP cs size (kA z off cs fun z'=>QZ z' r k):=rfl
theorem aJQ (ps:List (Nat × Nat × V)):∀ (z:List V) (k:List V->Option β),QZ z ps k = (FU z ps).bind k:=by
 induction ps with
 | nil=>intro z k; rfl
 | cons p r ih =>
  intro z k
  obtain ⟨off,size,v⟩:=p
  simp only [QZ,FU,uH,zP,kA,ih]
  by_cases h1:v.known = true
  ·by_cases h2:v.cells.length = size
   ·subst h2
    by_cases h3:off + v.cells.length <= z.length
    ·rw [if_pos h1,if_pos rfl,if_pos h3,if_pos ⟨rfl,h3,h1⟩]
    ·rw [if_pos h1,if_pos rfl,if_neg h3,if_neg (fun q=>h3 q.2.1)]; rfl
   ·rw [if_pos h1,if_neg h2,if_neg (fun q=>h2 q.1)]; rfl
  ·rw [if_neg h1,if_neg (fun q=>h1 q.2.2)]; rfl
theorem aGB (z:List V) (parts:List (Nat × Nat × bD)):qL T d (.build z parts) fr bl k kw = JK fr parts fun ps=>QZ z ps fun cs=>k (.agg cs):=by
 rw [iH,aEI,aJQ]
 simp only [bZ]
 have e1:(parts.map fun x=>match x with | (o,s,x)=>(o,s,bC (lk fr .any) x)) = parts.map fun p=>(p.1,p.2.1,bC (lk fr .any) p.2.2):=rfl
 rw [e1]
 cases FU z (parts.map fun p=>(p.1,p.2.1,bC (lk fr .any) p.2.2)) <;> rfl
theorem aB2 (ds:List D):(aQ ds).length = ds.length:=by simp [aQ]
def aLy (bytes:Nat) (a b:V) (x:Nat->Option β):Option β:=match a,b with
 | .d (.int _ n),.d (.int _ m)=>if 0 <= n ∧ n <= m ∧ (bytes:Int) * m <= 281474976710656 ∧ m <= 9223372036854775807 then x n.toNat else none
 | _,_=>none
theorem aQE (bytes:Nat) (i j:IntKind) (n m:Int) (x:Nat->Option β):aLy bytes (.d (.int i n)) (.d (.int j m)) x = if 0 <= n ∧ n <= m ∧ (bytes:Int) * m <= 281474976710656 ∧ m <= 9223372036854775807 then x n.toNat else none:=rfl
theorem aO5 {α:Type} (e size bytes:Nat) (z:List D) (c:α->List D) (x:α) (hz:z = c x) (l cp:bD):qL T d (.makeSlice e size bytes z l cp) fr bl k kw = aY bl d fun b=>fK b (bM fr l fun a=>bM fr cp fun b=>aLy bytes a b fun n=>kw (.own d 0) [(d,some (.rows 0 e size (cM c (List.replicate n x))))]):=RA e size bytes z c x hz l cp
theorem aK2 {k:Ex->St->Option β} (c:bD) (a b:aH):bR T (.cond c a b) ⟨fr,bl⟩ k = bM fr c fun v=>KJ v (bR T a ⟨fr,bl⟩ k) (bR T b ⟨fr,bl⟩ k):=aG9 c a b _
theorem aLc (a b c:List (Nat × Option aI)) (t:Nat) (k:Option aI->Option β):aY ((a ++ b) ++ c) t k = aY (a ++ (b ++ c)) t k:=by rw [List.append_assoc]
def WJ:List V->Nat->(V->Option β)->Option β->Option β
 | [],_,_,y=>y
 | c :: _,0,x,_=>x c
 | _ :: cs,n + 1,x,y=>WJ cs n x y
theorem aQp (c:V) (cs:List V) (x:V->Option β) (y:Option β):WJ (c :: cs) 0 x y = x c:=rfl
theorem aQS (c:V) (cs:List V) (n:Nat) (x:V->Option β) (y:Option β):WJ (c :: cs) (n + 1) x y = WJ cs n x y:=rfl
theorem aH9 (cs:List V) (n:Nat) (b:Option aI) (x:List V->Option β) (y:Option β):aEW (some (.box cs)) n b x y = WJ cs n (fun v=>Q6 v b (x cs) y) y:=by
 have:∀ (l:List V) (n:Nat),(match l[n]?,b with | some .nil,none=>x cs | _,_=>y) = WJ l n (fun v=>Q6 v b (x cs) y) y:=by
  intro l
  induction l with
  | nil=>intro n; rfl
  | cons c l ih=>intro n; cases n with
   | zero=>cases c <;> cases b <;> rfl
   | succ n=>exact ih n
 exact this cs n
theorem aD3 (n:Nat) (b:Option aI) (x:List V->Option β) (y:Option β):aEW none n b x y = y:=rfl
def aDr (rows:List (List D)) (k:V->Option β):Option β:=k (.d (.int .i64 rows.length))
theorem aM7 {α:Type} (c:α->List D) (xs:List α):aDr (cM c xs) k = k (.d (.int .i64 (xs.length:Int))):=by unfold aDr; rw [uK]
theorem aOy:aDr [] k = k (.d (.int .i64 0)):=rfl
theorem aLH (x:bD):qL T d (.len x) fr bl k kw = bM fr x fun a=>IV a bl fun rows=>aDr rows k:=aMp x
def IM (v:V) (bl:List (Nat × Option aI)) (k:V->List (Nat × Option aI)->Option β) (y:Option β):Option β:=match qF (lk bl none) v with
 | some x=>k (.d x) (HP (lk bl none) v)
 | none=>y
theorem aPU (x:D) (k:V->List (Nat × Option aI)->Option β) (y:Option β):IM (.d x) bl k y = k (.d x) []:=rfl
theorem aHT (k:V->List (Nat × Option aI)->Option β) (y:Option β):IM .nil bl k y = k (.d (.sl [])) []:=rfl
theorem aKe (k:V->List (Nat × Option aI)->Option β) (y:Option β):IM .any bl k y = y:=rfl
def aOr (id ver:Nat) (b:Option aI) (k:V->List (Nat × Option aI)->Option β) (y:Option β):Option β:=match b with
 | some (.rows v _ _ rows)=>if ver = v then k (.d (.sl rows)) [(id,some (.froz v rows))] else y
 | some (.froz v rows)=>if ver = v then k (.d (.sl rows)) [] else y
 | _=>y
theorem aH4 (id ver:Nat) (k:V->List (Nat × Option aI)->Option β) (y:Option β):IM (.own id ver) bl k y = aY bl id fun b=>aOr id ver b k y:=by
 unfold IM aY aOr
 simp only [qF,HP]
 generalize lk bl none id = b
 cases b with
 | none=>rfl
 | some b=>cases b with
  | rows v e s rows=>simp only; by_cases h:ver = v <;> simp [h]
  | froz v rows=>simp only; by_cases h:ver = v <;> simp [h]
  | _=>rfl
theorem aE1 (id v e s:Nat) (rows:List (List D)) (k:V->List (Nat × Option aI)->Option β) (y:Option β):aOr id v (some (.rows v e s rows)) k y = k (.d (.sl rows)) [(id,some (.froz v rows))]:=if_pos rfl
theorem aGt (id v:Nat) (rows:List (List D)) (k:V->List (Nat × Option aI)->Option β) (y:Option β):aOr id v (some (.froz v rows)) k y = k (.d (.sl rows)) []:=if_pos rfl
theorem aKa (live keep:List Nat) (t:Nat) (ft:List Nat) (fc:List (Nat × Nat)) (k:List (Nat × V)->List (Nat × Option aI)->Option β) :
  sZ ⟨live,keep,[],[],t :: ft,fc⟩ fr bl k = gZ fr t fun v=>IM v bl (fun v' wr=>sZ ⟨live,keep,[],[],ft,fc⟩ ((t,v') :: fr) (wr ++ bl) k) (sZ ⟨live,keep,[],[],ft,fc⟩ fr bl k):=by
 unfold sZ
 rw [aPJ]
 unfold LR gZ IM
 rw [B7,BP]
 dsimp only
 cases qF (lk bl none) (lk fr .any t) <;> rfl
def SH (v:V) (bl:List (Nat × Option aI)) (k:V->List (Nat × Option aI)->Option β) (y:Option β):Option β:=match iA (lk bl none) v with
 | some x=>k (.d x) (yX (lk bl none) v)
 | none=>y
def aJA (n:Nat) (b:Option aI) (bl:List (Nat × Option aI)) (k:List V->List (Nat × Option aI)->Option β) (y:Option β):Option β:=match b with
 | some (.box cs)=>match cs[n]? with
  | some v=>match iA (lk bl none) v with
   | some d=>k (cs.set n (.d d)) (yX (lk bl none) v)
   | none=>y
  | none=>y
 | _=>y
theorem aKx (live keep:List Nat) (i n:Nat) (fc:List (Nat × Nat)) (k:List (Nat × V)->List (Nat × Option aI)->Option β) :
  sZ ⟨live,keep,[],[],[],(i,n) :: fc⟩ fr bl k = aY bl i fun b=>aJA n b bl (fun cs wr=>sZ ⟨live,keep,[],[],[],fc⟩ fr ((i,some (.box cs)) :: (wr ++ bl)) k) (sZ ⟨live,keep,[],[],[],fc⟩ fr bl k):=by
 unfold sZ
 rw [aPy]
 unfold frC aY aJA
 rw [BP]
 dsimp only
 cases lk bl none i with
 | none=>rfl
 | some b =>
  cases b with
  | box cs =>
   simp only
   cases cs[n]? with
   | none=>rfl
   | some v =>
    simp only
    cases iA (lk bl none) v <;> rfl
  | _=>rfl
theorem aPP (cs:List V) (n:Nat) (w:V) (k:List V->Option β) (h:n < cs.length):AK cs n w k = k (cs.set n w):=by
 induction cs generalizing n k with
 | nil=>simp at h
 | cons c cs ih=>cases n with
  | zero=>rfl
  | succ n=>simp only [AK,List.set_cons_succ]; rw [ih n _ (by simpa using h)]
theorem aHe (n:Nat) (cs:List V) (k:List V->List (Nat × Option aI)->Option β) (y:Option β):aJA n (some (.box cs)) bl k y = WJ cs n (fun v=>SH v bl (fun v' wr=>AK cs n v' fun cs'=>k cs' wr) y) y:=by
 have e:∀ (l:List V) (n:Nat) (x:V->Option β),WJ l n x y = match l[n]? with | some v=>x v | none=>y:=by
  intro l
  induction l with
  | nil=>intro n x; rfl
  | cons c l ih=>intro n x; cases n with
   | zero=>rfl
   | succ n=>exact ih n x
 rw [e]
 simp only [aJA,SH]
 cases h:cs[n]? with
 | none=>rfl
 | some v =>
  simp only
  cases iA (lk bl none) v with
  | none=>rfl
  | some d=>simp only; rw [aPP _ _ _ _ (List.getElem?_eq_some_iff.1 h).1]
theorem aNl (x:D) (k:V->List (Nat × Option aI)->Option β) (y:Option β):SH (.d x) bl k y = k (.d x) []:=rfl
theorem aDw (k:V->List (Nat × Option aI)->Option β) (y:Option β):SH .nil bl k y = k (.d (.sl [])) []:=rfl
theorem aDR (k:V->List (Nat × Option aI)->Option β) (y:Option β):SH .any bl k y = y:=rfl
theorem aEX (id ver:Nat) (k:V->List (Nat × Option aI)->Option β) (y:Option β):SH (.own id ver) bl k y = IM (.own id ver) bl k y:=rfl
theorem aE9 (n:Nat) (k:List V->List (Nat × Option aI)->Option β) (y:Option β):aJA n none bl k y = y:=rfl
end
end Vm
end Go.Proofs.Ytgjcnbgfaimepaa
namespace Go.Proofs.Ytgjcnbgfaimepaa
namespace Vm
open Go.RowKit
section
variable {β:Type} {T:vA}
def E1 (d:Nat) (op:eZ) (fr:List (Nat × V)) (bl:List (Nat × Option aI)) (k:List Nat->Option β):Option β :=
 k ((if op.new = true then [d] else []) ++ ((op.peeks.flatMap fun x=>(bC (lk fr .any) x).ids) ++ op.deeps.flatMap fun x=>(bC (lk fr .any) x).dids (lk bl none)))
def GG (wr:List (Nat × Option aI)) (k:List Nat->Option β):Option β:=k (wr.map (·.1))
theorem aFQ (k:List Nat->Option β):GG [] k = k []:=rfl
theorem aLO (i:Nat) (b:Option aI) (w:List (Nat × Option aI)) (k:List Nat->Option β):GG ((i,b) :: w) k = GG w fun l=>k (i :: l):=rfl
theorem aHG (w:List (Nat × Option aI)) (k:List Nat->Option β):GG ([] ++ w) k = GG w k:=rfl
theorem aJp (p:Nat × Option aI) (v w:List (Nat × Option aI)) (k:List Nat->Option β):GG ((p :: v) ++ w) k = GG (p :: (v ++ w)) k:=rfl
theorem aJh (u v w:List (Nat × Option aI)) (k:List Nat->Option β):GG ((u ++ v) ++ w) k = GG (u ++ (v ++ w)) k:=by rw [List.append_assoc]
theorem aAF (d st:Nat) (op:eZ) (l:List aM) (fr:List (Nat × V)) (bl:List (Nat × Option aI)) (fp:List Fp) (k:St->List Fp->Option β) :
  lI T (⟨some d,op,none,st⟩ :: l) ⟨fr,bl⟩ fp k = qL T st op fr bl (fun v=>E1 st op fr bl fun f=>lI T l ⟨(d,v) :: fr,bl⟩ ((f,[]) :: fp) k) (fun v wr=>GG wr fun ws=>E1 st op fr bl fun f=>lI T l ⟨(d,v) :: fr,wr ++ bl⟩ ((f,ws) :: fp) k):=by
 rw [QR]
 unfold qL FH E1
 show (match bZ (call T) st (bC (lk fr .any)) (lk bl none) op with | some (v,wr)=>_ | none=>none) = _
 cases bZ (call T) st (bC (lk fr .any)) (lk bl none) op with
 | none=>rfl
 | some r=>obtain ⟨v,wr⟩:=r; cases wr <;> rfl
theorem XA (st:Nat) (op:eZ) (l:List aM) (fr:List (Nat × V)) (bl:List (Nat × Option aI)) (fp:List Fp) (k:St->List Fp->Option β) :
  lI T (⟨none,op,none,st⟩ :: l) ⟨fr,bl⟩ fp k = qL T st op fr bl (fun _=>E1 st op fr bl fun f=>lI T l ⟨fr,bl⟩ ((f,[]) :: fp) k) (fun _ wr=>GG wr fun ws=>E1 st op fr bl fun f=>lI T l ⟨fr,wr ++ bl⟩ ((f,ws) :: fp) k):=by
 rw [QR]
 unfold qL FH E1
 show (match bZ (call T) st (bC (lk fr .any)) (lk bl none) op with | some (v,wr)=>_ | none=>none) = _
 cases bZ (call T) st (bC (lk fr .any)) (lk bl none) op with
 | none=>rfl
 | some r=>obtain ⟨v,wr⟩:=r; cases wr <;> rfl
theorem aF5 (fr:List (Nat × V)) (bl:List (Nat × Option aI)) (fp:List Fp) (k:St->List Fp->Option β):lI T [] ⟨fr,bl⟩ fp k = k ⟨fr,bl⟩ fp:=rfl
theorem aMc {l:List aM} {ps:List (Nat × Nat)} {s:St} {fp:List Fp} (k:St->Option β) (h:KT l fp.reverse ps = true):aNv l ps k s fp = k s:=if_pos h
theorem CR {d:Option Nat} {st:Nat} {g g' : Option (Nat × Bool)} {fr:Nat->V} {bl:Nat->Option aI} {wr:List (Nat × Option aI)} (t:Nat) (b:Bool) (op:eZ):wZ ⟨d,KP t b op,g,st⟩ fr bl wr = wZ ⟨d,op,g',st⟩ fr bl wr:=by
 cases op with
 | pick c x y =>
  cases c with
  | t t' =>
   simp only [KP]
   split <;> rfl
  | c v=>rfl
 | _=>rfl
theorem aBB {C:Nat->List D->Option D} {s:St} {t:Nat} {b:Bool} (h:s.get t = .d (.bool b)) (o:aM):iX C (K8 t b o) s = iX C o s:=by
 obtain ⟨d,op,g,st⟩:=o
 cases g with
 | some g =>
  obtain ⟨t',w⟩:=g
  simp only [K8]
  split
  ·rename_i e
   subst e
   split
   ·rename_i e
    subst e
    simp only [iX,aM.wants,h,yY h]
    cases w <;> simp only [xD] <;> cases bZ C st (bC s.get) s.blk op <;> first | rfl | (simp [CR (g':=some (t',false)),CR (g':=some (t',true))]; done) | (simp [CR (g':=some (t',false)),CR (g':=some (t',true))]; rfl)
   ·rename_i e
    simp only [iX,aM.wants,h,bZ,bC]
    cases w <;> cases b <;> simp_all [xD,wZ,eZ.new,eZ.peeks,eZ.deeps]
  ·simp only [iX,aM.wants,yY h]
   cases xD (s.get t') w <;> simp only [] <;> cases bZ C st (bC s.get) s.blk op <;> simp [CR (g':=some (t',w))]
 | none =>
  simp only [K8,iX,aM.wants,yY h]
  cases bZ C st (bC s.get) s.blk op <;> simp [CR (g':=none)]
theorem aCg {C:Nat->List D->Option D} {o:aM} {s s' : St} {p:Fp} {t:Nat} (h:¬ o.dst = some t) (e:iX C o s = some (s',p)):s'.get t = s.get t:=by
 unfold iX at e
 split at e
 ·split at e
  ·cases e; exact EJ h
  ·cases e
 ·cases e; exact EJ h
 ·cases e
theorem I3 {t:Nat} {b:Bool}:∀ (l:List aM) {s:St} (fp:List Fp) (k:St->List Fp->Option β) (h:s.get t = .d (.bool b)),lI T (AM t b l) s fp k = lI T l s fp k
 | [],s,fp,k,h=>rfl
 | o :: l,s,fp,k,h=>by
  simp only [AM,lI,aBB h]
  cases e:iX (call T) o s with
  | none=>rfl
  | some q =>
   obtain ⟨s',p⟩:=q
   simp only
   split
   ·rfl
   ·rename_i hd
    exact I3 l _ k (by rw [aCg hd e]; exact h)
noncomputable def C8 (T:vA) (v:V) (t:Nat) (l:List aM) (s:St) (fp:List Fp) (k:St->List Fp->Option β):Option β:=match v with
 | .d (.bool b)=>if b = true then lI T (AM t true l) s fp k else lI T (AM t false l) s fp k
 | .tup []=>match l with
  | o :: r=>lI T r (s.put o.dst (.tup []) []) (([],[]) :: fp) k
  | []=>none
 | _=>none
theorem W9 (d:Option Nat) (op:eZ) (t:Nat) (w:Bool) (st:Nat) (l:List aM) (fr:List (Nat × V)) (bl:List (Nat × Option aI)) (fp:List Fp) (k:St->List Fp->Option β) :
  lI T (⟨d,op,some (t,w),st⟩ :: l) ⟨fr,bl⟩ fp k = gZ fr t fun v=>C8 T v t (⟨d,op,some (t,w),st⟩ :: l) ⟨fr,bl⟩ fp k:=by
 show _ = C8 T (lk fr .any t) t _ _ fp k
 generalize hv:lk fr .any t = v
 have bad:∀ (q:xD v w = .bad),lI T (⟨d,op,some (t,w),st⟩ :: l) ⟨fr,bl⟩ fp k = none:=by
  intro q
  simp only [lI,iX,aM.wants]
  rw [show (St.get ⟨fr,bl⟩ t) = v from hv,q]
 cases v with
 | d x =>
  cases x with
  | bool b =>
   simp only [C8]
   cases b with
   | true=>rw [if_pos rfl,I3 (t:=t) (b:=true) (s:=⟨fr,bl⟩) _ _ _ hv]
   | false=>rw [if_neg (by decide),I3 (t:=t) (b:=false) (s:=⟨fr,bl⟩) _ _ _ hv]
  | _=>exact bad rfl
 | tup vs =>
  cases vs with
  | nil =>
   simp only [C8,lI,iX,aM.wants]
   rw [show (St.get ⟨fr,bl⟩ t) = _ from hv]
   rfl
  | cons x l=>exact bad rfl
 | _=>exact bad rfl
theorem aFS (b:Bool) (t:Nat) (l:List aM) (s:St) (fp:List Fp) (k:St->List Fp->Option β):C8 T (.d (.bool b)) t l s fp k = if b = true then lI T (AM t true l) s fp k else lI T (AM t false l) s fp k:=rfl
theorem aDz (t d st:Nat) (op:eZ) (g:Option (Nat × Bool)) (l:List aM) (fr:List (Nat × V)) (bl:List (Nat × Option aI)) (fp:List Fp) (k:St->List Fp->Option β):C8 T (.tup []) t (⟨some d,op,g,st⟩ :: l) ⟨fr,bl⟩ fp k = lI T l ⟨(d,.tup []) :: fr,bl⟩ (([],[]) :: fp) k:=rfl
theorem aAI (t st:Nat) (op:eZ) (g:Option (Nat × Bool)) (l:List aM) (fr:List (Nat × V)) (bl:List (Nat × Option aI)) (fp:List Fp) (k:St->List Fp->Option β):C8 T (.tup []) t (⟨none,op,g,st⟩ :: l) ⟨fr,bl⟩ fp k = lI T l ⟨fr,bl⟩ (([],[]) :: fp) k:=rfl
theorem xO {l l' : List aM} {s:St} {fp:List Fp} {k:St->List Fp->Option β} (h:l = l'):lI T l s fp k = lI T l' s fp k:=by rw [h]
theorem aMq (x:D) (ds:List D) (k:D->Option β):eU (x :: ds) 0 k = k x:=rfl
theorem aMK (x:D) (ds:List D) (n:Nat) (k:D->Option β):eU (x :: ds) (n + 1) k = eU ds n k:=rfl
section
variable {d:Nat} {fr:List (Nat × V)} {bl:List (Nat × Option aI)} {k:List Nat->Option β}
def G8 (v:V) (k:List Nat->Option β):Option β:=k v.ids
theorem aPs (x:D):G8 (.d x) k = k []:=rfl
theorem aIV:G8 .nil k = k []:=rfl
theorem aHE:G8 .any k = k []:=rfl
theorem aHs (i o:Nat):G8 (.ptr i o) k = k [i]:=rfl
theorem aHO (i o:Nat):G8 (.own i o) k = k [i]:=rfl
theorem aER (i v j o:Nat):G8 (.orow i v j o) k = k [i]:=rfl
def qT (bl:List (Nat × Option aI)):List V->(List Nat->Option β)->Option β
 | [],k=>k []
 | c :: cs,k=>k (c.dids1 (lk bl none) ++ cs.flatMap (V.dids1 (lk bl none)))
def xQ (bl:List (Nat × Option aI)) (v:V) (k:List Nat->Option β):Option β:=k (v.dids (lk bl none))
theorem uV (cs:List V):qT bl cs k = k (cs.flatMap (V.dids1 (lk bl none))):=by cases cs <;> rfl
theorem aAg:qT bl [] k = k []:=rfl
theorem aJd (x:D) (cs:List V):qT bl (.d x :: cs) k = qT bl cs k:=by simp only [uV]; rfl
theorem aJg (cs:List V):qT bl (.nil :: cs) k = qT bl cs k:=by simp only [uV]; rfl
theorem aBA (cs:List V):qT bl (.any :: cs) k = qT bl cs k:=by simp only [uV]; rfl
theorem aAs (i o:Nat) (cs:List V):qT bl (.own i o :: cs) k = qT bl cs fun l=>k (i :: l):=by simp only [uV]; rfl
theorem aLF (x:D):xQ bl (.d x) k = k []:=rfl
theorem aEt:xQ bl .nil k = k []:=rfl
theorem aGl (i o:Nat):xQ bl (.own i o) k = k [i]:=rfl
theorem aDV (cs:List V):xQ bl (.agg cs) k = qT bl cs k:=by rw [uV]; rfl
theorem YY (ds:List D):(aQ ds).flatMap (V.dids1 (lk bl none)) = []:=by
 induction ds with
 | nil=>rfl
 | cons x ds ih=>exact ih
theorem aBC (ds:List D):xQ bl (kB ds) k = k []:=by
 show k ((aQ ds).flatMap (V.dids1 (lk bl none))) = _
 rw [YY]
theorem YT (ds:List D):(aQ ds).flatMap V.ids1 = []:=by
 induction ds with
 | nil=>rfl
 | cons x ds ih=>exact ih
def qW:List V->(List Nat->Option β)->Option β
 | [],k=>k []
 | c :: cs,k=>k (c.ids1 ++ cs.flatMap V.ids1)
theorem uP (cs:List V):qW cs k = k (cs.flatMap V.ids1):=by cases cs <;> rfl
theorem aAo:qW [] k = k []:=rfl
theorem aJT (x:D) (cs:List V):qW (.d x :: cs) k = qW cs k:=by simp only [uP]; rfl
theorem aGR (cs:List V):qW (.nil :: cs) k = qW cs k:=by simp only [uP]; rfl
theorem aBX (cs:List V):qW (.any :: cs) k = qW cs k:=by simp only [uP]; rfl
theorem aA0 (i o:Nat) (cs:List V):qW (.own i o :: cs) k = qW cs fun l=>k (i :: l):=by simp only [uP]; rfl
theorem aCa (i o:Nat) (cs:List V):qW (.ptr i o :: cs) k = qW cs fun l=>k (i :: l):=by simp only [uP]; rfl
def TC (b:Option aI) (k:List Nat->Option β):Option β:=match b with
 | some (.box cs)=>k (cs.flatMap V.ids1)
 | _=>k []
theorem aF3 (c:V) (cs:List V):TC (some (.box (c :: cs))) k = qW (c :: cs) k:=by rw [uP]; rfl
theorem UJ (ds:List D):TC (some (.box (aQ ds))) k = k []:=by
 show k ((aQ ds).flatMap V.ids1) = _
 rw [YT]
theorem ZK (ds:List D):TC (some (.fbox ds)) k = k []:=rfl
theorem aAr:TC none k = k []:=rfl
theorem aJq (i o:Nat):(V.ptr i o).dids1 (lk bl none) = i :: (match lk bl none i with | some (.box cs)=>cs.flatMap V.ids1 | _=>[]):=rfl
theorem aE6 (i o:Nat):xQ bl (.ptr i o) k = aY bl i fun b=>TC b fun l=>k (i :: l):=by
 unfold xQ aY TC
 show k ((V.ptr i o).dids1 (lk bl none)) = _
 rw [aJq]
 cases lk bl none i with
 | none=>rfl
 | some b=>cases b <;> rfl
theorem aAv (i o:Nat) (cs:List V):qT bl (.ptr i o :: cs) k = xQ bl (.ptr i o) fun m=>qT bl cs fun l=>k (m ++ l):=by simp only [uV]; rfl
theorem aK0:E1 d .fail fr bl k = k []:=rfl
theorem aIT (x:bD):E1 d (.move x) fr bl k = k []:=rfl
theorem aGP (a b c:bD):E1 d (.pick a b c) fr bl k = k []:=rfl
theorem aE4 (z:List V):E1 d (.alloc z) fr bl k = k [d]:=rfl
theorem aM4 (x:bD):E1 d (.box x) fr bl k = k [d]:=rfl
theorem aEJ (z:List V) (ps:List (Nat × Nat × bD)):E1 d (.build z ps) fr bl k = k []:=rfl
theorem RF (e s b:Nat) (z:List D) (x y:bD):E1 d (.makeSlice e s b z x y) fr bl k = k [d]:=rfl
theorem fp1 (l:List Nat):([]:List Nat) ++ ((l ++ []) ++ []) = l:=by simp
theorem aGX (s:Nat) (a:Bool) (x:bD):E1 d (.load s a x) fr bl k = bM fr x fun v=>G8 v k:=by
 show k ([] ++ (((bC (lk fr .any) x).ids ++ []) ++ [])) = _
 rw [fp1]; rfl
theorem TM (x:bD):E1 d (.nilCheck x) fr bl k = bM fr x fun v=>G8 v k:=by
 show k ([] ++ (((bC (lk fr .any) x).ids ++ []) ++ [])) = _
 rw [fp1]; rfl
theorem RK (o:Nat) (x:bD):E1 d (.fieldAddr o x) fr bl k = bM fr x fun v=>G8 v k:=by
 show k ([] ++ (((bC (lk fr .any) x).ids ++ []) ++ [])) = _
 rw [fp1]; rfl
theorem aMA (x:bD):E1 d (.len x) fr bl k = bM fr x fun v=>G8 v k:=by
 show k ([] ++ (((bC (lk fr .any) x).ids ++ []) ++ [])) = _
 rw [fp1]; rfl
theorem aFm (s:Nat) (x:bD) (lo hi:Option bD):E1 d (.slice s x lo hi) fr bl k = bM fr x fun v=>G8 v k:=by
 show k ([] ++ (((bC (lk fr .any) x).ids ++ []) ++ [])) = _
 rw [fp1]; rfl
theorem RS (s:Nat) (x i:bD):E1 d (.indexAddr s x i) fr bl k = bM fr x fun v=>G8 v k:=by
 show k ([] ++ (((bC (lk fr .any) x).ids ++ []) ++ [])) = _
 rw [fp1]; rfl
theorem aGs (s:Nat) (x v:bD):E1 d (.store s x v) fr bl k = bM fr x fun a=>G8 a fun l=>bM fr v fun b=>xQ bl b fun m=>k (l ++ m):=by
 show k ([] ++ (((bC (lk fr .any) x).ids ++ []) ++ ((bC (lk fr .any) v).dids (lk bl none) ++ []))) = _
 rw [List.nil_append,List.append_nil,List.append_nil]; rfl
theorem aBG (e s b:Nat) (x y:bD):E1 d (.append e s b x y) fr bl k = bM fr x fun u=>G8 u fun l=>bM fr y fun v=>G8 v fun m=>k (d :: (l ++ m)):=by
 show k ([d] ++ (((bC (lk fr .any) x).ids ++ ((bC (lk fr .any) y).ids ++ [])) ++ [])) = _
 rw [List.append_nil,List.append_nil]; rfl
def BS (fr:List (Nat × V)) (bl:List (Nat × Option aI)):List bD->(List Nat->Option β)->Option β
 | [],k=>k []
 | x :: l,k=>bM fr x fun v=>xQ bl v fun m=>BS fr bl l fun n=>k (m ++ n)
theorem HV (l:List bD):∀ (k:List Nat->Option β),BS fr bl l k = k (l.flatMap fun x=>(bC (lk fr .any) x).dids (lk bl none)):=by
 induction l with
 | nil=>intro k; rfl
 | cons x l ih=>intro k; simp only [BS,bM,xQ,ih,List.flatMap_cons]
theorem ZT (k:List Nat->Option β):BS fr bl [] k = k []:=rfl
theorem W0 (x:bD) (l:List bD) (k:List Nat->Option β):BS fr bl (x :: l) k = bM fr x fun v=>xQ bl v fun m=>BS fr bl l fun n=>k (m ++ n):=rfl
theorem aKO (f:Nat) (args:List bD):E1 d (.call f args) fr bl k = BS fr bl args k:=by
 rw [HV]; rfl
theorem aJO (f:Nat) (args:List bD):E1 d (.mkfn f args) fr bl k = BS fr bl args k:=by
 rw [HV]; rfl
theorem aFh (g:bD) (args:List bD):E1 d (.callv g args) fr bl k = BS fr bl args k:=by
 rw [HV]; rfl
def JX (fr:List (Nat × V)) (bl:List (Nat × Option aI)):List (Nat × bD)->(List Nat->Option β)->Option β
 | [],k=>k []
 | (_,x) :: l,k=>bM fr x fun v=>xQ bl v fun m=>JX fr bl l fun n=>k (m ++ n)
theorem aFd (l:List (Nat × bD)):∀ (k:List Nat->Option β),JX fr bl l k = k ((l.map fun p=>p.2).flatMap fun x=>(bC (lk fr .any) x).dids (lk bl none)):=by
 induction l with
 | nil=>intro k; rfl
 | cons x l ih=>intro k; obtain ⟨i,x⟩:=x; simp only [JX,bM,xQ,ih,List.map_cons,List.flatMap_cons]
theorem aAQ (k:List Nat->Option β):JX fr bl [] k = k []:=rfl
theorem YO (i:Nat) (x:bD) (l:List (Nat × bD)) (k:List Nat->Option β):JX fr bl ((i,x) :: l) k = bM fr x fun v=>xQ bl v fun m=>JX fr bl l fun n=>k (m ++ n):=rfl
theorem PW (e s n:Nat) (z:List D) (ps:List (Nat × bD)):E1 d (.buildSlice e s z n ps) fr bl k = JX fr bl ps fun l=>k (d :: l):=by
 rw [aFd]; rfl
theorem aLt (c:Nat) (op:BinOp) (x y:bD):E1 d (.bin c op x y) fr bl k = k []:=rfl
theorem aLG (ks:List Nat) (n:Bool) (x y:bD):E1 d (.eqS ks n x y) fr bl k = k []:=rfl
theorem aPY (op:UnOp) (x:bD):E1 d (.un op x) fr bl k = k []:=rfl
theorem aJ1 (kd:IntKind) (x:bD):E1 d (.conv kd x) fr bl k = k []:=rfl
theorem T9 (x:bD) (lo hi:Option bD):E1 d (.strSlice x lo hi) fr bl k = k []:=rfl
theorem aFC (o s:Nat) (a:Bool) (x:bD):E1 d (.field o s a x) fr bl k = k []:=rfl
theorem aDZ (x i:bD):E1 d (.index x i) fr bl k = k []:=rfl
theorem aIX (x:bD):E1 d (.lenS x) fr bl k = k []:=rfl
theorem aOp (l:List bD):E1 d (.max l) fr bl k = k []:=rfl
theorem aNp (l:List bD):E1 d (.min l) fr bl k = k []:=rfl
theorem aEx (x:bD):E1 d (.bytes x) fr bl k = k []:=rfl
theorem YA (x:bD) (i:Nat):E1 d (.extract x i) fr bl k = k []:=rfl
theorem aG7 {k:Ex->St->Option β} (l:List aM) (ps:List (Nat × Nat)):bR T (.region l (some ps)) ⟨fr,bl⟩ k = lI T l ⟨fr,bl⟩ [] (aNv l ps (k .normal)):=by
 rw [aHI,aNR]
end
section
variable {d:Nat} {fr:List (Nat × V)} {bl:List (Nat × Option aI)} {k:V->Option β} {kw:V->List (Nat × Option aI)->Option β}
theorem aPr (a b c:List (Nat × Option aI)) (v:V):fzK ((a ++ b) ++ c) v k kw = fzK (a ++ (b ++ c)) v k kw:=by rw [List.append_assoc]
def fzN (id:Nat) (f:List (Nat × Option aI)) (x:Option β):Option β:=if AR id f = true then x else none
theorem S5 (id:Nat) (b:List (Nat × Option aI)):∀ a:List (Nat × Option aI),AR id (a ++ b) = if AR id a = true then AR id b else false
 | []=>rfl
 | (i,x) :: a=>by
  simp only [List.cons_append,AR]
  by_cases h:i = id
  ·simp [h]
  ·simp only [if_neg h]; exact S5 id b a
theorem aNZ (id:Nat) (x:Option β):fzN id [] x = x:=rfl
theorem aRm (id i:Nat) (b:Option aI) (w:List (Nat × Option aI)) (x:Option β) (h:(i == id) = false):fzN id ((i,b) :: w) x = fzN id w x:=by
 have h:¬ i = id:=by simpa using h
 simp only [fzN,AR,if_neg h]
theorem aOs (id:Nat) (a b:List (Nat × Option aI)) (x:Option β):fzN id (a ++ b) x = fzN id a (fzN id b x):=by
 unfold fzN
 rw [S5]
 by_cases h:AR id a = true
 ·rw [if_pos h,if_pos h]
 ·rw [if_neg h,if_neg h]; rfl
def bX (row:List D) (off:Nat) (ds:List D) (size:Nat) (k:List D->Option β):Option β:=if ds.length = size ∧ off + size <= row.length then k (hZ row off ds) else none
theorem U0 (c:D) (cs:List D) (off:Nat) (e:D) (ds:List D) (n:Nat) (k:List D->Option β):bX (c :: cs) (off + 1) (e :: ds) n k = bX cs off (e :: ds) n fun l=>k (c :: l):=by
 unfold bX
 simp only [List.length_cons,hZ]
 by_cases h:ds.length + 1 = n ∧ off + n <= cs.length
 ·exact (if_pos (by omega)).trans (if_pos h).symm
 ·exact (if_neg (by omega)).trans (if_neg h).symm
theorem YH (c:D) (cs:List D) (e:D) (ds:List D) (n:Nat) (k:List D->Option β):bX (c :: cs) 0 (e :: ds) (n + 1) k = bX cs 0 ds n fun l=>k (e :: l):=by
 unfold bX
 simp only [List.length_cons,hZ]
 by_cases h:ds.length = n ∧ 0 + n <= cs.length
 ·exact (if_pos (by omega)).trans (if_pos h).symm
 ·exact (if_neg (by omega)).trans (if_neg h).symm
theorem WB (cs:List D) (k:List D->Option β):bX cs 0 [] 0 k = k cs:=by
 unfold bX
 rw [if_pos ⟨rfl,by omega⟩,SO]
def AS (e:Nat) (rows:List (List D)) (i:Nat) (row:List D) (k:List (List D)->Option β):Option β:=k (rows.set i row)
theorem EU {α:Type} (e:Nat) (c:α->List D) (xs:List α) (i:Nat) (x:α) (k:List (List D)->Option β):AS e (cM c xs) i (c x) k = k (cM c (xs.set i x)):=by
 unfold AS
 rw [aQL]
theorem aLQ {α:Type} (size v i off id e sz:Nat) (w:V) (c:α->List D) (xs:List α):K4 size v i off id w bl (some (.rows v e sz (cM c xs))) kw = LG w bl fun ds f=>fzN id f (xs[i]?.bind fun x=>bX (c x) off ds size fun row=>AS e (cM c xs) i row fun rows=>kw .any ((id,some (.rows v e sz rows)) :: f)):=by
 unfold K4 LG
 simp only [OR,if_true,cM,List.getElem?_map]
 cases xs[i]? with
 | none =>
  simp only [Option.map_none,Option.bind_none]
  cases aK (iA (lk bl none)) w.cells with
  | none=>rfl
  | some ds=>simp only [fzN]; split <;> rfl
 | some x =>
  simp only [Option.map_some,Option.bind_some]
  cases aK (iA (lk bl none)) w.cells with
  | none=>rfl
  | some ds =>
   simp only [bX,AS,fzN]
   by_cases h1:AR id (u3 (lk bl none) w) = true
   ·rw [if_pos h1]
    by_cases h2:ds.length = size ∧ off + size <= (c x).length
    ·rw [if_pos h2,if_pos ⟨h2.1,h2.2,h1⟩]; rfl
    ·rw [if_neg h2,if_neg (fun q=>h2 ⟨q.1,q.2.1⟩)]; rfl
   ·rw [if_neg h1,if_neg (fun q=>h1 q.2.2)]; rfl
end
end
section
variable {β:Type} {T:vA} {bl:List (Nat × Option aI)} {k:V->Option β} {kw:V->List (Nat × Option aI)->Option β}
def s9 (size id ver:Nat) (lo hi:Option V) (b:Option aI) (k:V->Option β) (kw:V->List (Nat × Option aI)->Option β):Option β:=DH (vQ (fun _=>b) size (.own id ver) lo hi) k kw
theorem aBa (size id ver:Nat) (lo hi:Option V):DJ size (.own id ver) lo hi bl k kw = aY bl id fun b=>s9 size id ver lo hi b k kw:=by
 unfold DJ aY s9
 congr 1
 cases lo with
 | none=>cases hi with
  | none=>rfl
  | some h=>cases h with
   | d x=>cases x <;> rfl
   | _=>rfl
 | some l=>rfl
theorem uT {α:Type} (size id v:Nat) (c:α->List D) (xs:List α) (hs:sized size (cM c xs) = true) (b:aI) (wr:List (Nat × Option aI)) (lo hi:Option V) (l h:Int) (hl:B1 lo 0 = some l) (hh:B1 hi (xs.length:Int) = some h)
  (hb:fL (fun _=>some b) (.own id v) = some (cM c xs)) (hw:yX (fun _=>some b) (.own id v) = wr) (hn:lo = none->hi = none) :
  s9 size id v lo hi (some b) k kw = if i5 xs.length l h then DH (some (.d (.sl (cM c (j8 xs l h))),wr)) k kw else none:=by
 have e0:vQ (fun _=>some b) size (.own id v) lo hi = (match B1 hi ((cM c xs).length:Int),B1 lo 0 with
   | some h,some l=>if 0 <= l ∧ l <= h ∧ h.toNat <= (cM c xs).length ∧ sized size (cM c xs) = true then some (.d (.sl (((cM c xs).take h.toNat).drop l.toNat)),wr) else none
   | _,_=>none):=by
  cases lo with
  | none =>
   obtain rfl:=hn rfl
   unfold vQ
   simp only [hb,hw]
   rfl
  | some w =>
   unfold vQ
   simp only [hb,hw]
   rfl
 unfold s9
 rw [e0,show ((cM c xs).length:Int) = (xs.length:Int) by simp [cM],hl,hh]
 simp only [show (cM c xs).length = xs.length by simp [cM]]
 by_cases q:i5 xs.length l h
 ·rw [if_pos q,if_pos ⟨q.1,q.2.1,q.2.2,hs⟩]
  simp only [cM,j8,List.map_drop,List.map_take]
 ·rw [if_neg q,if_neg (fun w=>q ⟨w.1,w.2.1,w.2.2.1⟩)]; rfl
section
variable {α:Type} (size id v:Nat) (c:α->List D) (xs:List α) (hs:sized size (cM c xs) = true)
include hs
theorem Z9 (e s:Nat) (kd:IntKind) (l:Int):s9 size id v (some (.d (.int kd l))) none (some (.rows v e s (cM c xs))) k kw = if i5 xs.length l (xs.length:Int) then kw (.d (.sl (cM c (j8 xs l (xs.length:Int))))) [(id,some (.froz v (cM c xs)))] else none :=
 uT size id v c xs hs _ _ _ _ _ _ rfl rfl (by simp [fL]) rfl (fun h=>by cases h)
theorem aBz (e s:Nat) (kd kd' : IntKind) (l h:Int):s9 size id v (some (.d (.int kd l))) (some (.d (.int kd' h))) (some (.rows v e s (cM c xs))) k kw = if i5 xs.length l h then kw (.d (.sl (cM c (j8 xs l h)))) [(id,some (.froz v (cM c xs)))] else none :=
 uT size id v c xs hs _ _ _ _ _ _ rfl rfl (by simp [fL]) rfl (fun h=>by cases h)
theorem aBr (e s:Nat):s9 size id v none none (some (.rows v e s (cM c xs))) k kw = if i5 xs.length 0 (xs.length:Int) then kw (.d (.sl (cM c (j8 xs 0 (xs.length:Int))))) [(id,some (.froz v (cM c xs)))] else none :=
 uT size id v c xs hs _ _ _ _ _ _ rfl rfl (by simp [fL]) rfl (fun _=>rfl)
theorem aAB (kd:IntKind) (l:Int):s9 size id v (some (.d (.int kd l))) none (some (.froz v (cM c xs))) k kw = if i5 xs.length l (xs.length:Int) then k (.d (.sl (cM c (j8 xs l (xs.length:Int))))) else none :=
 uT size id v c xs hs _ _ _ _ _ _ rfl rfl (by simp [fL]) rfl (fun h=>by cases h)
theorem ZW (kd kd' : IntKind) (l h:Int):s9 size id v (some (.d (.int kd l))) (some (.d (.int kd' h))) (some (.froz v (cM c xs))) k kw = if i5 xs.length l h then k (.d (.sl (cM c (j8 xs l h)))) else none :=
 uT size id v c xs hs _ _ _ _ _ _ rfl rfl (by simp [fL]) rfl (fun h=>by cases h)
theorem aAk:s9 size id v none none (some (.froz v (cM c xs))) k kw = if i5 xs.length 0 (xs.length:Int) then k (.d (.sl (cM c (j8 xs 0 (xs.length:Int))))) else none :=
 uT size id v c xs hs _ _ _ _ _ _ rfl rfl (by simp [fL]) rfl (fun _=>rfl)
end
theorem aBd {α:Type} (size id v e s:Nat) (c:α->List D) (xs:List α) (kd:IntKind) (h:Int):s9 size id v none (some (.d (.int kd h))) (some (.rows v e s (cM c xs))) k kw = if 0 <= h ∧ h.toNat <= xs.length then kw (.own id (v + 1)) [(id,some (.rows (v + 1) e s (cM c (xs.take h.toNat))))] else none:=by
 unfold s9 vQ
 simp only [cM,List.length_map,true_and,List.map_take]
 split <;> rfl
end
end Vm
end Go.Proofs.Ytgjcnbgfaimepaa
namespace Go.Proofs.Ytgjcnbgfaimepaa
namespace Vm
open Go.RowKit
section
variable {β:Type} {T:vA} {d:Nat} {fr:List (Nat × V)} {bl:List (Nat × Option aI)} {k:V->Option β} {kw:V->List (Nat × Option aI)->Option β}
def aQ5 (size:Nat) (a:V) (lo hi:Option V) (bl:List (Nat × Option aI)) (kw:V->List (Nat × Option aI)->Option β):Option β:=match JH (lk bl none) size a lo hi with
 | some (v,wr)=>kw v wr
 | none=>none
def O9 (size id ver:Nat) (lo hi:Option V) (b:Option aI) (kw:V->List (Nat × Option aI)->Option β):Option β:=match JH (fun _=>b) size (.own id ver) lo hi with
 | some (v,wr)=>kw v wr
 | none=>none
theorem aLZ {bl:Nat->Option aI} {size:Nat} {a:V} {lo hi:Option V} {v:V} {wr:List (Nat × Option aI)} (h:JH bl size a lo hi = some (v,wr)):∃ p l,wr = p :: l:=by
 unfold JH at h
 split at h
 ·split at h
  ·split at h
   ·split at h
    ·cases h; exact ⟨_,_,rfl⟩
    ·cases h
   ·cases h
  ·cases h
 ·cases h
theorem aLk (size:Nat) (x:bD) (lo hi:Option bD):qL T d (.cut size x lo hi) fr bl k kw = bM fr x fun a=>aBv fr lo fun l=>aBv fr hi fun h=>aQ5 size a l h bl kw:=by
 rw [iH]
 simp only [bZ]
 have e:∀ (o:Option bD) (g:Option V->Option β),aBv fr o g = g (o.map (bC (lk fr .any))):=fun o g=>by cases o <;> rfl
 simp only [e,bM,aQ5,DH]
 cases h:JH (lk bl none) size (bC (lk fr .any) x) (lo.map (bC (lk fr .any))) (hi.map (bC (lk fr .any))) with
 | none=>rfl
 | some r =>
  obtain ⟨v,wr⟩:=r
  obtain ⟨p,l,rfl⟩:=aLZ h
  rfl
theorem aH3 (size id ver:Nat) (lo hi:Option V):aQ5 size (.own id ver) lo hi bl kw = aY bl id fun b=>O9 size id ver lo hi b kw:=rfl
theorem aG2 {α:Type} (c:α->List D) (xs:List α) (e s id v:Nat) (kd:IntKind) (l:Int):O9 s id v (some (.d (.int kd l))) none (some (.rows v e s (cM c xs))) kw = if i5 xs.length l (xs.length:Int) then kw (.own id (v + 1)) [(id,some (.rows (v + 1) e s (cM c (j8 xs l (xs.length:Int)))))] else none:=by
 have e1:(cM c xs).length = xs.length:=List.length_map ..
 have e2:((cM c xs).take (Int.toNat (xs.length:Int))).drop l.toNat = cM c (j8 xs l (xs.length:Int)):=by unfold cM j8; rw [List.map_drop,List.map_take]
 by_cases h:i5 xs.length l (xs.length:Int)
 ·rw [if_pos h]
  simp only [O9,JH,e1,e2]
  rw [if_pos ⟨trivial,trivial,h⟩]
 ·rw [if_neg h]
  simp only [O9,JH,e1,e2]
  rw [if_neg fun q=>h q.2.2]
theorem aJ7 {α:Type} (c:α->List D) (xs:List α) (e s id v:Nat) (kd kd' : IntKind) (l m:Int):O9 s id v (some (.d (.int kd l))) (some (.d (.int kd' m))) (some (.rows v e s (cM c xs))) kw = if i5 xs.length l m then kw (.own id (v + 1)) [(id,some (.rows (v + 1) e s (cM c (j8 xs l m))))] else none:=by
 have e1:(cM c xs).length = xs.length:=List.length_map ..
 have e2:((cM c xs).take m.toNat).drop l.toNat = cM c (j8 xs l m):=by unfold cM j8; rw [List.map_drop,List.map_take]
 by_cases h:i5 xs.length l m
 ·rw [if_pos h]
  simp only [O9,JH,e1,e2]
  rw [if_pos ⟨trivial,trivial,h⟩]
 ·rw [if_neg h]
  simp only [O9,JH,e1,e2]
  rw [if_neg fun q=>h q.2.2]
def TO (z:List D) (a:V) (bl:List (Nat × Option aI)) (k:V->Option β) (kw:V->List (Nat × Option aI)->Option β):Option β:=DH (match a with
  | .nil=>some (.any,[])
  | .own id ver=>match lk bl none id with
   | some (.rows v e size rows)=>if ver = v ∧ z.length = size then some (.any,[(id,some (.rows v e size (List.replicate rows.length z)))]) else none
   | _=>none
  | _=>none) k kw
def aDg (z:List D) (id ver:Nat) (b:Option aI) (kw:V->List (Nat × Option aI)->Option β):Option β:=match b with
 | some (.rows v e size rows)=>if ver = v ∧ z.length = size then kw .any [(id,some (.rows v e size (List.replicate rows.length z)))] else none
 | _=>none
def O8 (neg:Bool) (a:V) (bl:List (Nat × Option aI)) (k:V->Option β):Option β:=match JV (lk bl none) neg a with
 | some d=>k (.d d)
 | none=>none
def HO (neg:Bool) (ver:Nat) (b:Option aI) (k:V->Option β):Option β:=match b with
 | some (.rows v _ _ rows)=>if ver = v ∧ 0 < rows.length then k (.d (.bool neg)) else none
 | some (.froz v rows)=>if ver = v ∧ 0 < rows.length then k (.d (.bool neg)) else none
 | _=>none
theorem TY {α:Type} (c:α->List D) (xs:List α) (neg:Bool) (v e size:Nat):HO neg v (some (.rows v e size (cM c xs))) k = if 0 < xs.length then k (.d (.bool neg)) else none:=by
 unfold HO
 simp only [uK,true_and]
theorem U4 {α:Type} (c:α->List D) (xs:List α) (neg:Bool) (v:Nat):HO neg v (some (.froz v (cM c xs))) k = if 0 < xs.length then k (.d (.bool neg)) else none:=by
 unfold HO
 simp only [uK,true_and]
theorem aEy (neg:Bool) (x:bD):qL T d (.isnil neg x) fr bl k kw = bM fr x fun a=>O8 neg a bl k:=by
 unfold qL bM O8
 simp only [bZ,IG.v]
 cases JV (lk bl none) neg (bC (lk fr .any) x) <;> rfl
theorem aBU (neg:Bool):O8 neg .nil bl k = k (.d (.bool (!neg))):=rfl
theorem aBj (neg:Bool) (id ver:Nat):O8 neg (.own id ver) bl k = aY bl id fun b=>HO neg ver b k:=by
 unfold O8 JV HO aY
 simp only [fL]
 cases lk bl none id with
 | none=>rfl
 | some b =>
  cases b with
  | rows v e size rows =>
   simp only
   by_cases q:ver = v
   ·cases rows <;> simp [q]
   ·simp [q]
  | froz v rows =>
   simp only
   by_cases q:ver = v
   ·cases rows <;> simp [q]
   ·simp [q]
  | _=>rfl
theorem aGG (z:List D) (x:bD):qL T d (.clear z x) fr bl k kw = bM fr x fun a=>TO z a bl k kw:=by
 rw [iH]
 rfl
theorem aAm (z:List D):TO z .nil bl k kw = k .any:=rfl
theorem aBm (z:List D) (id ver:Nat):TO z (.own id ver) bl k kw = aY bl id fun b=>aDg z id ver b kw:=by
 unfold TO aY aDg
 simp only
 cases lk bl none id with
 | none=>rfl
 | some b =>
  cases b with
  | rows v e size rows =>
   simp only
   split <;> rfl
  | _=>rfl
def aDS:List bD->Nat->(bD->Option β)->Option β
 | [],_,_=>none
 | x :: _,0,g=>g x
 | _ :: l,n + 1,g=>aDS l n g
theorem aP1 (x:bD) (l:List bD) (g:bD->Option β):aDS (x :: l) 0 g = g x:=rfl
theorem aQB (x:bD) (l:List bD) (n:Nat) (g:bD->Option β):aDS (x :: l) (n + 1) g = aDS l n g:=rfl
theorem aCS (g:bD->Option β):∀ (l:List bD) (n:Nat),aDS l n g = l[n]?.bind g
 | [],_=>rfl
 | _ :: _,0=>rfl
 | _ :: l,n + 1=>aCS g l n
def U6 (v:V) (g:Nat->Nat->Option β):Option β:=match v with
 | .own id ver=>g id ver
 | _=>none
theorem aQ1 (id ver:Nat) (g:Nat->Nat->Option β):U6 (.own id ver) g = g id ver:=rfl
def YF (v:V) (bl:List (Nat × Option aI)) (g:D->Option β):Option β:=(K7 (lk bl none) v).bind g
def aCb (ver:Nat) (b:Option aI) (g:D->Option β):Option β:=match b with
 | some (.rows v e size rows)=>if ver = v then g (.own (.ref 0) [(e,size)] [rows]) else none
 | _=>none
theorem aEE (id ver:Nat) (g:D->Option β):YF (.own id ver) bl g = aY bl id fun b=>aCb ver b g:=by
 unfold YF aY aCb K7
 simp only
 cases lk bl none id with
 | none=>rfl
 | some b =>
  cases b with
  | rows v e size rows=>simp only; split <;> rfl
  | _=>rfl
theorem W7 (v e s:Nat) (rows:List (List D)) (g:D->Option β):aCb v (some (.rows v e s rows)) g = g (.own (.ref 0) [(e,s)] [rows]):=if_pos rfl
def E9 (fr:List (Nat × V)) (bl:List (Nat × Option aI)) (t:Nat):Nat->List bD->(List D->List (Nat × Option aI)->Option β)->Option β
 | _,[],g=>g [] []
 | i,x :: l,g=>bM fr x fun v=>if i = t then YF v bl fun y=>E9 fr bl t (i + 1) l fun ds f=>g (y :: ds) f else AB v bl fun y f=>E9 fr bl t (i + 1) l fun ds f'=>g (y :: ds) (f ++ f')
theorem aEA (t i:Nat) (g:List D->List (Nat × Option aI)->Option β):E9 fr bl t i [] g = g [] []:=rfl
theorem aEr (t i:Nat) (x:bD) (l:List bD) (g:List D->List (Nat × Option aI)->Option β) (h:(i == t) = true):E9 fr bl t i (x :: l) g = bM fr x fun v=>YF v bl fun y=>E9 fr bl t (i + 1) l fun ds f=>g (y :: ds) f:=by
 have:i = t:=by simpa using h
 simp only [E9,if_pos this]
theorem aAM (t i:Nat) (x:bD) (l:List bD) (g:List D->List (Nat × Option aI)->Option β) (h:(i == t) = false):E9 fr bl t i (x :: l) g = bM fr x fun v=>AB v bl fun y f=>E9 fr bl t (i + 1) l fun ds f'=>g (y :: ds) (f ++ f'):=by
 have:¬ i = t:=by simpa using h
 simp only [E9,if_neg this]
theorem PR (t:Nat):∀ (l:List bD) (i:Nat) (g:List D->List (Nat × Option aI)->Option β),E9 fr bl t i l g = (C3 (lk bl none) t i (l.map (bC (lk fr .any)))).bind fun ds=>g ds (sK (lk bl none) t i (l.map (bC (lk fr .any))))
 | [],i,g=>rfl
 | x :: l,i,g=>by
  simp only [E9,List.map_cons,C3,sK,bM]
  by_cases h:i = t
  ·simp only [if_pos h,YF,PR t l (i + 1)]
   cases K7 (lk bl none) (bC (lk fr .any) x) with
   | none=>rfl
   | some y =>
    cases C3 (lk bl none) t (i + 1) (l.map (bC (lk fr .any))) with
    | none=>rfl
    | some ds=>simp
  ·simp only [if_neg h,AB,PR t l (i + 1)]
   cases iB (lk bl none) (bC (lk fr .any) x) with
   | none=>rfl
   | some y=>cases C3 (lk bl none) t (i + 1) (l.map (bC (lk fr .any))) <;> rfl
noncomputable def NL (T:vA) (bl:List (Nat × Option aI)) (f id ver:Nat) (ds:List D) (kw:V->List (Nat × Option aI)->Option β):Option β:=match call T f ds with
 | some (.own y [(e,size)] [rows'])=>match lk bl none id with
  | some (.rows v e' size' _)=>if ver = v ∧ e = e' ∧ size = size' ∧ GM y = true ∧ nS rows' = true then kw (toV y) [(id,some (.rows v e size rows'))] else none
  | _=>none
 | _=>none
theorem aJC (f:Nat) (args:List bD) (t:Nat):qL T d (.lend f args t) fr bl k kw = aDS args t fun x=>bM fr x fun v=>U6 v fun id ver=>E9 fr bl t 0 args fun ds fz=>fzN id fz (NL T bl f id ver ds kw):=by
 rw [iH,aCS]
 simp only [bZ,List.getElem?_map]
 cases args[t]? with
 | none=>rfl
 | some x =>
  simp only [Option.map_some,Option.bind_some,bM]
  generalize bC (lk fr .any) x = v
  cases v with
  | own id ver =>
   simp only [U6,PR]
   cases C3 (lk bl none) t 0 (args.map (bC (lk fr .any))) with
   | none=>rfl
   | some ds =>
    simp only [Option.bind_some,fzN]
    split
    ·unfold NL
     generalize call T f ds = r
     generalize lk bl none id = b
     split
     ·split
      ·split
       ·rename_i hq
        exact (if_pos hq).symm
       ·rename_i hq
        exact (if_neg hq).symm
      ·rename_i hq
       cases b with
       | none=>rfl
       | some b=>cases b <;> first | rfl | exact absurd rfl (hq _ _ _ _)
     ·rename_i hq
      split
      ·exact absurd rfl (hq _ _ _ _)
      ·rfl
    ·rfl
  | _=>rfl
def I4 (ver e size:Nat) (rows' : List (List D)) (b:Option aI) (g:Option aI->Option β):Option β:=match b with
 | some (.rows v e' s' _)=>if ver = v ∧ e = e' ∧ size = s' then g (some (.rows v e size rows')) else none
 | _=>none
theorem WL (v e s:Nat) (rows rows' : List (List D)) (g:Option aI->Option β):I4 v e s rows' (some (.rows v e s rows)) g = g (some (.rows v e s rows')):=if_pos ⟨rfl,rfl,rfl⟩
theorem HQ {α:Type} {f e size:Nat} {ds:List D} {o:Option α} {y:α->D} {r:α->List (List D)} (h:call T f ds = o.map fun x=>.own (y x) [(e,size)] [r x]) (hy:∀ x,GM (y x) = true) (hr:∀ x,nS (r x) = true) (id ver:Nat) :
  NL T bl f id ver ds kw = o.bind fun x=>aY bl id fun b=>I4 ver e size (r x) b fun b'=>kw (toV (y x)) [(id,b')]:=by
 unfold NL
 rw [h]
 cases o with
 | none=>rfl
 | some x =>
  simp only [Option.map_some,Option.bind_some,aY,I4,hy x,hr x,and_true]
theorem oV {α:Type} (c:α->List D) (hc:∀ x,(c x).all E5 = true) (xs:List α):nS (cM c xs) = true:=by
 unfold nS cM
 rw [List.all_eq_true]
 intro row hr
 obtain ⟨x,_,rfl⟩:=List.mem_map.1 hr
 exact hc x
def aN9 (res:List jI) (t:Nat):Ex->St->Option D
 | .normal,s=>w9 ⟨0,0,res,.skip,true,true⟩ s t
 | .ret,s=>w9 ⟨0,0,res,.skip,true,true⟩ s t
 | .exit _,_=>none
def XI (ver:Nat) (b:Option aI) (g:Nat->Nat->List (List D)->Option D):Option D:=match b with
 | some (.rows v e size rows)=>if ver = v then g e size rows else none
 | _=>none
theorem aAz (v e s:Nat) (rows:List (List D)) (g:Nat->Nat->List (List D)->Option D):XI v (some (.rows v e s rows)) g = g e s rows:=if_pos rfl
def MX (e s:Nat) (rows:List (List D)) (y:D):Option D:=if GM y = true then some (.own y [(e,s)] [rows]) else none
theorem aIP (e s:Nat) (rows:List (List D)):MX e s rows (.tup []) = some (.own (.tup []) [(e,s)] [rows]):=rfl
theorem aKg (e s:Nat) (rows:List (List D)) (k:IntKind) (n:Int):MX e s rows (.int k n) = some (.own (.int k n) [(e,s)] [rows]):=rfl
theorem aIR (e s:Nat) (rows:List (List D)) (b:Bool):MX e s rows (.bool b) = some (.own (.bool b) [(e,s)] [rows]):=rfl
theorem aCJ (res:List jI) (t:Nat):w9 ⟨0,0,res,.skip,true,true⟩ ⟨fr,bl⟩ t = gZ fr t fun v=>U6 v fun id ver=>aY bl id fun b=>XI ver b fun e s rows=>(IL fr bl res LM).bind (MX e s rows):=by
 unfold w9 gZ
 rw [B7]
 cases lk fr .any t with
 | own id ver =>
  simp only [U6,aY,XI]
  rw [BP]
  cases lk bl none id with
  | none=>rfl
  | some b =>
   cases b with
   | rows v e size rows =>
    simp only
    split
    ·rw [← UB]
     cases aK (sC ⟨fr,bl⟩) res with
     | none=>rfl
     | some us =>
      cases us with
      | nil=>rfl
      | cons u us=>cases us with
       | nil=>simp only [BP]; cases iB (lk bl none) u <;> rfl
       | cons w us=>simp only [BP]; cases toD (lk bl none) (.tup (u :: w :: us)) <;> rfl
    ·rfl
   | _=>rfl
 | _=>rfl
theorem aQx (res:List jI) (t:Nat):aN9 res t .normal ⟨fr,bl⟩ = gZ fr t fun v=>U6 v fun id ver=>aY bl id fun b=>XI ver b fun e s rows=>(IL fr bl res LM).bind (MX e s rows):=aCJ res t
theorem aQW (res:List jI) (t:Nat):aN9 res t .ret ⟨fr,bl⟩ = gZ fr t fun v=>U6 v fun id ver=>aY bl id fun b=>XI ver b fun e s rows=>(IL fr bl res LM).bind (MX e s rows):=aCJ res t
theorem aPu (res:List jI) (t i:Nat) (s:St):aN9 res t (.exit i) s = none:=rfl
theorem aLP:LM [] = some (.tup []):=rfl
theorem QY {T:vA} {f np nt t:Nat} {res:List jI} {body:aH} {fs:Bool} (hf:T f = some (.code ⟨np,nt,res,body,fs,true⟩)) (ds:List D) (hl:ds.length = np) (hlt:iU 0 ds = some t) (hnd:yQ t body = true):Vm.call T f ds = bR T body (zZ t ds) (aN9 res t):=by
 rw [aFy hf ds hl hlt rfl hnd]
 unfold bR
 cases Vm.ev T body (zZ t ds) with
 | none=>rfl
 | some q =>
  obtain ⟨e,s⟩:=q
  cases e <;> rfl
end
section
variable {β:Type} {T:vA}
end
section
variable {β:Type} {T:vA} {fr:List (Nat × V)} {bl:List (Nat × Option aI)}
def AJ (fr:List (Nat × V)):List Nat->(List V->Option β)->Option β
 | [],k=>k []
 | t :: l,k=>gZ fr t fun v=>AJ fr l fun vs=>k (v :: vs)
theorem MQ (l:List Nat) (k:List V->Option β):AJ fr l k = k (l.map (lk fr .any)):=by
 induction l generalizing k with
 | nil=>rfl
 | cons x l ih=>simp only [AJ,gZ,ih,List.map_cons]
theorem aCh (k:List V->Option β):AJ fr [] k = k []:=rfl
theorem WY (t:Nat) (l:List Nat) (k:List V->Option β):AJ fr (t :: l) k = gZ fr t fun v=>AJ fr l fun vs=>k (v :: vs):=rfl
def aRg (args:List bD) (id:Nat) (slots:List Nat) (fr:List (Nat × V)) (bl:List (Nat × Option aI)) (k:List (Nat × V)->List (Nat × Option aI)->Option β):Option β :=
 aY bl id fun b=>fK b (AJ fr slots fun cs=>FA fr args fun vs=>k (mR 0 vs) ((id,some (.outer cs)) :: bl))
def inK (args:List bD) (id:Nat) (slots:List Nat) (s:St) (k:List (Nat × V)->List (Nat × Option aI)->Option β):Option β:=aRg args id slots s.fr s.bl k
theorem aPR (args:List bD) (id:Nat) (slots:List Nat) (k:List (Nat × V)->List (Nat × Option aI)->Option β):inK args id slots ⟨fr,bl⟩ k = aY bl id fun b=>fK b (AJ fr slots fun cs=>FA fr args fun vs=>k (mR 0 vs) ((id,some (.outer cs)) :: bl)):=rfl
theorem aDC (i:Nat):mR i [] = []:=rfl
theorem aCm (i:Nat) (v:V) (l:List V):mR i (v :: l) = (i,v) :: mR (i + 1) l:=rfl
theorem aOw (args:List bD) (id:Nat) (slots:List Nat) (k:St->Option β):(SE args id slots ⟨fr,bl⟩).bind k = inK args id slots ⟨fr,bl⟩ fun fr' bl'=>k ⟨fr',bl'⟩:=by
 unfold SE inK aRg aY fK
 rw [L9]
 cases hb:lk bl none id with
 | some b=>rfl
 | none =>
  simp only [Option.isNone_none,if_true,Option.bind_some,MQ,KK]
  rfl
def N2 (fr:List (Nat × V)) (bl:List (Nat × Option aI)):List jI->(List V->Option β)->Option β
 | [],k=>k []
 | .tmp t :: r,k=>gZ fr t fun v=>N2 fr bl r fun l=>k (v :: l)
 | .cell t size isAgg :: r,k=>gZ fr t fun p=>xL size isAgg p bl fun v=>N2 fr bl r fun l=>k (v :: l)
theorem aNI (res:List jI):∀ (k:List V->Option β),N2 fr bl res k = (aK (sC ⟨fr,bl⟩) res).bind k:=by
 induction res with
 | nil=>intro k; rfl
 | cons r res ih =>
  intro k
  cases r with
  | tmp t =>
   simp only [N2,gZ,ih,aK,sC,B7]
   cases aK (sC ⟨fr,bl⟩) res <;> rfl
  | cell t size isAgg =>
   simp only [N2,gZ,P3,ih,aK,sC,FY,B7,BP]
   cases LA size isAgg (lk fr .any t) (lk bl none) with
   | none=>rfl
   | some q =>
    obtain ⟨v,wr⟩:=q
    simp only [Option.bind_some]
    cases aK (sC ⟨fr,bl⟩) res <;> rfl
theorem aGL (k:List V->Option β):N2 fr bl [] k = k []:=rfl
theorem aP6 (t:Nat) (r:List jI) (k:List V->Option β):N2 fr bl (.tmp t :: r) k = gZ fr t fun v=>N2 fr bl r fun l=>k (v :: l):=rfl
theorem aQU (t size:Nat) (isAgg:Bool) (r:List jI) (k:List V->Option β):N2 fr bl (.cell t size isAgg :: r) k = gZ fr t fun p=>xL size isAgg p bl fun v=>N2 fr bl r fun l=>k (v :: l):=rfl
def SB (dst:Option Nat) (slots:List Nat) (cs vs:List V) (k:List (Nat × V)->Option β):Option β :=
 match vs with
 | [v]=>k (L2 dst v ++ slots.zip cs)
 | vs=>if vs.all V.noTup = true then k (L2 dst (.tup vs) ++ slots.zip cs) else none
theorem aGa (dst:Option Nat) (slots:List Nat) (cs:List V) (v:V) (k:List (Nat × V)->Option β):SB dst slots cs [v] k = k (L2 dst v ++ slots.zip cs):=rfl
theorem aGd (dst:Option Nat) (slots:List Nat) (cs:List V) (k:List (Nat × V)->Option β):SB dst slots cs [] k = k (L2 dst (.tup []) ++ slots.zip cs):=rfl
theorem QK (dst:Option Nat) (slots:List Nat) (cs:List V) (v u:V) (l:List V) (k:List (Nat × V)->Option β):SB dst slots cs (v :: u :: l) k = if (v :: u :: l).all V.noTup = true then k (L2 dst (.tup (v :: u :: l)) ++ slots.zip cs) else none:=rfl
theorem aGC (d:Nat) (v:V) (l:List (Nat × V)):L2 (some d) v ++ l = (d,v) :: l:=rfl
theorem aDB (v:V) (l:List (Nat × V)):L2 none v ++ l = l:=rfl
theorem aKo:([]:List Nat).zip ([]:List V) = []:=rfl
theorem aD6 (t:Nat) (v:V) (l:List Nat) (r:List V):(t :: l).zip (v :: r) = (t,v) :: l.zip r:=rfl
def GC (b:Option aI) (k:List V->Option β):Option β:=match b with
 | some (.outer cs)=>k cs
 | _=>none
theorem aGI (cs:List V) (k:List V->Option β):GC (some (.outer cs)) k = k cs:=rfl
def aH8 (dst:Option Nat) (res:List jI) (id:Nat) (slots:List Nat) (fr:List (Nat × V)) (bl:List (Nat × Option aI)) (k:List (Nat × V)->List (Nat × Option aI)->Option β):Option β :=
 aY bl id fun b=>GC b fun cs=>N2 fr bl res fun vs=>SB dst slots cs vs fun fr'=>k fr' ((id,none) :: bl)
theorem aNB (dst:Option Nat) (res:List jI) (id:Nat) (slots:List Nat) (k:List (Nat × V)->List (Nat × Option aI)->Option β):aH8 dst res id slots fr bl k = aY bl id fun b=>GC b fun cs=>N2 fr bl res fun vs=>SB dst slots cs vs fun fr'=>k fr' ((id,none) :: bl):=rfl
theorem WG (dst:Option Nat) (res:List jI) (id:Nat) (slots:List Nat) (k:St->Option β):(kI dst res id slots ⟨fr,bl⟩).bind k = aH8 dst res id slots fr bl fun fr' bl'=>k ⟨fr',bl'⟩:=by
 unfold kI aH8 aY
 rw [L9]
 cases hb:lk bl none id with
 | none=>cases aK (sC ⟨fr,bl⟩) res <;> rfl
 | some b =>
  cases b with
  | outer cs =>
   simp only [GC,aNI]
   cases aK (sC ⟨fr,bl⟩) res with
   | none=>rfl
   | some vs =>
    simp only [Option.bind_some]
    cases vs with
    | nil=>rfl
    | cons v vs=>cases vs with
     | nil=>rfl
     | cons u vs =>
      rw [QK]
      show (if (v :: u :: vs).all V.noTup = true then some _ else none).bind k = _
      split <;> rfl
  | _=>cases aK (sC ⟨fr,bl⟩) res <;> rfl
def QW (dst:Option Nat) (res:List jI) (id:Nat) (slots:List Nat) (k:Ex->St->Option β):Ex->St->Option β
 | .normal,s=>(kI dst res id slots s).bind fun s4=>k .normal s4
 | .ret,s=>(kI dst res id slots s).bind fun s4=>k .normal s4
 | .exit _,_=>none
theorem aHn (dst:Option Nat) (res:List jI) (id:Nat) (slots:List Nat) (k:Ex->St->Option β):QW dst res id slots k .normal ⟨fr,bl⟩ = aH8 dst res id slots fr bl fun fr' bl'=>k .normal ⟨fr',bl'⟩:=WG dst res id slots _
theorem aH2 (dst:Option Nat) (res:List jI) (id:Nat) (slots:List Nat) (k:Ex->St->Option β):QW dst res id slots k .ret ⟨fr,bl⟩ = aH8 dst res id slots fr bl fun fr' bl'=>k .normal ⟨fr',bl'⟩:=WG dst res id slots _
theorem aNG {k:Ex->St->Option β} (ops:List aM) (args:List bD) (dst:Option Nat) (f:Nat) (body:aH) (res:List jI) (id:Nat) (slots:List Nat) :
  bR T (.inl ops args dst f body res id slots) ⟨fr,bl⟩ k = sL T ops ⟨fr,bl⟩ fun s1=>inK args id slots s1 fun fr' bl'=>bR T body ⟨fr',bl'⟩ (QW dst res id slots k):=by
 rw [aMi]
 congr 1
 funext s1
 refine Eq.trans ?_ (aOw (fr:=s1.fr) (bl:=s1.bl) args id slots fun s=>bR T body s (QW dst res id slots k))
 congr 1
 funext s2
 congr 1
 funext ex s3
 cases ex <;> rfl
def J8 (keep:List Nat) (bl:List (Nat × Option aI)):List V->(List V->Option β)->Option β
 | [],k=>k []
 | v :: cs,k=>oB keep bl v fun v'=>J8 keep bl cs fun l=>k (v' :: l)
theorem aEZ (keep:List Nat) (cs:List V):∀ (k:List V->Option β),J8 keep bl cs k = k (cs.map (FC keep (lk bl none))):=by
 induction cs with
 | nil=>intro k; rfl
 | cons v cs ih=>intro k; simp only [J8,oB,ih,List.map_cons]
theorem aA6 (keep:List Nat) (k:List V->Option β):J8 keep bl [] k = k []:=rfl
theorem Y6 (keep:List Nat) (v:V) (cs:List V) (k:List V->Option β):J8 keep bl (v :: cs) k = oB keep bl v fun v'=>J8 keep bl cs fun l=>k (v' :: l):=rfl
theorem VC (keep:List Nat) (cs:List V) (k:Option aI->Option β):wG keep bl (some (.outer cs)) k = J8 keep bl cs fun l=>k (some (.outer l)):=by rw [aEZ]; rfl
end
section
variable {β:Type} {T:vA} {d:Nat} {fr:List (Nat × V)} {bl:List (Nat × Option aI)} {k:V->Option β} {kw:V->List (Nat × Option aI)->Option β}
noncomputable def wK (T:vA) (d:Nat) (bl:List (Nat × Option aI)) (f:Nat) (ds:List D) (k:V->Option β) (kw:V->List (Nat × Option aI)->Option β):Option β:=match call T f ds with
 | some (.own x es rs)=>if HS x rs = true then DH (nK d (lk bl none) [] (.own x es rs)) k kw else none
 | _=>none
theorem aFe (f:Nat) (args:List bD):qL T d (.calln f args) fr bl k kw = NS fr bl args fun ds _=>wK T d bl f ds k kw:=by
 rw [iH,Y8]
 simp only [bZ]
 cases aK (fun x=>iB (lk bl none) (bC (lk fr .any) x)) args with
 | none=>rfl
 | some ds =>
  simp only [Option.bind_some,wK]
  cases call T f ds with
  | none=>rfl
  | some y =>
   cases y with
   | own x es rs=>simp only; split <;> rfl
   | _=>rfl
theorem aEP (f:Nat) (args:List bD) (k:List Nat->Option β):E1 d (.calln f args) fr bl k = BS fr bl args k:=by
 rw [HV]; rfl
theorem oC {x:D} {rs:List (List (List D))} (h1:aCC x = true) (h2:rs.all nS = true):HS x rs = true:=by simp only [HS,h1,h2,Bool.and_self]
theorem vO {r:List (List D)} {rs:List (List (List D))} (h1:nS r = true) (h2:rs.all nS = true):(r :: rs).all nS = true:=by simp only [List.all_cons,h1,h2,Bool.and_self]
theorem rM {α:Type} {f:Nat} {ds:List D} {o:Option α} {y:α->D} {p:Nat × Nat} {es:List (Nat × Nat)} {r:α->List (List D)} {rs:α->List (List (List D))} (h:call T f ds = o.map fun x=>.own (y x) (p :: es) (r x :: rs x)) (hn:∀ x,HS (y x) (r x :: rs x) = true) :
  wK T d bl f ds k kw = o.bind fun x=>WO bl (fA d 0 (p :: es) (r x :: rs x)) (kw (thaw d (y x)) (fA d 0 (p :: es) (r x :: rs x))):=by
 unfold wK
 rw [h]
 cases o with
 | none=>rfl
 | some x =>
  simp only [Option.map_some,Option.bind_some,nK,OX,hn x,if_true,List.append_nil]
  split
  ·obtain ⟨e,s⟩:=p; rfl
  ·rfl
end
end Vm
end Go.Proofs.Ytgjcnbgfaimepaa
namespace Go.Proofs.Ytgjcnbgfaimepaa
namespace Vm
open Go.RowKit
section
variable {β:Type} {T:vA} {d:Nat} {fr:List (Nat × V)} {bl:List (Nat × Option aI)} {k:V->Option β} {kw:V->List (Nat × Option aI)->Option β}
def RV (b:Option aI) (x:Option β):Option β:=match b with
 | some (.box _)=>x
 | some (.fbox _)=>x
 | _=>none
theorem aDD (cs:List V) (x:Option β):RV (some (.box cs)) x = x:=rfl
theorem aBn (cs:List D) (x:Option β):RV (some (.fbox cs)) x = x:=rfl
def aQg:Option aI->Bool
 | some (.box _)=>true
 | some (.fbox _)=>true
 | _=>false
theorem aHY (b:Option aI) (x:Option β):RV b x = if aQg b = true then x else none:=by
 cases b with
 | none=>rfl
 | some b=>cases b <;> rfl
def aJB (v:V) (bl:List (Nat × Option aI)) (k:V->Option β):Option β:=match v with
 | .ptr id off=>aY bl id fun b=>RV b (k (.ptr id off))
 | _=>none
theorem aG8 (id off:Nat):aJB (.ptr id off) bl k = aY bl id fun b=>RV b (k (.ptr id off)):=rfl
def JP (fr:List (Nat × V)) (bl:List (Nat × Option aI)):List bD->(List V->Option β)->Option β
 | [],k=>k []
 | x :: l,k=>bM fr x fun v=>aJB v bl fun u=>JP fr bl l fun us=>k (u :: us)
theorem ZM (k:List V->Option β):JP fr bl [] k = k []:=rfl
theorem M5 (x:bD) (l:List bD) (k:List V->Option β):JP fr bl (x :: l) k = bM fr x fun v=>aJB v bl fun u=>JP fr bl l fun us=>k (u :: us):=rfl
theorem aOf (v:V):aJB v bl k = if MZ (lk bl none) v = true then k v else none:=by
 cases v with
 | ptr id off =>
  show RV (lk bl none id) (k (.ptr id off)) = if MZ (lk bl none) (.ptr id off) = true then _ else _
  have:MZ (lk bl none) (.ptr id off) = aQg (lk bl none id):=by
   show (match lk bl none id with | some (.box _)=>true | some (.fbox _)=>true | _=>false) = aQg (lk bl none id)
   cases lk bl none id with
   | none=>rfl
   | some b=>cases b <;> rfl
  rw [this]
  exact aHY _ _
 | _=>rfl
theorem aFT (l:List bD):∀ (k:List V->Option β),JP fr bl l k = if (l.map (bC (lk fr .any))).all (MZ (lk bl none)) = true then k (l.map (bC (lk fr .any))) else none:=by
 induction l with
 | nil=>intro k; rfl
 | cons x l ih =>
  intro k
  rw [M5]
  unfold bM
  show aJB (bC (lk fr .any) x) bl (fun u=>JP fr bl l fun us=>k (u :: us)) = _
  rw [aOf,List.map_cons,List.all_cons]
  cases MZ (lk bl none) (bC (lk fr .any) x) with
  | false=>rfl
  | true =>
   rw [if_pos rfl,ih,Bool.true_and]
theorem aFi (f:Nat) (caps:List bD):qL T d (.mkfnv f caps) fr bl k kw = JP fr bl caps fun vs=>k (.fn f vs):=by
 rw [aFT]
 unfold qL
 simp only [bZ]
 split
 ·rename_i h
  split at h
  ·cases h
  ·rename_i hc; rw [if_neg hc]
 ·rename_i v h
  split at h
  ·rename_i hc
   cases h
   rw [if_pos hc]
  ·cases h
 ·rename_i v p wr h
  split at h
  ·cases h
  ·cases h
theorem aEo (f:Nat) (vs:List V) (k:List V->Option β):uH (.fn f vs) k = k [.fn f vs]:=rfl
def aB9 (keep:List Nat) (id:Nat) (b:Option aI) (x y:Option β):Option β:=match b with
 | some (.box _)=>eV keep id x y
 | _=>y
theorem aIt (keep:List Nat) (id:Nat) (cs:List V) (x y:Option β):aB9 keep id (some (.box cs)) x y = eV keep id x y:=rfl
theorem aEz (keep:List Nat) (id:Nat) (cs:List D) (x y:Option β):aB9 keep id (some (.fbox cs)) x y = y:=rfl
theorem aEK (keep:List Nat) (id:Nat) (x y:Option β):aB9 keep id none x y = y:=rfl
def aMw (keep:List Nat) (id:Nat):Option aI->Bool
 | some (.box _)=>keep.contains id
 | _=>false
theorem aMa (keep:List Nat) (id:Nat) (b:Option aI) (x y:Option β):aB9 keep id b x y = if aMw keep id b = true then x else y:=by
 cases b with
 | none=>rfl
 | some b=>cases b <;> rfl
def fnK (keep:List Nat) (bl:List (Nat × Option aI)):List V->Option β->Option β->Option β
 | [],x,_=>x
 | .ptr id _ :: l,x,y=>aY bl id fun b=>aB9 keep id b (fnK keep bl l x y) y
 | _ :: _,_,y=>y
theorem aLj (keep:List Nat) (x y:Option β):fnK keep bl [] x y = x:=rfl
theorem aC7 (keep:List Nat) (id off:Nat) (l:List V) (x y:Option β):fnK keep bl (.ptr id off :: l) x y = aY bl id fun b=>aB9 keep id b (fnK keep bl l x y) y:=rfl
theorem aKu (keep:List Nat) (x y:Option β):∀ l:List V,fnK keep bl l x y = if l.all (aCY keep (lk bl none)) = true then x else y
 | []=>rfl
 | v :: l=>by
  rw [List.all_cons]
  cases v with
  | ptr id off =>
   rw [aC7]
   show aB9 keep id (lk bl none id) (fnK keep bl l x y) y = _
   have:aCY keep (lk bl none) (.ptr id off) = aMw keep id (lk bl none id):=by
    show (match lk bl none id with | some (.box _)=>keep.contains id | _=>false) = aMw keep id (lk bl none id)
    cases lk bl none id with
    | none=>rfl
    | some b=>cases b <;> rfl
   rw [aMa,aKu keep x y l,this]
   cases aMw keep id (lk bl none id) <;> rfl
  | _=>rfl
theorem aJv (keep:List Nat) (f:Nat) (vs:List V):oB keep bl (.fn f vs) k = fnK keep bl vs (k (.fn f vs)) (k .any):=by
 rw [aKu]
 unfold oB
 simp only [FC,NV,rT]
 split <;> rfl
theorem aFP (keep:List Nat) (f:Nat) (vs cs:List V) (k:List V->Option β):qB keep bl (.fn f vs :: cs) k = oB keep bl (.fn f vs) fun v=>qB keep bl cs fun l=>k (v :: l):=by simp only [rI]; rfl
def O7 (f nc:Nat) (v:V) (k:List V->Option β):Option β:=(ET f nc v).bind k
theorem aD9 (f nc g:Nat) (vs:List V) (k:List V->Option β):O7 f nc (.fn g vs) k = if g = f ∧ vs.length = nc then k vs else none:=by
 unfold O7 ET
 simp only
 split <;> rfl
def aRU (x:bD) (nc f:Nat) (args:List bD) (id:Nat) (slots:List Nat) (fr:List (Nat × V)) (bl:List (Nat × Option aI)) (k:List (Nat × V)->List (Nat × Option aI)->Option β):Option β :=
 bM fr x fun v=>O7 f nc v fun caps=>aY bl id fun b=>fK b (AJ fr slots fun cs=>FA fr args fun vs=>k (mR 0 (vs ++ caps)) ((id,some (.outer cs)) :: bl))
def aRA (x:bD) (nc f:Nat) (args:List bD) (id:Nat) (slots:List Nat) (s:St) (k:List (Nat × V)->List (Nat × Option aI)->Option β):Option β:=aRU x nc f args id slots s.fr s.bl k
theorem aDh (x:bD) (nc f:Nat) (args:List bD) (id:Nat) (slots:List Nat) (k:List (Nat × V)->List (Nat × Option aI)->Option β):aRA x nc f args id slots ⟨fr,bl⟩ k = bM fr x fun v=>O7 f nc v fun caps=>aY bl id fun b=>fK b (AJ fr slots fun cs=>FA fr args fun vs=>k (mR 0 (vs ++ caps)) ((id,some (.outer cs)) :: bl)):=rfl
theorem aG0 {k:Ex->St->Option β} (ops:List aM) (x:bD) (nc:Nat) (args:List bD) (dst:Option Nat) (f:Nat) (body:aH) (res:List jI) (id:Nat) (slots:List Nat) (s:St) :
  bR T (.inlv ops x nc args dst f body res id slots) s k = sL T ops s fun s1=>(ET f nc (bC s1.get x)).bind fun caps=>(BW (args.map (bC s1.get) ++ caps) id slots s1).bind fun s2=>bR T body s2 fun ex s3=>match ex with
   | .exit _=>none
   | _=>(kI dst res id slots s3).bind fun s4=>k .normal s4:=by
 unfold bR sL
 rw [aLS]
 cases hJ (call T) ops s with
 | none=>rfl
 | some s1 =>
  simp only [Option.bind_some]
  cases ET f nc (bC s1.get x) with
  | none=>rfl
  | some caps =>
   simp only [Option.bind_some]
   cases BW (args.map (bC s1.get) ++ caps) id slots s1 with
   | none=>rfl
   | some s2 =>
    simp only [Option.bind_some]
    cases ev T body s2 with
    | none=>rfl
    | some q =>
     obtain ⟨e,s3⟩:=q
     cases e with
     | normal=>simp only [Option.bind_some]; cases kI dst res id slots s3 <;> rfl
     | exit i=>rfl
     | ret=>simp only [Option.bind_some]; cases kI dst res id slots s3 <;> rfl
theorem aHr {k:Ex->St->Option β} (ops:List aM) (x:bD) (nc:Nat) (args:List bD) (dst:Option Nat) (f:Nat) (body:aH) (res:List jI) (id:Nat) (slots:List Nat) :
  bR T (.inlv ops x nc args dst f body res id slots) ⟨fr,bl⟩ k = sL T ops ⟨fr,bl⟩ fun s1=>aRA x nc f args id slots s1 fun fr' bl'=>bR T body ⟨fr',bl'⟩ (QW dst res id slots k):=by
 rw [aG0]
 congr 1
 funext s1
 obtain ⟨fr1,bl1⟩:=s1
 rw [aDh]
 unfold bM O7
 show (ET f nc (bC (lk fr1 .any) x)).bind _ = (ET f nc (bC (lk fr1 .any) x)).bind _
 congr 1
 funext caps
 unfold BW aY fK
 rw [L9]
 cases hb:lk bl1 none id with
 | some b=>rfl
 | none =>
  simp only [Option.isNone_none,if_true,Option.bind_some,MQ,KK]
  congr 1
  funext ex s3
  cases ex <;> rfl
theorem aMf (f:Nat) (vs:List V) (k:List Nat->Option β):G8 (.fn f vs) k = k []:=rfl
theorem aGU (f:Nat) (vs:List V) (k:List Nat->Option β):xQ bl (.fn f vs) k = k []:=rfl
theorem aFa (f:Nat) (vs cs:List V) (k:List Nat->Option β):qT bl (.fn f vs :: cs) k = qT bl cs k:=by simp only [uV]; rfl
theorem aE2 (f:Nat) (vs cs:List V) (k:List Nat->Option β):qW (.fn f vs :: cs) k = qW cs k:=by simp only [uP]; rfl
end
end Vm
end Go.Proofs.Ytgjcnbgfaimepaa
namespace Go.Proofs.Ytgjcnbgfaimepaa
namespace Vm
open Go.RowKit Vm
def KI (rows:List (List D)):Bool:=rows.all fun row=>row.all D.atom
def UO (E size bytes:Nat):List D->Option D
 | [.sl rows]=>if sized size rows = true ∧ KI rows = true ∧ rows.length * bytes <= 140737488355328 then some (.own (.ref 0) [(E,size)] [rows]) else none
 | _=>none
theorem aG3 {α:Type} (c:α->List D) (xs:List α) (h:∀ x,(c x).all D.atom = true):KI (cM c xs) = true:=by
 unfold KI cM
 rw [List.all_eq_true]
 intro row hr
 obtain ⟨x,_,rfl⟩:=List.mem_map.1 hr
 exact h x
end Vm
end Go.Proofs.Ytgjcnbgfaimepaa
