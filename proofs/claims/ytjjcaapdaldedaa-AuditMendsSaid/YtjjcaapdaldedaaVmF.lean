/- The small machine, read from the front: slices that are laid out, calls, masks, answers. The small machine, read from the front: regions whose order is drawn. The small machine, read from the front: slices that are lent, cut, cleared. The small machine, read from the front: function values that hold boxes. -/
import Derived.Test.YtjjcaapdaldedaaVmE
set_option linter.unusedVariables false
set_option linter.unusedSimpArgs false
namespace Go.Proofs.Ytjjcaapdaldedaa
theorem zA.{u} {α:Type u} {a:α} {l:List α}:(a::l).length = l.length + 1:=rfl
theorem zB.{u} {α:Type u}:([]:List α).length = 0:=rfl
theorem zC:(!true) = false:=rfl
theorem zD:(!false) = true:=rfl
theorem zE.{u} {α:Type u} {n:Nat} {a:α}:List.replicate (n + 1) a = a::List.replicate n a:=rfl
theorem zF.{u} {α:Type u} {a:α}:List.replicate 0 a = []:=rfl
theorem zG.{u,v} {α:Type u} {β:Type v} (a:α) (f:α->Option β):(some a).bind f = f a:=rfl
theorem zH.{u,v} {α:Type u} {β:Type v} (a:α) (f:α->β):(some a).map f = some (f a):=rfl
theorem zI.{u,v} {α:Type u} {β:Type v} (f:α->β):(none:Option α).map f = none:=rfl
theorem zJ.{u,v,w} {α:Type u} {β:Type v} {γ:Sort w} (f:α->γ) (g:β->γ) (x:α):Sum.elim f g (Sum.inl x) = f x:=rfl
theorem zK.{u,v,w} {α:Type u} {β:Type v} {γ:Sort w} (f:α->γ) (g:β->γ) (x:β):Sum.elim f g (Sum.inr x) = g x:=rfl
theorem zL.{u,v,w} {α:Type u} {β:Type v} {γ:Type w} (x:Option α) (f:α->Option β) (g:β->Option γ):(x.bind f).bind g = x.bind fun y=>(f y).bind g:=Option.bind_assoc x f g
theorem zM.{u} {α:Type u} [BEq α] [ReflBEq α] (a:α):(a == a) = true:=beq_self_eq_true a
theorem zN:(¬False) = True:=not_false_eq_true
namespace Vm
open Go.RowKit
section
variable {β:Type} {T:zS} {d:Nat} {fr:List (Nat × V)} {bl:List (Nat × Option aH)} {k:V->Option β} {kw:V->List (Nat × Option aH)->Option β}
def A4 (bl:List (Nat × Option aH)):List V->(List D->List (Nat × Option aH)->Option β)->Option β
 | [],k=>k [] []
 | v :: cs,k=>(j8 (lk bl none) v).bind fun x=>A4 bl cs fun ds f=>k (x :: ds) (B6 (lk bl none) v ++ f)
theorem WE (cs:List V) (k:List D->List (Nat × Option aH)->Option β):A4 bl cs k = (aJ (j8 (lk bl none)) cs).bind fun ds=>k ds (cs.flatMap (B6 (lk bl none))):=by
 induction cs generalizing k with
 | nil=>rfl
 | cons v cs ih =>
  simp only [A4,aJ,ih,List.flatMap_cons]
  cases j8 (lk bl none) v with
  | none=>rfl
  | some x=>cases aJ (j8 (lk bl none)) cs <;> rfl
def d1K (v:V) (bl:List (Nat × Option aH)) (k:D->List (Nat × Option aH)->Option β):Option β:=(j8 (lk bl none) v).bind fun x=>k x (B6 (lk bl none) v)
theorem aL7 (x:D) (k:D->List (Nat × Option aH)->Option β):d1K (.d x) bl k = k x []:=rfl
def d1B (id ver:Nat) (b:Option aH) (k:D->List (Nat × Option aH)->Option β):Option β:=match b with
 | some (.rows v _ _ rows)=>if ver = v then k (.sl rows) [(id,some (.froz v rows))] else none
 | some (.froz v rows)=>if ver = v then k (.sl rows) [] else none
 | _=>none
theorem aHQ (id ver:Nat) (k:D->List (Nat × Option aH)->Option β):d1K (.own id ver) bl k = cV bl id fun b=>d1B id ver b k:=by
 unfold d1K cV d1B
 simp only [j8,B6,rA,JV]
 generalize lk bl none id = b
 cases b with
 | none=>rfl
 | some b=>cases b with
  | rows v e s rows=>simp only; by_cases h:ver = v <;> simp [h]
  | froz v rows=>simp only; by_cases h:ver = v <;> simp [h]
  | _=>rfl
theorem aGn (id v e s:Nat) (rows:List (List D)) (k:D->List (Nat × Option aH)->Option β):d1B id v (some (.rows v e s rows)) k = k (.sl rows) [(id,some (.froz v rows))]:=if_pos rfl
def zU (bl:List (Nat × Option aH)):List V->(List D->List (Nat × Option aH)->Option β)->Option β
 | [],k=>k [] []
 | v :: cs,k=>(rA (lk bl none) v).bind fun x=>zU bl cs fun ds f=>k (x :: ds) (JV (lk bl none) v ++ f)
theorem aCM (cs:List V) (k:List D->List (Nat × Option aH)->Option β):zU bl cs k = (aJ (rA (lk bl none)) cs).bind fun ds=>k ds (cs.flatMap (JV (lk bl none))):=by
 induction cs generalizing k with
 | nil=>rfl
 | cons v cs ih =>
  simp only [zU,aJ,ih,List.flatMap_cons]
  cases rA (lk bl none) v with
  | none=>rfl
  | some x=>cases aJ (rA (lk bl none)) cs <;> rfl
theorem aAL (k:List D->List (Nat × Option aH)->Option β):zU bl [] k = k [] []:=rfl
theorem aHa (x:D) (cs:List V) (k:List D->List (Nat × Option aH)->Option β):zU bl (.d x :: cs) k = zU bl cs fun ds f=>k (x :: ds) f:=rfl
theorem RZ (ds:List D) (k:List D->List (Nat × Option aH)->Option β):zU bl (aR ds) k = k ds []:=by
 have:∀ (ds:List D) (k:List D->List (Nat × Option aH)->Option β),zU bl (aR ds) k = k ds []:=by
  intro ds
  induction ds with
  | nil=>intro k; rfl
  | cons x ds ih=>intro k; show zU bl (aR ds) _ = _; rw [ih]; rfl
 exact this ds k
def d1P (id off:Nat) (b:Option aH) (bl:List (Nat × Option aH)) (k:D->List (Nat × Option aH)->Option β):Option β:=match b with
 | some (.box cs)=>zU bl cs fun ds f=>k (.ptr ds off) ((id,some (.fbox ds)) :: f)
 | some (.fbox ds)=>k (.ptr ds off) []
 | _=>none
theorem aJx (id off:Nat) (k:D->List (Nat × Option aH)->Option β):d1K (.ptr id off) bl k = cV bl id fun b=>d1P id off b bl k:=by
 unfold d1K cV d1P
 simp only [j8,B6]
 cases lk bl none id with
 | none=>rfl
 | some b=>cases b with
  | box cs =>
   simp only [aCM]
   cases aJ (rA (lk bl none)) cs <;> rfl
  | _=>rfl
theorem aJq (id off:Nat) (c:V) (cs:List V) (k:D->List (Nat × Option aH)->Option β):d1P id off (some (.box (c :: cs))) bl k = zU bl (c :: cs) fun ds f=>k (.ptr ds off) ((id,some (.fbox ds)) :: f):=rfl
theorem Y0 (id off:Nat) (ds:List D) (k:D->List (Nat × Option aH)->Option β):d1P id off (some (.box (aR ds))) bl k = k (.ptr ds off) [(id,some (.fbox ds))]:=by
 show zU bl (aR ds) _ = _
 rw [RZ]
theorem aDh (k:List D->List (Nat × Option aH)->Option β):A4 bl [] k = k [] []:=rfl
theorem aI0 (x:D) (cs:List V) (k:List D->List (Nat × Option aH)->Option β):A4 bl (.d x :: cs) k = A4 bl cs fun ds f=>k (x :: ds) f:=rfl
theorem aJu (cs:List V) (k:List D->List (Nat × Option aH)->Option β):A4 bl (.nil :: cs) k = A4 bl cs fun ds f=>k (.sl [] :: ds) f:=rfl
theorem aB4 (id ver:Nat) (cs:List V) (k:List D->List (Nat × Option aH)->Option β):A4 bl (.own id ver :: cs) k = d1K (.own id ver) bl fun x g=>A4 bl cs fun ds f=>k (x :: ds) (g ++ f):=rfl
theorem LC (ds:List D) (k:List D->List (Nat × Option aH)->Option β):A4 bl (aR ds) k = k ds []:=by
 have:∀ (ds:List D) (k:List D->List (Nat × Option aH)->Option β),A4 bl (aR ds) k = k ds []:=by
  intro ds
  induction ds with
  | nil=>intro k; rfl
  | cons x ds ih=>intro k; show A4 bl (aR ds) _ = _; rw [ih]; rfl
 exact this ds k
def FD (v:V) (bl:List (Nat × Option aH)) (k:D->List (Nat × Option aH)->Option β):Option β:=(jR (lk bl none) v).bind fun x=>k x (vY (lk bl none) v)
theorem aK0 (x:D) (k:D->List (Nat × Option aH)->Option β):FD (.d x) bl k = k x []:=rfl
theorem aF7 (k:D->List (Nat × Option aH)->Option β):FD .nil bl k = k (.sl []) []:=rfl
theorem aFx (id ver:Nat) (k:D->List (Nat × Option aH)->Option β):FD (.own id ver) bl k = d1K (.own id ver) bl k:=rfl
theorem V4 (cs:List V) (k:D->List (Nat × Option aH)->Option β):FD (.agg cs) bl k = A4 bl cs fun ds f=>k (.agg ds) f:=by
 rw [WE]
 show ((aJ (j8 (lk bl none)) cs).map D.agg).bind _ = _
 cases aJ (j8 (lk bl none)) cs <;> rfl
theorem aCE (ds:List D) (k:D->List (Nat × Option aH)->Option β):FD (jQ ds) bl k = k (.agg ds) []:=by
 show FD (.agg (aR ds)) bl k = _
 rw [V4,LC]
theorem aKt (x:D) (k:List D->List (Nat × Option aH)->Option β):QZ (.d x) bl k = k [x] []:=rfl
theorem W5 (cs:List V) (k:List D->List (Nat × Option aH)->Option β):QZ (.agg cs) bl k = A4 bl cs k:=by
 rw [WE]
 show (match aJ (j8 (lk bl none)) cs with | some row=>k row (cs.flatMap (B6 (lk bl none))) | none=>none) = _
 cases aJ (j8 (lk bl none)) cs <;> rfl
theorem aCZ (ds:List D) (k:List D->List (Nat × Option aH)->Option β):QZ (jQ ds) bl k = k ds []:=by
 show QZ (.agg (aR ds)) bl k = _
 rw [W5,LC]
theorem aFQ (id ver:Nat) (k:List D->List (Nat × Option aH)->Option β):QZ (.own id ver) bl k = d1K (.own id ver) bl fun x f=>k [x] f:=by
 unfold QZ d1K
 show (match aJ (j8 (lk bl none)) [.own id ver] with | some row=>k row (B6 (lk bl none) (.own id ver)) | none=>none) = _
 simp only [aJ]
 cases j8 (lk bl none) (.own id ver) <;> rfl
def WZ (rs:List (List D)) (i:Nat) (row:List D) (k:List (List D)->Option β):Option β:=if i < rs.length then k (rs.set i row) else none
theorem aK8 (r:List D) (rs:List (List D)) (row:List D) (k:List (List D)->Option β):WZ (r :: rs) 0 row k = k (row :: rs):=by simp [WZ]
theorem aLD (r:List D) (rs:List (List D)) (i:Nat) (row:List D) (k:List (List D)->Option β):WZ (r :: rs) (i + 1) row k = WZ rs i row fun l=>k (r :: l):=by
 unfold WZ
 simp only [List.length_cons,List.set_cons_succ]
 by_cases h:i < rs.length
 ·rw [if_pos h,if_pos (by omega)]
 ·rw [if_neg h,if_neg (by omega)]
def bsF (fr:List (Nat × V)) (bl:List (Nat × Option aH)) (size:Nat) (rs:List (List D)):List (Nat × bS)->List (Nat × Option aH)->(List (List D)->List (Nat × Option aH)->Option β)->Option β
 | [],wr,k=>k rs wr
 | (i,x) :: r,wr,k=>dL fr x fun v=>QZ v bl fun row f=>rH row size (WZ rs i row fun rs'=>bsF fr bl size rs' r (wr ++ f) k)
theorem aJv (size:Nat) (rs:List (List D)) (wr:List (Nat × Option aH)) (k:List (List D)->List (Nat × Option aH)->Option β):bsF fr bl size rs [] wr k = k rs wr:=rfl
theorem aFm (size:Nat) (rs:List (List D)) (i:Nat) (x:bS) (r:List (Nat × bS)) (wr:List (Nat × Option aH)) (k:List (List D)->List (Nat × Option aH)->Option β):bsF fr bl size rs ((i,x) :: r) wr k = dL fr x fun v=>QZ v bl fun row f=>rH row size (WZ rs i row fun rs'=>bsF fr bl size rs' r (wr ++ f) k):=rfl
theorem aLA (size:Nat) (parts:List (Nat × bS)):∀ (rs:List (List D)) (wr:List (Nat × Option aH)) (k:List (List D)->List (Nat × Option aH)->Option β),bsF fr bl size rs parts wr k = (lO (lk bl none) size rs (parts.map fun p=>(p.1,bH (lk fr .any) p.2))).bind fun rs'=>k rs' (wr ++ parts.flatMap fun p=>vY (lk bl none) (bH (lk fr .any) p.2)):=by
 induction parts with
 | nil=>intro rs wr k; simp [bsF,lO]
 | cons p r ih =>
  intro rs wr k
  obtain ⟨i,x⟩:=p
  simp only [bsF,dL,QZ,List.map_cons,lO,List.flatMap_cons]
  cases aJ (j8 (lk bl none)) (bH (lk fr .any) x).cells with
  | none=>rfl
  | some row =>
   simp only [rH,WZ]
   by_cases h1:row.length = size
   ·by_cases h2:i < rs.length
    ·rw [if_pos h1,if_pos h2,if_pos ⟨h1,h2⟩,ih,List.append_assoc]
    ·rw [if_pos h1,if_neg h2,if_neg (fun q=>h2 q.2)]; rfl
   ·rw [if_neg h1,if_neg (fun q=>h1 q.1)]; rfl
theorem P3 (e size n:Nat) (z:List D) (parts:List (Nat × bS)):yN T d (.buildSlice e size z n parts) fr bl k kw = cV bl d fun b=>lS b (bsF fr bl size (List.replicate n z) parts [] fun rows wr=>QB e rows fun rows=>kw (.own d 0) ((d,some (.rows 0 e size rows)) :: wr)):=by
 rw [rK]
 unfold cV lS QB
 simp only [b7,aLA,List.nil_append]
 cases lk bl none d with
 | some b=>rfl
 | none =>
  simp only
  have e1:(parts.map fun x=>match x with | (i,x)=>(i,bH (lk fr .any) x)) = parts.map fun p=>(p.1,bH (lk fr .any) p.2):=rfl
  have e2:(parts.flatMap fun x=>match x with | (_,x)=>vY (lk bl none) (bH (lk fr .any) x)) = parts.flatMap fun p=>vY (lk bl none) (bH (lk fr .any) p.2):=rfl
  rw [e1,e2]
  cases lO (lk bl none) size (List.replicate n z) (parts.map fun p=>(p.1,bH (lk fr .any) p.2)) <;> rfl
def NT (fr:List (Nat × V)) (bl:List (Nat × Option aH)):List bS->(List D->List (Nat × Option aH)->Option β)->Option β
 | [],k=>k [] []
 | x :: l,k=>dL fr x fun v=>FD v bl fun y f=>NT fr bl l fun ds g=>k (y :: ds) (f ++ g)
theorem aDz (k:List D->List (Nat × Option aH)->Option β):NT fr bl [] k = k [] []:=rfl
theorem YY (x:bS) (l:List bS) (k:List D->List (Nat × Option aH)->Option β):NT fr bl (x :: l) k = dL fr x fun v=>FD v bl fun y f=>NT fr bl l fun ds g=>k (y :: ds) (f ++ g):=rfl
theorem W2 (l:List bS) (k:List D->List (Nat × Option aH)->Option β):NT fr bl l k = (aJ (fun x=>jR (lk bl none) (bH (lk fr .any) x)) l).bind fun ds=>k ds (l.flatMap fun x=>vY (lk bl none) (bH (lk fr .any) x)):=by
 induction l generalizing k with
 | nil=>rfl
 | cons x l ih =>
  simp only [NT,dL,FD,aJ,ih,List.flatMap_cons]
  cases jR (lk bl none) (bH (lk fr .any) x) with
  | none=>rfl
  | some y=>cases aJ (fun x=>jR (lk bl none) (bH (lk fr .any) x)) l <;> rfl
def fzK (fz:List (Nat × Option aH)) (v:V) (k:V->Option β) (kw:V->List (Nat × Option aH)->Option β):Option β:=match fz with
 | []=>k v
 | p :: w=>kw v (p :: w)
theorem aJC (v:V):fzK [] v k kw = k v:=rfl
theorem aKN (l:List (Nat × Option aH)) (v:V):fzK ([] ++ l) v k kw = fzK l v k kw:=rfl
theorem aKs (p:Nat × Option aH) (w l:List (Nat × Option aH)) (v:V):fzK ((p :: w) ++ l) v k kw = kw v ((p :: w) ++ l):=rfl
noncomputable def F6 (T:zS) (d:Nat) (bl:List (Nat × Option aH)) (f:Nat) (ds:List D) (fz:List (Nat × Option aH)) (k:V->Option β) (kw:V->List (Nat × Option aH)->Option β):Option β:=match call T f ds with
 | none=>none
 | some r=>KG (qC d (lk bl none) fz r) k kw
theorem aFU (f:Nat) (args:List bS):yN T d (.call f args) fr bl k kw = NT fr bl args fun ds fz=>F6 T d bl f ds fz k kw:=by
 rw [rK,W2]
 simp only [b7]
 cases aJ (fun x=>jR (lk bl none) (bH (lk fr .any) x)) args with
 | none=>rfl
 | some ds =>
  simp only [Option.bind_some,F6]
  cases call T f ds <;> rfl
def D.calm:D->Bool
 | .own _ _ _=>false
 | _=>true
theorem aBD {x:D} (h:x.calm = true):∀ y es rs,x ≠ .own y es rs:=fun y es rs e=>by rw [e] at h; cases h
theorem aBO {x:D} (h:LW x = true):x.calm = true:=by cases x <;> first | rfl | cases h
theorem aAz {α:Type} {f:Nat} {ds:List D} {o:Option α} {enc:α->D} (h:call T f ds = o.map enc) (hf:∀ x,LW (enc x) = true) (fz:List (Nat × Option aH)):F6 T d bl f ds fz k kw = o.bind fun x=>k (toV (enc x)):=by
 unfold F6
 rw [h]
 cases o with
 | none=>rfl
 | some x=>simp only [Option.map_some,Option.bind_some]; rw [EA (aBD (aBO (hf x))),if_pos (hf x)]; rfl
theorem YP {α:Type} {f:Nat} {ds:List D} {o:Option α} {enc:α->D} (h:call T f ds = o.map enc) (hf:∀ x,LW (enc x) = false) (hc:∀ x,(enc x).calm = true) (fz:List (Nat × Option aH)):F6 T d bl f ds fz k kw = o.bind fun x=>fzK fz (toV (enc x)) k kw:=by
 unfold F6
 rw [h]
 cases o with
 | none=>rfl
 | some x=>simp only [Option.map_some,Option.bind_some]; rw [EA (aBD (hc x)),if_neg (by rw [hf x]; decide)]; cases fz <;> rfl
def aBF (bl:List (Nat × Option aH)):List (Nat × Option aH)->Option β->Option β
 | [],x=>x
 | (i,_) :: l,x=>cV bl i fun b=>lS b (aBF bl l x)
theorem V0 (bl:List (Nat × Option aH)) (x:Option β):∀ (l:List (Nat × Option aH)),aBF bl l x = if K0 (lk bl none) l = true then x else none
 | []=>rfl
 | (i,b) :: l=>by
  cases h:lk bl none i <;> simp [aBF,K0,cV,lS,V0 bl x l,h]
def Q6 (fr:List (Nat × V)) (bl:List (Nat × Option aH)):List bS->(List D->List (Nat × Option aH)->Option β)->Option β
 | [],k=>k [] []
 | x :: l,k=>dL fr x fun v=>d1K v bl fun y f=>Q6 fr bl l fun ds g=>k (y :: ds) (f ++ g)
theorem aB5 (k:List D->List (Nat × Option aH)->Option β):Q6 fr bl [] k = k [] []:=rfl
theorem ZQ (x:bS) (l:List bS) (k:List D->List (Nat × Option aH)->Option β):Q6 fr bl (x :: l) k = dL fr x fun v=>d1K v bl fun y f=>Q6 fr bl l fun ds g=>k (y :: ds) (f ++ g):=rfl
theorem aEH (l:List bS) (k:List D->List (Nat × Option aH)->Option β):Q6 fr bl l k = (aJ (fun x=>j8 (lk bl none) (bH (lk fr .any) x)) l).bind fun ds=>k ds (l.flatMap fun x=>B6 (lk bl none) (bH (lk fr .any) x)):=by
 induction l generalizing k with
 | nil=>rfl
 | cons x l ih =>
  simp only [Q6,dL,d1K,aJ,ih,List.flatMap_cons]
  cases j8 (lk bl none) (bH (lk fr .any) x) with
  | none=>rfl
  | some y=>cases aJ (fun x=>j8 (lk bl none) (bH (lk fr .any) x)) l <;> rfl
theorem aGx (f:Nat) (caps:List bS):yN T d (.mkfn f caps) fr bl k kw = Q6 fr bl caps fun ds fz=>fzK fz (.d (.fn f ds)) k kw:=by
 rw [rK,aEH]
 simp only [b7]
 cases aJ (fun x=>j8 (lk bl none) (bH (lk fr .any) x)) caps with
 | none=>rfl
 | some ds =>
  simp only [Option.bind_some]
  cases caps.flatMap fun x=>B6 (lk bl none) (bH (lk fr .any) x) <;> rfl
def N6 (fr:List (Nat × V)) (bl:List (Nat × Option aH)) (caps:List D):List bS->(List D->List (Nat × Option aH)->Option β)->Option β
 | [],k=>k caps []
 | x :: l,k=>dL fr x fun v=>FD v bl fun y f=>N6 fr bl caps l fun ds g=>k (y :: ds) (f ++ g)
theorem aDt (caps:List D) (k:List D->List (Nat × Option aH)->Option β):N6 fr bl caps [] k = k caps []:=rfl
theorem aAh (caps:List D) (x:bS) (l:List bS) (k:List D->List (Nat × Option aH)->Option β):N6 fr bl caps (x :: l) k = dL fr x fun v=>FD v bl fun y f=>N6 fr bl caps l fun ds g=>k (y :: ds) (f ++ g):=rfl
theorem aFW (caps:List D) (l:List bS) (k:List D->List (Nat × Option aH)->Option β):N6 fr bl caps l k = (aJ (fun x=>jR (lk bl none) (bH (lk fr .any) x)) l).bind fun ds=>k (ds ++ caps) (l.flatMap fun x=>vY (lk bl none) (bH (lk fr .any) x)):=by
 induction l generalizing k with
 | nil=>rfl
 | cons x l ih =>
  simp only [N6,dL,FD,aJ,ih,List.flatMap_cons]
  cases jR (lk bl none) (bH (lk fr .any) x) with
  | none=>rfl
  | some y=>cases aJ (fun x=>jR (lk bl none) (bH (lk fr .any) x)) l <;> rfl
noncomputable def aAu (T:zS) (d:Nat) (v:V) (args:List bS) (fr:List (Nat × V)) (bl:List (Nat × Option aH)) (k:V->Option β) (kw:V->List (Nat × Option aH)->Option β):Option β:=match v with
 | .d (.fn f caps)=>N6 fr bl caps args fun ds fz=>F6 T d bl f ds fz k kw
 | _=>none
theorem aF8 (f:Nat) (caps:List D) (args:List bS):aAu T d (.d (.fn f caps)) args fr bl k kw = N6 fr bl caps args fun ds fz=>F6 T d bl f ds fz k kw:=rfl
theorem aCS (g:bS) (args:List bS):yN T d (.callv g args) fr bl k kw = dL fr g fun v=>aAu T d v args fr bl k kw:=by
 rw [rK]
 unfold dL
 simp only [b7]
 generalize bH (lk fr .any) g = v
 cases v with
 | d x=>cases x with
  | fn f caps =>
   simp only [aAu,aFW]
   cases aJ (fun x=>jR (lk bl none) (bH (lk fr .any) x)) args with
   | none=>rfl
   | some ds =>
    simp only [Option.bind_some,F6]
    cases call T f (ds ++ caps) <;> rfl
  | _=>rfl
 | _=>rfl
def aKW (v:V) (i:Nat) (k:V->Option β):Option β:=match v with
 | .tup vs=>AN vs i k
 | _=>none
theorem XX (x:bS) (i:Nat):yN T d (.extract x i) fr bl k kw = dL fr x fun v=>aKW v i k:=by
 unfold yN dL
 simp only [b7]
 generalize bH (lk fr .any) x = v
 cases v with
 | tup vs=>simp only [aKW,K4]; cases vs[i]? <;> rfl
 | _=>rfl
theorem aKE (vs:List V) (i:Nat):aKW (.tup vs) i k = AN vs i k:=rfl
def yO (m:xN) (fr:List (Nat × V)) (bl:List (Nat × Option aH)) (k:List (Nat × V)->List (Nat × Option aH)->Option β):Option β:=k (m.app ⟨fr,bl⟩).fr (m.app ⟨fr,bl⟩).bl
theorem aHI {k:Ex->St->Option β} (m:xN) (a:aF):bP T (.pre m a) ⟨fr,bl⟩ k = yO m fr bl fun fr' bl'=>bP T a ⟨fr',bl'⟩ k:=by
 rw [aH3]; rfl
theorem aJ2 {k:Ex->St->Option β} (m:xN):VP m k .normal ⟨fr,bl⟩ = yO m fr bl fun fr' bl'=>k .normal ⟨fr',bl'⟩:=by
 rw [aHq]; rfl
def yW (keep:List Nat) (bl:List (Nat × Option aH)) (v:V) (k:V->Option β):Option β:=k (IQ keep (lk bl none) v)
def Q8 (keep:List Nat) (fr:List (Nat × V)) (bl:List (Nat × Option aH)):List Nat->(List (Nat × V)->Option β)->Option β
 | [],k=>k []
 | t :: r,k=>wD fr t fun v=>yW keep bl v fun v'=>Q8 keep fr bl r fun l=>k ((t,v') :: l)
theorem aGQ (keep l:List Nat):∀ (k:List (Nat × V)->Option β),Q8 keep fr bl l k = k (l.map fun t=>(t,IQ keep (lk bl none) (lk fr .any t))):=by
 induction l with
 | nil=>intro k; rfl
 | cons t l ih=>intro k; simp only [Q8,wD,yW,ih,List.map_cons]
def GA (keep:List Nat) (bl:List (Nat × Option aH)) (b:Option aH) (k:Option aH->Option β):Option β:=k (b.bind (CR keep (lk bl none)))
def QS (keep:List Nat) (bl:List (Nat × Option aH)):List Nat->(List (Nat × Option aH)->Option β)->Option β
 | [],k=>k []
 | i :: r,k=>cV bl i fun b=>GA keep bl b fun b'=>QS keep bl r fun l=>k ((i,b') :: l)
theorem aEC (keep l:List Nat):∀ (k:List (Nat × Option aH)->Option β),QS keep bl l k = k (l.map fun i=>(i,(lk bl none i).bind (CR keep (lk bl none)))):=by
 induction l with
 | nil=>intro k; rfl
 | cons t l ih=>intro k; simp only [QS,cV,GA,ih,List.map_cons]
theorem aDM (keep:List Nat) (k:List (Nat × V)->Option β):Q8 keep fr bl [] k = k []:=rfl
theorem YB (keep:List Nat) (t:Nat) (r:List Nat) (k:List (Nat × V)->Option β):Q8 keep fr bl (t :: r) k = wD fr t fun v=>yW keep bl v fun v'=>Q8 keep fr bl r fun l=>k ((t,v') :: l):=rfl
theorem aCz (keep:List Nat) (k:List (Nat × Option aH)->Option β):QS keep bl [] k = k []:=rfl
theorem ZP (keep:List Nat) (i:Nat) (r:List Nat) (k:List (Nat × Option aH)->Option β):QS keep bl (i :: r) k = cV bl i fun b=>GA keep bl b fun b'=>QS keep bl r fun l=>k ((i,b') :: l):=rfl
theorem aHV (live keep:List Nat) (k:List (Nat × V)->List (Nat × Option aH)->Option β):yO ⟨live,keep,[],[],[],[]⟩ fr bl k = Q8 keep fr bl live fun fr'=>QS keep bl keep fun bl'=>k fr' bl':=by
 rw [aGQ,aEC]; rfl
def mC (keep:List Nat) (i:Nat) (x y:Option β):Option β:=if keep.contains i = true then x else y
theorem RK (i:Nat) (r:List Nat) (x y:Option β):mC (i :: r) i x y = x:=by simp [mC]
theorem O3 (a i:Nat) (r:List Nat) (x y:Option β) (h:(i == a) = false):mC (a :: r) i x y = mC r i x y:=by
 unfold mC
 rw [List.contains_cons,h,Bool.false_or]
section
variable (keep:List Nat)
theorem aIG (x:D):yW keep bl (.d x) k = k (.d x):=rfl
theorem aDB:yW keep bl .nil k = k .nil:=rfl
def T2 (keep:List Nat) (id off:Nat) (b:Option aH) (k:V->Option β):Option β:=match b with
 | some (.box _)=>mC keep id (k (.ptr id off)) (k .any)
 | some (.fbox ds)=>k (.d (.ptr ds off))
 | _=>k .any
theorem Y7 (id off:Nat) (cs:List V):T2 keep id off (some (.box cs)) k = mC keep id (k (.ptr id off)) (k .any):=rfl
theorem VG (id off:Nat) (ds:List D):T2 keep id off (some (.fbox ds)) k = k (.d (.ptr ds off)):=rfl
theorem aCN (id off:Nat):yW keep bl (.ptr id off) k = cV bl id fun b=>T2 keep id off b k:=by
 unfold yW cV T2
 simp only [IQ,SU,vS]
 generalize lk bl none id = b
 cases b with
 | none=>rfl
 | some b=>cases b with
  | box cs=>simp only [mC]; split <;> rfl
  | _=>rfl
def T8 (id ver:Nat) (b:Option aH) (k:V->Option β):Option β:=match b with
 | some (.rows v _ _ _)=>if (ver == v) = true then mC keep id (k (.own id 0)) (k .any) else k .any
 | some (.froz v rows)=>if ver = v then k (.d (.sl rows)) else k .any
 | _=>k .any
theorem aCi (id ver:Nat):yW keep bl (.own id ver) k = cV bl id fun b=>T8 keep id ver b k:=by
 unfold yW cV T8 mC
 simp only [IQ,SU,vS]
 generalize lk bl none id = b
 cases b with
 | none=>rfl
 | some b=>cases b with
  | rows v e s rows=>simp only; cases (ver == v) <;> cases keep.contains id <;> rfl
  | froz v rows=>simp only; split <;> rfl
  | _=>rfl
theorem XA (id v e s:Nat) (rows:List (List D)):T8 keep id v (some (.rows v e s rows)) k = mC keep id (k (.own id 0)) (k .any):=by simp [T8]
def B1 (keep:List Nat) (bl:List (Nat × Option aH)):List V->(List V->Option β)->Option β
 | [],k=>k []
 | v :: cs,k=>k (vS keep (lk bl none) v :: cs.map (vS keep (lk bl none)))
theorem DA (cs:List V) (k:List V->Option β):B1 keep bl cs k = k (cs.map (vS keep (lk bl none))):=by cases cs <;> rfl
theorem YJ (k:List V->Option β):B1 keep bl [] k = k []:=rfl
theorem aGt (x:D) (cs:List V) (k:List V->Option β):B1 keep bl (.d x :: cs) k = B1 keep bl cs fun l=>k (.d x :: l):=by simp only [DA]; rfl
theorem aGi (cs:List V) (k:List V->Option β):B1 keep bl (.nil :: cs) k = B1 keep bl cs fun l=>k (.nil :: l):=by simp only [DA]; rfl
theorem aAR (id ver:Nat) (cs:List V) (k:List V->Option β):B1 keep bl (.own id ver :: cs) k = yW keep bl (.own id ver) fun v=>B1 keep bl cs fun l=>k (v :: l):=by simp only [DA]; rfl
theorem LZ (ds:List D) (b:Nat->Option aH):(aR ds).map (vS keep b) = aR ds:=by
 induction ds with
 | nil=>rfl
 | cons x ds ih=>show vS keep b (.d x) :: (aR ds).map (vS keep b) = _; rw [ih]; rfl
theorem ZX (ds:List D):yW keep bl (jQ ds) k = k (jQ ds):=by
 show k (.agg ((aR ds).map (vS keep (lk bl none)))) = _
 rw [LZ]; rfl
theorem WT (k:Option aH->Option β):GA keep bl none k = k none:=rfl
theorem aAr (c:V) (cs:List V) (k:Option aH->Option β):GA keep bl (some (.box (c :: cs))) k = B1 keep bl (c :: cs) fun l=>k (some (.box l)):=by rw [DA]; rfl
theorem RH (ds:List D) (k:Option aH->Option β):GA keep bl (some (.box (aR ds))) k = k (some (.box (aR ds))):=by
 show k (some (.box ((aR ds).map (vS keep (lk bl none))))) = _
 rw [LZ]
theorem WA (v e s:Nat) (rows:List (List D)) (k:Option aH->Option β):GA keep bl (some (.rows v e s rows)) k = k (some (.rows 0 e s rows)):=rfl
end
def aMI (res:List uX):Ex->St->Option D
 | .normal,s=>match aJ (B3 s) res with
  | none=>none
  | some [v]=>jR s.blk v
  | some vs=>toD s.blk (.tup vs)
 | .ret,s=>match aJ (B3 s) res with
  | none=>none
  | some [v]=>jR s.blk v
  | some vs=>toD s.blk (.tup vs)
 | .exit _,_=>none
def OP (fr:List (Nat × V)) (bl:List (Nat × Option aH)):List uX->(List D->Option D)->Option D
 | [],k=>k []
 | .tmp t :: r,k=>wD fr t fun v=>FD v bl fun x _=>OP fr bl r fun l=>k (x :: l)
 | .cell t size isAgg :: r,k=>wD fr t fun p=>CO size isAgg p bl fun v=>FD v bl fun x _=>OP fr bl r fun l=>k (x :: l)
def aBy:List D->Option D
 | [x]=>some x
 | l=>some (.tup l)
theorem VY (size:Nat) (a:Bool) (p:V):CO size a p bl k = (NR size a p (lk bl none)).bind fun r=>k r.1:=by
 have h:=VC (T:=fun _=>none) (d:=0) (fr:=[]) (bl:=bl) (k:=k) (kw:=fun v _=>k v) size a (.c p)
 have e:dL [] (.c p) (fun v=>CO size a v bl k) = CO size a p bl k:=rfl
 rw [← e,← h,rK,KJ]
 show KG (NR size a p (lk bl none)) k (fun v _=>k v) = _
 cases NR size a p (lk bl none) with
 | none=>rfl
 | some r=>obtain ⟨v,wr⟩:=r; cases wr <;> rfl
theorem UE (fr:List (Nat × V)) (bl:List (Nat × Option aH)):St.blk ⟨fr,bl⟩ = lk bl none:=rfl
theorem aId (res:List uX):∀ (k:List D->Option D),OP fr bl res k = (aJ (B3 ⟨fr,bl⟩) res).bind fun vs=>(aJ (jR (lk bl none)) vs).bind k:=by
 induction res with
 | nil=>intro k; rfl
 | cons r res ih =>
  intro k
  cases r with
  | tmp t =>
   simp only [OP,wD,FD,ih,aJ,B3,TU,UE]
   cases h1:aJ (B3 ⟨fr,bl⟩) res with
   | none =>
    simp only [Option.bind_none]
    cases jR (lk bl none) (lk fr .any t) <;> rfl
   | some vs =>
    simp only [Option.bind_some,aJ]
    cases jR (lk bl none) (lk fr .any t) with
    | none=>rfl
    | some x=>cases aJ (jR (lk bl none)) vs <;> rfl
  | cell t size isAgg =>
   simp only [OP,wD,VY,FD,ih,aJ,B3,KJ,TU,UE]
   cases NR size isAgg (lk fr .any t) (lk bl none) with
   | none=>rfl
   | some q =>
    obtain ⟨v,wr⟩:=q
    simp only [Option.bind_some]
    cases h1:aJ (B3 ⟨fr,bl⟩) res with
    | none =>
     simp only [Option.bind_none]
     cases jR (lk bl none) v <;> rfl
    | some vs =>
     simp only [Option.bind_some,aJ]
     cases jR (lk bl none) v with
     | none=>rfl
     | some x=>cases aJ (jR (lk bl none)) vs <;> rfl
theorem aHk (res:List uX):(match aJ (B3 ⟨fr,bl⟩) res with
  | none=>none
  | some [v]=>jR (lk bl none) v
  | some vs=>toD (lk bl none) (.tup vs)) = OP fr bl res aBy:=by
 rw [aId]
 cases aJ (B3 ⟨fr,bl⟩) res with
 | none=>rfl
 | some vs =>
  simp only [Option.bind_some]
  cases vs with
  | nil=>rfl
  | cons v vs =>
   cases vs with
   | nil =>
    simp only [aJ]
    cases jR (lk bl none) v <;> rfl
   | cons w ws =>
    show (aJ (jR (lk bl none)) (v :: w :: ws)).map D.tup = _
    simp only [aJ]
    cases jR (lk bl none) v with
    | none=>rfl
    | some x=>cases jR (lk bl none) w with
     | none=>rfl
     | some y=>cases aJ (jR (lk bl none)) ws <;> rfl
theorem aLf (res:List uX):aMI res .ret ⟨fr,bl⟩ = OP fr bl res aBy:=aHk res
theorem aE3 (k:List D->Option D):OP fr bl [] k = k []:=rfl
theorem aFL (t:Nat) (r:List uX) (k:List D->Option D):OP fr bl (.tmp t :: r) k = wD fr t fun v=>FD v bl fun x _=>OP fr bl r fun l=>k (x :: l):=rfl
theorem aDc (t size:Nat) (isAgg:Bool) (r:List uX) (k:List D->Option D):OP fr bl (.cell t size isAgg :: r) k = wD fr t fun p=>CO size isAgg p bl fun v=>FD v bl fun x _=>OP fr bl r fun l=>k (x :: l):=rfl
theorem aIw (x:D):aBy [x] = some x:=rfl
theorem aJp (x y:D) (l:List D):aBy (x :: y :: l) = some (.tup (x :: y :: l)):=rfl
theorem bE {T:zS} {f np nt:Nat} {res:List uX} {body:aF} (hf:T f = some (.code ⟨np,nt,res,body,false,false⟩)) (ds:List D) (hl:ds.length = np) (hlt:lN 0 ds = none):Vm.call T f ds = bP T body ⟨pV 0 ds,[]⟩ (aMI res):=by
 rw [aDZ hf ds hl hlt]
 unfold bP
 cases Vm.ev T body ⟨pV 0 ds,[]⟩ with
 | none=>rfl
 | some q =>
  obtain ⟨e,s⟩:=q
  cases e <;> rfl
def ZT (v:V) (b:Option aH) (x y:Option β):Option β:=match v,b with
 | .nil,none=>x
 | _,_=>y
theorem aK9 (x y:Option β):ZT .nil none x y = x:=rfl
theorem aEP (i v:Nat) (b:Option aH) (x y:Option β):ZT (.own i v) b x y = y:=rfl
theorem aJN (live keep:List Nat) (t i e s:Nat) (l:List (Nat × Nat × Nat × Nat)) (c:List (Nat × Nat × Nat × Nat × Nat)) (ft:List Nat) (fc:List (Nat × Nat)) (k:List (Nat × V)->List (Nat × Option aH)->Option β) (hs:0 < s) :
  yO ⟨live,keep,(t,i,e,s) :: l,c,ft,fc⟩ fr bl k = wD fr t fun v=>cV bl i fun b=>ZT v b (QB e [] fun rows=>yO ⟨live,keep,l,c,ft,fc⟩ ((t,.own i 0) :: fr) ((i,some (.rows 0 e s rows)) :: bl) k) (yO ⟨live,keep,l,c,ft,fc⟩ fr bl k):=by
 show yO ⟨live,keep,(t,i,e,s) :: l,c,ft,fc⟩ fr bl k = ZT (lk fr .any t) (lk bl none i) _ _
 unfold yO
 rw [aMt]
 unfold mkT QB
 show k (xN.app ⟨live,keep,l,c,ft,fc⟩ (match lk fr .any t,lk bl none i with | .nil,none=>if 0 < s then _ else _ | _,_=>_)).fr (xN.app ⟨live,keep,l,c,ft,fc⟩ (match lk fr .any t,lk bl none i with | .nil,none=>if 0 < s then _ else _ | _,_=>_)).bl = _
 generalize lk fr .any t = v
 generalize lk bl none i = b
 cases v with
 | nil=>cases b with
  | none=>simp only [ZT,if_pos hs]
  | some b=>rfl
 | _=>rfl
def aG2 (b0:Option aH) (n:Nat) (b:Option aH) (x:List V->Option β) (y:Option β):Option β:=match b0 with
 | some (.box cs)=>match cs[n]?,b with
  | some .nil,none=>x cs
  | _,_=>y
 | _=>y
theorem aIy (live keep:List Nat) (i n j e s:Nat) (c:List (Nat × Nat × Nat × Nat × Nat)) (ft:List Nat) (fc:List (Nat × Nat)) (k:List (Nat × V)->List (Nat × Option aH)->Option β) (hs:0 < s) :
  yO ⟨live,keep,[],(i,n,j,e,s) :: c,ft,fc⟩ fr bl k = cV bl i fun b0=>cV bl j fun b=>aG2 b0 n b (fun cs=>B0 cs n (.own j 0) fun cs'=>QB e [] fun rows=>yO ⟨live,keep,[],c,ft,fc⟩ fr ((i,some (.box cs')) :: (j,some (.rows 0 e s rows)) :: bl) k) (yO ⟨live,keep,[],c,ft,fc⟩ fr bl k):=by
 show yO ⟨live,keep,[],(i,n,j,e,s) :: c,ft,fc⟩ fr bl k = aG2 (lk bl none i) n (lk bl none j) _ _
 unfold yO
 rw [aMj]
 have hm:∀ b0 b,lk bl none i = b0->lk bl none j = b->mkC (i,n,j,e,s) ⟨fr,bl⟩ = (match b0,b with
  | some (.box cs),none=>match cs[n]? with
   | some .nil=>if 0 < s then ⟨fr,(i,some (.box (cs.set n (.own j 0)))) :: (j,some (.rows 0 e s [])) :: bl⟩ else ⟨fr,bl⟩
   | _=>⟨fr,bl⟩
  | _,_=>⟨fr,bl⟩):=by
  rintro _ _ rfl rfl; rfl
 have hm:=hm _ _ rfl rfl
 rw [hm]
 generalize lk bl none i = b0
 generalize lk bl none j = b
 cases b0 with
 | none=>rfl
 | some b0=>cases b0 with
  | box cs =>
   cases b with
   | none =>
    simp only [aG2]
    cases h:cs[n]? with
    | none=>rfl
    | some v =>
     cases v with
     | nil =>
      have hn:n < cs.length:=by
       rw [List.getElem?_eq_some_iff] at h
       exact h.1
      simp only [if_pos hs,V8,QB]
      rw [if_pos (by omega)]
      have:∀ (cs:List V) (n:Nat),n < cs.length->dP cs n [.own j 0] = cs.set n (.own j 0):=by
       intro cs
       induction cs with
       | nil=>intro n h; simp at h
       | cons c cs ih =>
        intro n h
        cases n with
        | zero=>cases cs <;> rfl
        | succ n=>simp only [dP,List.set_cons_succ]; rw [ih n (by simpa using h)]
      rw [this cs n hn]
     | _=>rfl
   | some b=>simp only [aG2]; cases cs[n]? with
    | none=>rfl
    | some v=>cases v <;> rfl
  | _=>cases b <;> rfl
theorem YQ (k:List (Nat × Nat × V)->Option β):I8 fr [] k = k []:=rfl
theorem XI (o s:Nat) (x:bS) (l:List (Nat × Nat × bS)) (k:List (Nat × Nat × V)->Option β):I8 fr ((o,s,x) :: l) k = dL fr x fun v=>I8 fr l fun vs=>k ((o,s,v) :: vs):=rfl
theorem aDK (l:List (Nat × Nat × bS)):∀ (k:List (Nat × Nat × V)->Option β),I8 fr l k = k (l.map fun p=>(p.1,p.2.1,bH (lk fr .any) p.2.2)):=by
 induction l with
 | nil=>intro k; rfl
 | cons p l ih=>intro k; obtain ⟨o,s,x⟩:=p; simp only [I8,dL,ih,List.map_cons]
def PR (z:List V):List (Nat × Nat × V)->(List V->Option β)->Option β
 | [],k=>k z
 | (off,size,v) :: r,k=>D7 v fun cs=>KR cs size (xV z off cs fun z'=>PR z' r k)
theorem aC1 (z:List V) (k:List V->Option β):PR z [] k = k z:=rfl
theorem aAj (z:List V) (off size:Nat) (v:V) (r:List (Nat × Nat × V)) (k:List V->Option β):PR z ((off,size,v) :: r) k = D7 v fun cs=>KR cs size (xV z off cs fun z'=>PR z' r k):=rfl
theorem aET (ps:List (Nat × Nat × V)):∀ (z:List V) (k:List V->Option β),PR z ps k = (FV z ps).bind k:=by
 induction ps with
 | nil=>intro z k; rfl
 | cons p r ih =>
  intro z k
  obtain ⟨off,size,v⟩:=p
  simp only [PR,FV,D7,KR,xV,ih]
  by_cases h1:v.known = true
  ·by_cases h2:v.cells.length = size
   ·subst h2
    by_cases h3:off + v.cells.length <= z.length
    ·rw [if_pos h1,if_pos rfl,if_pos h3,if_pos ⟨rfl,h3,h1⟩]
    ·rw [if_pos h1,if_pos rfl,if_neg h3,if_neg (fun q=>h3 q.2.1)]; rfl
   ·rw [if_pos h1,if_neg h2,if_neg (fun q=>h2 q.1)]; rfl
  ·rw [if_neg h1,if_neg (fun q=>h1 q.2.2)]; rfl
theorem aBI (z:List V) (parts:List (Nat × Nat × bS)):yN T d (.build z parts) fr bl k kw = I8 fr parts fun ps=>PR z ps fun cs=>k (.agg cs):=by
 rw [rK,aDK,aET]
 simp only [b7]
 have e1:(parts.map fun x=>match x with | (o,s,x)=>(o,s,bH (lk fr .any) x)) = parts.map fun p=>(p.1,p.2.1,bH (lk fr .any) p.2.2):=rfl
 rw [e1]
 cases FV z (parts.map fun p=>(p.1,p.2.1,bH (lk fr .any) p.2.2)) <;> rfl
theorem PK (ds:List D):(aR ds).length = ds.length:=by simp [aR]
theorem aFk {k:Ex->St->Option β} (c:bS) (a b:aF):bP T (.cond c a b) ⟨fr,bl⟩ k = dL fr c fun v=>WB v (bP T a ⟨fr,bl⟩ k) (bP T b ⟨fr,bl⟩ k):=aGD c a b _
theorem aH5 (a b c:List (Nat × Option aH)) (t:Nat) (k:Option aH->Option β):cV ((a ++ b) ++ c) t k = cV (a ++ (b ++ c)) t k:=by rw [List.append_assoc]
def VS:List V->Nat->(V->Option β)->Option β->Option β
 | [],_,_,y=>y
 | c :: _,0,x,_=>x c
 | _ :: cs,n + 1,x,y=>VS cs n x y
theorem aKY (c:V) (cs:List V) (x:V->Option β) (y:Option β):VS (c :: cs) 0 x y = x c:=rfl
theorem aKo (c:V) (cs:List V) (n:Nat) (x:V->Option β) (y:Option β):VS (c :: cs) (n + 1) x y = VS cs n x y:=rfl
theorem aFv (cs:List V) (n:Nat) (b:Option aH) (x:List V->Option β) (y:Option β):aG2 (some (.box cs)) n b x y = VS cs n (fun v=>ZT v b (x cs) y) y:=by
 have:∀ (l:List V) (n:Nat),(match l[n]?,b with | some .nil,none=>x cs | _,_=>y) = VS l n (fun v=>ZT v b (x cs) y) y:=by
  intro l
  induction l with
  | nil=>intro n; rfl
  | cons c l ih=>intro n; cases n with
   | zero=>cases c <;> cases b <;> rfl
   | succ n=>exact ih n
 exact this cs n
def aFo (rows:List (List D)) (k:V->Option β):Option β:=k (.d (.int .i64 rows.length))
theorem aJh {α:Type} (c:α->List D) (xs:List α):aFo (cM c xs) k = k (.d (.int .i64 (xs.length:Int))):=by unfold aFo; rw [D0]
theorem aIL (x:bS):yN T d (.len x) fr bl k kw = dL fr x fun a=>LF a bl fun rows=>aFo rows k:=aJn x
def WX (v:V) (bl:List (Nat × Option aH)) (k:V->List (Nat × Option aH)->Option β) (y:Option β):Option β:=match j8 (lk bl none) v with
 | some x=>k (.d x) (B6 (lk bl none) v)
 | none=>y
def aHM (n:Nat) (b:Option aH) (bl:List (Nat × Option aH)) (k:List V->List (Nat × Option aH)->Option β) (y:Option β):Option β:=match b with
 | some (.box cs)=>match cs[n]? with
  | some v=>match j8 (lk bl none) v with
   | some d=>k (cs.set n (.d d)) (B6 (lk bl none) v)
   | none=>y
  | none=>y
 | _=>y
theorem aGH (live keep:List Nat) (i n:Nat) (fc:List (Nat × Nat)) (k:List (Nat × V)->List (Nat × Option aH)->Option β) :
  yO ⟨live,keep,[],[],[],(i,n) :: fc⟩ fr bl k = cV bl i fun b=>aHM n b bl (fun cs wr=>yO ⟨live,keep,[],[],[],fc⟩ fr ((i,some (.box cs)) :: (wr ++ bl)) k) (yO ⟨live,keep,[],[],[],fc⟩ fr bl k):=by
 unfold yO
 rw [aLB]
 unfold frC cV aHM
 rw [UE]
 dsimp only
 cases lk bl none i with
 | none=>rfl
 | some b =>
  cases b with
  | box cs =>
   simp only
   cases cs[n]? with
   | none=>rfl
   | some v =>
    simp only
    cases j8 (lk bl none) v <;> rfl
  | _=>rfl
theorem aLC (cs:List V) (n:Nat) (w:V) (k:List V->Option β) (h:n < cs.length):B0 cs n w k = k (cs.set n w):=by
 induction cs generalizing n k with
 | nil=>simp at h
 | cons c cs ih=>cases n with
  | zero=>rfl
  | succ n=>simp only [B0,List.set_cons_succ]; rw [ih n _ (by simpa using h)]
theorem aEA (n:Nat) (cs:List V) (k:List V->List (Nat × Option aH)->Option β) (y:Option β):aHM n (some (.box cs)) bl k y = VS cs n (fun v=>WX v bl (fun v' wr=>B0 cs n v' fun cs'=>k cs' wr) y) y:=by
 have e:∀ (l:List V) (n:Nat) (x:V->Option β),VS l n x y = match l[n]? with | some v=>x v | none=>y:=by
  intro l
  induction l with
  | nil=>intro n x; rfl
  | cons c l ih=>intro n x; cases n with
   | zero=>rfl
   | succ n=>exact ih n x
 rw [e]
 simp only [aHM,WX]
 cases h:cs[n]? with
 | none=>rfl
 | some v =>
  simp only
  cases j8 (lk bl none) v with
  | none=>rfl
  | some d=>simp only; rw [aLC _ _ _ _ (List.getElem?_eq_some_iff.1 h).1]
theorem aI5 (x:D) (k:V->List (Nat × Option aH)->Option β) (y:Option β):WX (.d x) bl k y = k (.d x) []:=rfl
def aKC (id off:Nat) (b:Option aH) (bl:List (Nat × Option aH)) (k:V->List (Nat × Option aH)->Option β) (y:Option β):Option β:=match b with
 | some (.box cs)=>match aJ (rA (lk bl none)) cs with
  | some ds=>k (.d (.ptr ds off)) ((id,some (.fbox ds)) :: cs.flatMap (JV (lk bl none)))
  | none=>y
 | some (.fbox cs)=>k (.d (.ptr cs off)) []
 | _=>y
theorem aC7 (id off:Nat) (k:V->List (Nat × Option aH)->Option β) (y:Option β):WX (.ptr id off) bl k y = cV bl id fun b=>aKC id off b bl k y:=by
 unfold WX cV aKC
 simp only [j8,B6]
 generalize lk bl none id = b
 cases b with
 | none=>rfl
 | some b =>
  cases b with
  | box cs =>
   dsimp only
   cases aJ (rA (lk bl none)) cs <;> rfl
  | _=>rfl
end
end Vm
end Go.Proofs.Ytjjcaapdaldedaa
namespace Go.Proofs.Ytjjcaapdaldedaa
namespace Vm
open Go.RowKit
section
variable {β:Type} {T:zS}
def KW (d:Nat) (op:gG) (fr:List (Nat × V)) (bl:List (Nat × Option aH)) (k:List Nat->Option β):Option β :=
 k ((if op.new = true then [d] else []) ++ ((op.peeks.flatMap fun x=>(bH (lk fr .any) x).ids) ++ op.deeps.flatMap fun x=>(bH (lk fr .any) x).dids (lk bl none)))
def XE (wr:List (Nat × Option aH)) (k:List Nat->Option β):Option β:=k (wr.map (·.1))
theorem aDD (k:List Nat->Option β):XE [] k = k []:=rfl
theorem aH9 (i:Nat) (b:Option aH) (w:List (Nat × Option aH)) (k:List Nat->Option β):XE ((i,b) :: w) k = XE w fun l=>k (i :: l):=rfl
theorem aAq (d st:Nat) (op:gG) (l:List aM) (fr:List (Nat × V)) (bl:List (Nat × Option aH)) (fp:List Fp) (k:St->List Fp->Option β) :
  m5 T (⟨some d,op,none,st⟩ :: l) ⟨fr,bl⟩ fp k = yN T st op fr bl (fun v=>KW st op fr bl fun f=>m5 T l ⟨(d,v) :: fr,bl⟩ ((f,[]) :: fp) k) (fun v wr=>XE wr fun ws=>KW st op fr bl fun f=>m5 T l ⟨(d,v) :: fr,wr ++ bl⟩ ((f,ws) :: fp) k):=by
 rw [QO]
 unfold yN K1 KW
 show (match b7 (call T) st (bH (lk fr .any)) (lk bl none) op with | some (v,wr)=>_ | none=>none) = _
 cases b7 (call T) st (bH (lk fr .any)) (lk bl none) op with
 | none=>rfl
 | some r=>obtain ⟨v,wr⟩:=r; cases wr <;> rfl
theorem VU (st:Nat) (op:gG) (l:List aM) (fr:List (Nat × V)) (bl:List (Nat × Option aH)) (fp:List Fp) (k:St->List Fp->Option β) :
  m5 T (⟨none,op,none,st⟩ :: l) ⟨fr,bl⟩ fp k = yN T st op fr bl (fun _=>KW st op fr bl fun f=>m5 T l ⟨fr,bl⟩ ((f,[]) :: fp) k) (fun _ wr=>XE wr fun ws=>KW st op fr bl fun f=>m5 T l ⟨fr,wr ++ bl⟩ ((f,ws) :: fp) k):=by
 rw [QO]
 unfold yN K1 KW
 show (match b7 (call T) st (bH (lk fr .any)) (lk bl none) op with | some (v,wr)=>_ | none=>none) = _
 cases b7 (call T) st (bH (lk fr .any)) (lk bl none) op with
 | none=>rfl
 | some r=>obtain ⟨v,wr⟩:=r; cases wr <;> rfl
theorem aB8 (fr:List (Nat × V)) (bl:List (Nat × Option aH)) (fp:List Fp) (k:St->List Fp->Option β):m5 T [] ⟨fr,bl⟩ fp k = k ⟨fr,bl⟩ fp:=rfl
theorem aIW {l:List aM} {ps:List (Nat × Nat)} {s:St} {fp:List Fp} (k:St->Option β) (h:KO l fp.reverse ps = true):aIc l ps k s fp = k s:=if_pos h
theorem DI {d:Option Nat} {st:Nat} {g g' : Option (Nat × Bool)} {fr:Nat->V} {bl:Nat->Option aH} {wr:List (Nat × Option aH)} (t:Nat) (b:Bool) (op:gG):xS ⟨d,K3 t b op,g,st⟩ fr bl wr = xS ⟨d,op,g',st⟩ fr bl wr:=by
 cases op with
 | pick c x y =>
  cases c with
  | t t' =>
   simp only [K3]
   split <;> rfl
  | c v=>rfl
 | _=>rfl
theorem aAx {C:Nat->List D->Option D} {s:St} {t:Nat} {b:Bool} (h:s.get t = .d (.bool b)) (o:aM):jW C (KT t b o) s = jW C o s:=by
 obtain ⟨d,op,g,st⟩:=o
 cases g with
 | some g =>
  obtain ⟨t',w⟩:=g
  simp only [KT]
  split
  ·rename_i e
   subst e
   split
   ·rename_i e
    subst e
    simp only [jW,aM.wants,h,AX h]
    cases w <;> simp only [yR] <;> cases b7 C st (bH s.get) s.blk op <;> first | rfl | (simp [DI (g':=some (t',false)),DI (g':=some (t',true))]; done) | (simp [DI (g':=some (t',false)),DI (g':=some (t',true))]; rfl)
   ·rename_i e
    simp only [jW,aM.wants,h,b7,bH]
    cases w <;> cases b <;> simp_all [yR,xS,gG.new,gG.peeks,gG.deeps]
  ·simp only [jW,aM.wants,AX h]
   cases yR (s.get t') w <;> simp only [] <;> cases b7 C st (bH s.get) s.blk op <;> simp [DI (g':=some (t',w))]
 | none =>
  simp only [KT,jW,aM.wants,AX h]
  cases b7 C st (bH s.get) s.blk op <;> simp [DI (g':=none)]
theorem Y1 {C:Nat->List D->Option D} {o:aM} {s s' : St} {p:Fp} {t:Nat} (h:¬ o.dst = some t) (e:jW C o s = some (s',p)):s'.get t = s.get t:=by
 unfold jW at e
 split at e
 ·split at e
  ·cases e; exact ED h
  ·cases e
 ·cases e; exact ED h
 ·cases e
theorem IX {t:Nat} {b:Bool}:∀ (l:List aM) {s:St} (fp:List Fp) (k:St->List Fp->Option β) (h:s.get t = .d (.bool b)),m5 T (BX t b l) s fp k = m5 T l s fp k
 | [],s,fp,k,h=>rfl
 | o :: l,s,fp,k,h=>by
  simp only [BX,m5,aAx h]
  cases e:jW (call T) o s with
  | none=>rfl
  | some q =>
   obtain ⟨s',p⟩:=q
   simp only
   split
   ·rfl
   ·rename_i hd
    exact IX l _ k (by rw [Y1 hd e]; exact h)
noncomputable def K8 (T:zS) (v:V) (t:Nat) (l:List aM) (s:St) (fp:List Fp) (k:St->List Fp->Option β):Option β:=match v with
 | .d (.bool b)=>if b = true then m5 T (BX t true l) s fp k else m5 T (BX t false l) s fp k
 | .tup []=>match l with
  | o :: r=>m5 T r (s.put o.dst (.tup []) []) (([],[]) :: fp) k
  | []=>none
 | _=>none
theorem W3 (d:Option Nat) (op:gG) (t:Nat) (w:Bool) (st:Nat) (l:List aM) (fr:List (Nat × V)) (bl:List (Nat × Option aH)) (fp:List Fp) (k:St->List Fp->Option β) :
  m5 T (⟨d,op,some (t,w),st⟩ :: l) ⟨fr,bl⟩ fp k = wD fr t fun v=>K8 T v t (⟨d,op,some (t,w),st⟩ :: l) ⟨fr,bl⟩ fp k:=by
 show _ = K8 T (lk fr .any t) t _ _ fp k
 generalize hv:lk fr .any t = v
 have bad:∀ (q:yR v w = .bad),m5 T (⟨d,op,some (t,w),st⟩ :: l) ⟨fr,bl⟩ fp k = none:=by
  intro q
  simp only [m5,jW,aM.wants]
  rw [show (St.get ⟨fr,bl⟩ t) = v from hv,q]
 cases v with
 | d x =>
  cases x with
  | bool b =>
   simp only [K8]
   cases b with
   | true=>rw [if_pos rfl,IX (t:=t) (b:=true) (s:=⟨fr,bl⟩) _ _ _ hv]
   | false=>rw [if_neg (by decide),IX (t:=t) (b:=false) (s:=⟨fr,bl⟩) _ _ _ hv]
  | _=>exact bad rfl
 | tup vs =>
  cases vs with
  | nil =>
   simp only [K8,m5,jW,aM.wants]
   rw [show (St.get ⟨fr,bl⟩ t) = _ from hv]
   rfl
  | cons x l=>exact bad rfl
 | _=>exact bad rfl
theorem aDA (b:Bool) (t:Nat) (l:List aM) (s:St) (fp:List Fp) (k:St->List Fp->Option β):K8 T (.d (.bool b)) t l s fp k = if b = true then m5 T (BX t true l) s fp k else m5 T (BX t false l) s fp k:=rfl
theorem yK {l l' : List aM} {s:St} {fp:List Fp} {k:St->List Fp->Option β} (h:l = l'):m5 T l s fp k = m5 T l' s fp k:=by rw [h]
theorem aHs (x:D) (ds:List D) (k:D->Option β):dM (x :: ds) 0 k = k x:=rfl
section
variable {d:Nat} {fr:List (Nat × V)} {bl:List (Nat × Option aH)} {k:List Nat->Option β}
def GY (v:V) (k:List Nat->Option β):Option β:=k v.ids
theorem aK6 (x:D):GY (.d x) k = k []:=rfl
theorem aFz (i o:Nat):GY (.ptr i o) k = k [i]:=rfl
theorem aFD (i o:Nat):GY (.own i o) k = k [i]:=rfl
theorem aDu (i v j o:Nat):GY (.orow i v j o) k = k [i]:=rfl
def EF (bl:List (Nat × Option aH)):List V->(List Nat->Option β)->Option β
 | [],k=>k []
 | c :: cs,k=>k (c.dids1 (lk bl none) ++ cs.flatMap (V.dids1 (lk bl none)))
def IR (bl:List (Nat × Option aH)) (v:V) (k:List Nat->Option β):Option β:=k (v.dids (lk bl none))
theorem GV (cs:List V):EF bl cs k = k (cs.flatMap (V.dids1 (lk bl none))):=by cases cs <;> rfl
theorem ZH:EF bl [] k = k []:=rfl
theorem aGO (x:D) (cs:List V):EF bl (.d x :: cs) k = EF bl cs k:=by simp only [GV]; rfl
theorem aFP (cs:List V):EF bl (.nil :: cs) k = EF bl cs k:=by simp only [GV]; rfl
theorem Y9 (i o:Nat) (cs:List V):EF bl (.own i o :: cs) k = EF bl cs fun l=>k (i :: l):=by simp only [GV]; rfl
theorem aIq (x:D):IR bl (.d x) k = k []:=rfl
theorem aCv (i o:Nat):IR bl (.own i o) k = k [i]:=rfl
theorem aCu (cs:List V):IR bl (.agg cs) k = EF bl cs k:=by rw [GV]; rfl
theorem X2 (ds:List D):(aR ds).flatMap (V.dids1 (lk bl none)) = []:=by
 induction ds with
 | nil=>rfl
 | cons x ds ih=>exact ih
theorem Z0 (ds:List D):IR bl (jQ ds) k = k []:=by
 show k ((aR ds).flatMap (V.dids1 (lk bl none))) = _
 rw [X2]
theorem aEZ (x:bS):KW d (.move x) fr bl k = k []:=rfl
theorem aCV (z:List V):KW d (.alloc z) fr bl k = k [d]:=rfl
theorem aCq (z:List V) (ps:List (Nat × Nat × bS)):KW d (.build z ps) fr bl k = k []:=rfl
theorem fp1 (l:List Nat):([]:List Nat) ++ ((l ++ []) ++ []) = l:=by simp
theorem aEB (s:Nat) (a:Bool) (x:bS):KW d (.load s a x) fr bl k = dL fr x fun v=>GY v k:=by
 show k ([] ++ (((bH (lk fr .any) x).ids ++ []) ++ [])) = _
 rw [fp1]; rfl
theorem UT (x:bS):KW d (.nilCheck x) fr bl k = dL fr x fun v=>GY v k:=by
 show k ([] ++ (((bH (lk fr .any) x).ids ++ []) ++ [])) = _
 rw [fp1]; rfl
theorem RI (o:Nat) (x:bS):KW d (.fieldAddr o x) fr bl k = dL fr x fun v=>GY v k:=by
 show k ([] ++ (((bH (lk fr .any) x).ids ++ []) ++ [])) = _
 rw [fp1]; rfl
theorem aIu (x:bS):KW d (.len x) fr bl k = dL fr x fun v=>GY v k:=by
 show k ([] ++ (((bH (lk fr .any) x).ids ++ []) ++ [])) = _
 rw [fp1]; rfl
theorem aCT (s:Nat) (x:bS) (lo hi:Option bS):KW d (.slice s x lo hi) fr bl k = dL fr x fun v=>GY v k:=by
 show k ([] ++ (((bH (lk fr .any) x).ids ++ []) ++ [])) = _
 rw [fp1]; rfl
theorem RE (s:Nat) (x i:bS):KW d (.indexAddr s x i) fr bl k = dL fr x fun v=>GY v k:=by
 show k ([] ++ (((bH (lk fr .any) x).ids ++ []) ++ [])) = _
 rw [fp1]; rfl
theorem aC6 (s:Nat) (x v:bS):KW d (.store s x v) fr bl k = dL fr x fun a=>GY a fun l=>dL fr v fun b=>IR bl b fun m=>k (l ++ m):=by
 show k ([] ++ (((bH (lk fr .any) x).ids ++ []) ++ ((bH (lk fr .any) v).dids (lk bl none) ++ []))) = _
 rw [List.nil_append,List.append_nil,List.append_nil]; rfl
theorem aAM (e s b:Nat) (x y:bS):KW d (.append e s b x y) fr bl k = dL fr x fun u=>GY u fun l=>dL fr y fun v=>GY v fun m=>k (d :: (l ++ m)):=by
 show k ([d] ++ (((bH (lk fr .any) x).ids ++ ((bH (lk fr .any) y).ids ++ [])) ++ [])) = _
 rw [List.append_nil,List.append_nil]; rfl
def F2 (fr:List (Nat × V)) (bl:List (Nat × Option aH)):List bS->(List Nat->Option β)->Option β
 | [],k=>k []
 | x :: l,k=>dL fr x fun v=>IR bl v fun m=>F2 fr bl l fun n=>k (m ++ n)
theorem S0 (l:List bS):∀ (k:List Nat->Option β),F2 fr bl l k = k (l.flatMap fun x=>(bH (lk fr .any) x).dids (lk bl none)):=by
 induction l with
 | nil=>intro k; rfl
 | cons x l ih=>intro k; simp only [F2,dL,IR,ih,List.flatMap_cons]
theorem ZZ (k:List Nat->Option β):F2 fr bl [] k = k []:=rfl
theorem VI (x:bS) (l:List bS) (k:List Nat->Option β):F2 fr bl (x :: l) k = dL fr x fun v=>IR bl v fun m=>F2 fr bl l fun n=>k (m ++ n):=rfl
theorem aFw (f:Nat) (args:List bS):KW d (.call f args) fr bl k = F2 fr bl args k:=by
 rw [S0]; rfl
def QC (fr:List (Nat × V)) (bl:List (Nat × Option aH)):List (Nat × bS)->(List Nat->Option β)->Option β
 | [],k=>k []
 | (_,x) :: l,k=>dL fr x fun v=>IR bl v fun m=>QC fr bl l fun n=>k (m ++ n)
theorem aDC (l:List (Nat × bS)):∀ (k:List Nat->Option β),QC fr bl l k = k ((l.map fun p=>p.2).flatMap fun x=>(bH (lk fr .any) x).dids (lk bl none)):=by
 induction l with
 | nil=>intro k; rfl
 | cons x l ih=>intro k; obtain ⟨i,x⟩:=x; simp only [QC,dL,IR,ih,List.map_cons,List.flatMap_cons]
theorem aAk (k:List Nat->Option β):QC fr bl [] k = k []:=rfl
theorem O7 (e s n:Nat) (z:List D) (ps:List (Nat × bS)):KW d (.buildSlice e s z n ps) fr bl k = QC fr bl ps fun l=>k (d :: l):=by
 rw [aDC]; rfl
theorem aJl (c:Nat) (op:BinOp) (x y:bS):KW d (.bin c op x y) fr bl k = k []:=rfl
theorem aKB (op:UnOp) (x:bS):KW d (.un op x) fr bl k = k []:=rfl
theorem aCO (o s:Nat) (a:Bool) (x:bS):KW d (.field o s a x) fr bl k = k []:=rfl
theorem aIs (l:List bS):KW d (.max l) fr bl k = k []:=rfl
theorem WI (x:bS) (i:Nat):KW d (.extract x i) fr bl k = k []:=rfl
theorem aFV {k:Ex->St->Option β} (l:List aM) (ps:List (Nat × Nat)):bP T (.region l (some ps)) ⟨fr,bl⟩ k = m5 T l ⟨fr,bl⟩ [] (aIc l ps (k .normal)):=by
 rw [aFR,aHh]
end
section
variable {d:Nat} {fr:List (Nat × V)} {bl:List (Nat × Option aH)} {k:V->Option β} {kw:V->List (Nat × Option aH)->Option β}
theorem aK2 (a b c:List (Nat × Option aH)) (v:V):fzK ((a ++ b) ++ c) v k kw = fzK (a ++ (b ++ c)) v k kw:=by rw [List.append_assoc]
def fzN (id:Nat) (f:List (Nat × Option aH)) (x:Option β):Option β:=if IW id f = true then x else none
theorem aJ0 (id:Nat) (x:Option β):fzN id [] x = x:=rfl
theorem aMn (id i:Nat) (b:Option aH) (w:List (Nat × Option aH)) (x:Option β) (h:(i == id) = false):fzN id ((i,b) :: w) x = fzN id w x:=by
 have h:¬ i = id:=by simpa using h
 simp only [fzN,IW,if_neg h]
def rN (row:List D) (off:Nat) (ds:List D) (size:Nat) (k:List D->Option β):Option β:=if ds.length = size ∧ off + size <= row.length then k (dP row off ds) else none
theorem UF (c:D) (cs:List D) (off:Nat) (e:D) (ds:List D) (n:Nat) (k:List D->Option β):rN (c :: cs) (off + 1) (e :: ds) n k = rN cs off (e :: ds) n fun l=>k (c :: l):=by
 unfold rN
 simp only [List.length_cons,dP]
 by_cases h:ds.length + 1 = n ∧ off + n <= cs.length
 ·exact (if_pos (by omega)).trans (if_pos h).symm
 ·exact (if_neg (by omega)).trans (if_neg h).symm
theorem XL (c:D) (cs:List D) (e:D) (ds:List D) (n:Nat) (k:List D->Option β):rN (c :: cs) 0 (e :: ds) (n + 1) k = rN cs 0 ds n fun l=>k (e :: l):=by
 unfold rN
 simp only [List.length_cons,dP]
 by_cases h:ds.length = n ∧ 0 + n <= cs.length
 ·exact (if_pos (by omega)).trans (if_pos h).symm
 ·exact (if_neg (by omega)).trans (if_neg h).symm
theorem XM (cs:List D) (k:List D->Option β):rN cs 0 [] 0 k = k cs:=by
 unfold rN
 rw [if_pos ⟨rfl,by omega⟩,R8]
def D4 (e:Nat) (rows:List (List D)) (i:Nat) (row:List D) (k:List (List D)->Option β):Option β:=k (rows.set i row)
theorem PV {α:Type} (e:Nat) (c:α->List D) (xs:List α) (i:Nat) (x:α) (k:List (List D)->Option β):D4 e (cM c xs) i (c x) k = k (cM c (xs.set i x)):=by
 unfold D4
 rw [aKL]
theorem aIK {α:Type} (size v i off id e sz:Nat) (w:V) (c:α->List D) (xs:List α):LY size v i off id w bl (some (.rows v e sz (cM c xs))) kw = QZ w bl fun ds f=>fzN id f (xs[i]?.bind fun x=>rN (c x) off ds size fun row=>D4 e (cM c xs) i row fun rows=>kw .any ((id,some (.rows v e sz rows)) :: f)):=by
 unfold LY QZ
 simp only [PM,if_true,cM,List.getElem?_map]
 cases xs[i]? with
 | none =>
  simp only [Option.map_none,Option.bind_none]
  cases aJ (j8 (lk bl none)) w.cells with
  | none=>rfl
  | some ds=>simp only [fzN]; split <;> rfl
 | some x =>
  simp only [Option.map_some,Option.bind_some]
  cases aJ (j8 (lk bl none)) w.cells with
  | none=>rfl
  | some ds =>
   simp only [rN,D4,fzN]
   by_cases h1:IW id (vY (lk bl none) w) = true
   ·rw [if_pos h1]
    by_cases h2:ds.length = size ∧ off + size <= (c x).length
    ·rw [if_pos h2,if_pos ⟨h2.1,h2.2,h1⟩]; rfl
    ·rw [if_neg h2,if_neg (fun q=>h2 ⟨q.1,q.2.1⟩)]; rfl
   ·rw [if_neg h1,if_neg (fun q=>h1 q.2.2)]; rfl
end
end
section
variable {β:Type} {T:zS} {bl:List (Nat × Option aH)} {k:V->Option β} {kw:V->List (Nat × Option aH)->Option β}
def OU (size id ver:Nat) (lo hi:Option V) (b:Option aH) (k:V->Option β) (kw:V->List (Nat × Option aH)->Option β):Option β:=KG (B2 (fun _=>b) size (.own id ver) lo hi) k kw
theorem Z3 (size id ver:Nat) (lo hi:Option V):MH size (.own id ver) lo hi bl k kw = cV bl id fun b=>OU size id ver lo hi b k kw:=by
 unfold MH cV OU
 congr 1
 cases lo with
 | none=>cases hi with
  | none=>rfl
  | some h=>cases h with
   | d x=>cases x <;> rfl
   | _=>rfl
 | some l=>rfl
section
variable {α:Type} (size id v:Nat) (c:α->List D) (xs:List α) (hs:sized size (cM c xs) = true)
include hs
end
theorem Y3 {α:Type} (size id v e s:Nat) (c:α->List D) (xs:List α) (kd:IntKind) (h:Int):OU size id v none (some (.d (.int kd h))) (some (.rows v e s (cM c xs))) k kw = if 0 <= h ∧ h.toNat <= xs.length then kw (.own id (v + 1)) [(id,some (.rows (v + 1) e s (cM c (xs.take h.toNat))))] else none:=by
 unfold OU B2
 simp only [cM,List.length_map,true_and,List.map_take]
 split <;> rfl
end
end Vm
end Go.Proofs.Ytjjcaapdaldedaa
namespace Go.Proofs.Ytjjcaapdaldedaa
namespace Vm
open Go.RowKit
section
variable {β:Type} {T:zS} {d:Nat} {fr:List (Nat × V)} {bl:List (Nat × Option aH)} {k:V->Option β} {kw:V->List (Nat × Option aH)->Option β}
theorem mP {α:Type} (c:α->List D) (hc:∀ x,(c x).all E3 = true) (xs:List α):sC (cM c xs) = true:=by
 unfold sC cM
 rw [List.all_eq_true]
 intro row hr
 obtain ⟨x,_,rfl⟩:=List.mem_map.1 hr
 exact hc x
def DV (ver:Nat) (b:Option aH) (g:Nat->Nat->List (List D)->Option D):Option D:=match b with
 | some (.rows v e size rows)=>if ver = v then g e size rows else none
 | _=>none
end
section
variable {β:Type} {T:zS}
end
section
variable {β:Type} {T:zS} {fr:List (Nat × V)} {bl:List (Nat × Option aH)}
def GE (fr:List (Nat × V)):List Nat->(List V->Option β)->Option β
 | [],k=>k []
 | t :: l,k=>wD fr t fun v=>GE fr l fun vs=>k (v :: vs)
theorem aBP (l:List Nat) (k:List V->Option β):GE fr l k = k (l.map (lk fr .any)):=by
 induction l generalizing k with
 | nil=>rfl
 | cons x l ih=>simp only [GE,wD,ih,List.map_cons]
theorem ZM (k:List V->Option β):GE fr [] k = k []:=rfl
theorem V5 (t:Nat) (l:List Nat) (k:List V->Option β):GE fr (t :: l) k = wD fr t fun v=>GE fr l fun vs=>k (v :: vs):=rfl
theorem aB2 (i:Nat):uH i [] = []:=rfl
theorem ZY (i:Nat) (v:V) (l:List V):uH i (v :: l) = (i,v) :: uH (i + 1) l:=rfl
def WC (fr:List (Nat × V)) (bl:List (Nat × Option aH)):List uX->(List V->Option β)->Option β
 | [],k=>k []
 | .tmp t :: r,k=>wD fr t fun v=>WC fr bl r fun l=>k (v :: l)
 | .cell t size isAgg :: r,k=>wD fr t fun p=>CO size isAgg p bl fun v=>WC fr bl r fun l=>k (v :: l)
theorem aHH (res:List uX):∀ (k:List V->Option β),WC fr bl res k = (aJ (B3 ⟨fr,bl⟩) res).bind k:=by
 induction res with
 | nil=>intro k; rfl
 | cons r res ih =>
  intro k
  cases r with
  | tmp t =>
   simp only [WC,wD,ih,aJ,B3,TU]
   cases aJ (B3 ⟨fr,bl⟩) res <;> rfl
  | cell t size isAgg =>
   simp only [WC,wD,VY,ih,aJ,B3,KJ,TU,UE]
   cases NR size isAgg (lk fr .any t) (lk bl none) with
   | none=>rfl
   | some q =>
    obtain ⟨v,wr⟩:=q
    simp only [Option.bind_some]
    cases aJ (B3 ⟨fr,bl⟩) res <;> rfl
theorem aFq (k:List V->Option β):WC fr bl [] k = k []:=rfl
def aBj (dst:Option Nat) (slots:List Nat) (cs vs:List V) (k:List (Nat × V)->Option β):Option β :=
 match vs with
 | [v]=>k (RP dst v ++ slots.zip cs)
 | vs=>if vs.all V.noTup = true then k (RP dst (.tup vs) ++ slots.zip cs) else none
theorem aCr (dst:Option Nat) (slots:List Nat) (cs:List V) (k:List (Nat × V)->Option β):aBj dst slots cs [] k = k (RP dst (.tup []) ++ slots.zip cs):=rfl
theorem aAi (dst:Option Nat) (slots:List Nat) (cs:List V) (v u:V) (l:List V) (k:List (Nat × V)->Option β):aBj dst slots cs (v :: u :: l) k = if (v :: u :: l).all V.noTup = true then k (RP dst (.tup (v :: u :: l)) ++ slots.zip cs) else none:=rfl
theorem aDe (d:Nat) (v:V) (l:List (Nat × V)):RP (some d) v ++ l = (d,v) :: l:=rfl
theorem aDX:([]:List Nat).zip ([]:List V) = []:=rfl
theorem aDr (t:Nat) (v:V) (l:List Nat) (r:List V):(t :: l).zip (v :: r) = (t,v) :: l.zip r:=rfl
def UJ (b:Option aH) (k:List V->Option β):Option β:=match b with
 | some (.outer cs)=>k cs
 | _=>none
theorem aFG (cs:List V) (k:List V->Option β):UJ (some (.outer cs)) k = k cs:=rfl
def aFY (dst:Option Nat) (res:List uX) (id:Nat) (slots:List Nat) (fr:List (Nat × V)) (bl:List (Nat × Option aH)) (k:List (Nat × V)->List (Nat × Option aH)->Option β):Option β :=
 cV bl id fun b=>UJ b fun cs=>WC fr bl res fun vs=>aBj dst slots cs vs fun fr'=>k fr' ((id,none) :: bl)
theorem aH7 (dst:Option Nat) (res:List uX) (id:Nat) (slots:List Nat) (k:List (Nat × V)->List (Nat × Option aH)->Option β):aFY dst res id slots fr bl k = cV bl id fun b=>UJ b fun cs=>WC fr bl res fun vs=>aBj dst slots cs vs fun fr'=>k fr' ((id,none) :: bl):=rfl
theorem VN (dst:Option Nat) (res:List uX) (id:Nat) (slots:List Nat) (k:St->Option β):(rC dst res id slots ⟨fr,bl⟩).bind k = aFY dst res id slots fr bl fun fr' bl'=>k ⟨fr',bl'⟩:=by
 unfold rC aFY cV
 rw [aEG]
 cases hb:lk bl none id with
 | none=>cases aJ (B3 ⟨fr,bl⟩) res <;> rfl
 | some b =>
  cases b with
  | outer cs =>
   simp only [UJ,aHH]
   cases aJ (B3 ⟨fr,bl⟩) res with
   | none=>rfl
   | some vs =>
    simp only [Option.bind_some]
    cases vs with
    | nil=>rfl
    | cons v vs=>cases vs with
     | nil=>rfl
     | cons u vs =>
      rw [aAi]
      show (if (v :: u :: vs).all V.noTup = true then some _ else none).bind k = _
      split <;> rfl
  | _=>cases aJ (B3 ⟨fr,bl⟩) res <;> rfl
def YR (dst:Option Nat) (res:List uX) (id:Nat) (slots:List Nat) (k:Ex->St->Option β):Ex->St->Option β
 | .normal,s=>(rC dst res id slots s).bind fun s4=>k .normal s4
 | .ret,s=>(rC dst res id slots s).bind fun s4=>k .normal s4
 | .exit _,_=>none
theorem aGZ (dst:Option Nat) (res:List uX) (id:Nat) (slots:List Nat) (k:Ex->St->Option β):YR dst res id slots k .normal ⟨fr,bl⟩ = aFY dst res id slots fr bl fun fr' bl'=>k .normal ⟨fr',bl'⟩:=VN dst res id slots _
theorem aFC (dst:Option Nat) (res:List uX) (id:Nat) (slots:List Nat) (k:Ex->St->Option β):YR dst res id slots k .ret ⟨fr,bl⟩ = aFY dst res id slots fr bl fun fr' bl'=>k .normal ⟨fr',bl'⟩:=VN dst res id slots _
def J1 (keep:List Nat) (bl:List (Nat × Option aH)):List V->(List V->Option β)->Option β
 | [],k=>k []
 | v :: cs,k=>yW keep bl v fun v'=>J1 keep bl cs fun l=>k (v' :: l)
theorem aCy (keep:List Nat) (cs:List V):∀ (k:List V->Option β),J1 keep bl cs k = k (cs.map (IQ keep (lk bl none))):=by
 induction cs with
 | nil=>intro k; rfl
 | cons v cs ih=>intro k; simp only [J1,yW,ih,List.map_cons]
theorem ZE (keep:List Nat) (k:List V->Option β):J1 keep bl [] k = k []:=rfl
theorem VO (keep:List Nat) (v:V) (cs:List V) (k:List V->Option β):J1 keep bl (v :: cs) k = yW keep bl v fun v'=>J1 keep bl cs fun l=>k (v' :: l):=rfl
theorem T6 (keep:List Nat) (cs:List V) (k:Option aH->Option β):GA keep bl (some (.outer cs)) k = J1 keep bl cs fun l=>k (some (.outer l)):=by rw [aCy]; rfl
end
section
variable {β:Type} {T:zS} {d:Nat} {fr:List (Nat × V)} {bl:List (Nat × Option aH)} {k:V->Option β} {kw:V->List (Nat × Option aH)->Option β}
noncomputable def mS (T:zS) (d:Nat) (bl:List (Nat × Option aH)) (f:Nat) (ds:List D) (k:V->Option β) (kw:V->List (Nat × Option aH)->Option β):Option β:=match call T f ds with
 | some (.own x es rs)=>if GK x rs = true then KG (qC d (lk bl none) [] (.own x es rs)) k kw else none
 | _=>none
theorem aCp (f:Nat) (args:List bS):yN T d (.calln f args) fr bl k kw = NT fr bl args fun ds _=>mS T d bl f ds k kw:=by
 rw [rK,W2]
 simp only [b7]
 cases aJ (fun x=>jR (lk bl none) (bH (lk fr .any) x)) args with
 | none=>rfl
 | some ds =>
  simp only [Option.bind_some,mS]
  cases call T f ds with
  | none=>rfl
  | some y =>
   cases y with
   | own x es rs=>simp only; split <;> rfl
   | _=>rfl
theorem aDR (f:Nat) (args:List bS) (k:List Nat->Option β):KW d (.calln f args) fr bl k = F2 fr bl args k:=by
 rw [S0]; rfl
theorem fS {x:D} {rs:List (List (List D))} (h1:aBk x = true) (h2:rs.all sC = true):GK x rs = true:=by simp only [GK,h1,h2,Bool.and_self]
theorem mL {r:List (List D)} {rs:List (List (List D))} (h1:sC r = true) (h2:rs.all sC = true):(r :: rs).all sC = true:=by simp only [List.all_cons,h1,h2,Bool.and_self]
theorem iA {α:Type} {f:Nat} {ds:List D} {o:Option α} {y:α->D} {p:Nat × Nat} {es:List (Nat × Nat)} {r:α->List (List D)} {rs:α->List (List (List D))} (h:call T f ds = o.map fun x=>.own (y x) (p :: es) (r x :: rs x)) (hn:∀ x,GK (y x) (r x :: rs x) = true) :
  mS T d bl f ds k kw = o.bind fun x=>aBF bl (gW d 0 (p :: es) (r x :: rs x)) (kw (thaw d (y x)) (gW d 0 (p :: es) (r x :: rs x))):=by
 unfold mS
 rw [h]
 cases o with
 | none=>rfl
 | some x =>
  simp only [Option.map_some,Option.bind_some,qC,V0,hn x,if_true,List.append_nil]
  split
  ·obtain ⟨e,s⟩:=p; rfl
  ·rfl
end
end Vm
end Go.Proofs.Ytjjcaapdaldedaa
namespace Go.Proofs.Ytjjcaapdaldedaa
namespace Vm
open Go.RowKit
section
variable {β:Type} {T:zS} {d:Nat} {fr:List (Nat × V)} {bl:List (Nat × Option aH)} {k:V->Option β} {kw:V->List (Nat × Option aH)->Option β}
def U5 (b:Option aH) (x:Option β):Option β:=match b with
 | some (.box _)=>x
 | some (.fbox _)=>x
 | _=>none
theorem aCU (cs:List V) (x:Option β):U5 (some (.box cs)) x = x:=rfl
def aLs:Option aH->Bool
 | some (.box _)=>true
 | some (.fbox _)=>true
 | _=>false
theorem aFN (b:Option aH) (x:Option β):U5 b x = if aLs b = true then x else none:=by
 cases b with
 | none=>rfl
 | some b=>cases b <;> rfl
def aEg (v:V) (bl:List (Nat × Option aH)) (k:V->Option β):Option β:=match v with
 | .ptr id off=>cV bl id fun b=>U5 b (k (.ptr id off))
 | _=>none
theorem aFi (id off:Nat):aEg (.ptr id off) bl k = cV bl id fun b=>U5 b (k (.ptr id off)):=rfl
def JI (fr:List (Nat × V)) (bl:List (Nat × Option aH)):List bS->(List V->Option β)->Option β
 | [],k=>k []
 | x :: l,k=>dL fr x fun v=>aEg v bl fun u=>JI fr bl l fun us=>k (u :: us)
theorem aAS (k:List V->Option β):JI fr bl [] k = k []:=rfl
theorem NU (x:bS) (l:List bS) (k:List V->Option β):JI fr bl (x :: l) k = dL fr x fun v=>aEg v bl fun u=>JI fr bl l fun us=>k (u :: us):=rfl
theorem aI2 (v:V):aEg v bl k = if L7 (lk bl none) v = true then k v else none:=by
 cases v with
 | ptr id off =>
  show U5 (lk bl none id) (k (.ptr id off)) = if L7 (lk bl none) (.ptr id off) = true then _ else _
  have:L7 (lk bl none) (.ptr id off) = aLs (lk bl none id):=by
   show (match lk bl none id with | some (.box _)=>true | some (.fbox _)=>true | _=>false) = aLs (lk bl none id)
   cases lk bl none id with
   | none=>rfl
   | some b=>cases b <;> rfl
  rw [this]
  exact aFN _ _
 | _=>rfl
theorem aCt (l:List bS):∀ (k:List V->Option β),JI fr bl l k = if (l.map (bH (lk fr .any))).all (L7 (lk bl none)) = true then k (l.map (bH (lk fr .any))) else none:=by
 induction l with
 | nil=>intro k; rfl
 | cons x l ih =>
  intro k
  rw [NU]
  unfold dL
  show aEg (bH (lk fr .any) x) bl (fun u=>JI fr bl l fun us=>k (u :: us)) = _
  rw [aI2,List.map_cons,List.all_cons]
  cases L7 (lk bl none) (bH (lk fr .any) x) with
  | false=>rfl
  | true =>
   rw [if_pos rfl,ih,Bool.true_and]
theorem aC3 (f:Nat) (caps:List bS):yN T d (.mkfnv f caps) fr bl k kw = JI fr bl caps fun vs=>k (.fn f vs):=by
 rw [aCt]
 unfold yN
 simp only [b7]
 split
 ·rename_i h
  split at h
  ·cases h
  ·rename_i hc; rw [if_neg hc]
 ·rename_i v h
  split at h
  ·rename_i hc
   cases h
   rw [if_pos hc]
  ·cases h
 ·rename_i v p wr h
  split at h
  ·cases h
  ·cases h
def aF6 (keep:List Nat) (id:Nat) (b:Option aH) (x y:Option β):Option β:=match b with
 | some (.box _)=>mC keep id x y
 | _=>y
theorem aD7 (keep:List Nat) (id:Nat) (cs:List V) (x y:Option β):aF6 keep id (some (.box cs)) x y = mC keep id x y:=rfl
def aHB (keep:List Nat) (id:Nat):Option aH->Bool
 | some (.box _)=>keep.contains id
 | _=>false
theorem aI7 (keep:List Nat) (id:Nat) (b:Option aH) (x y:Option β):aF6 keep id b x y = if aHB keep id b = true then x else y:=by
 cases b with
 | none=>rfl
 | some b=>cases b <;> rfl
def fnK (keep:List Nat) (bl:List (Nat × Option aH)):List V->Option β->Option β->Option β
 | [],x,_=>x
 | .ptr id _ :: l,x,y=>cV bl id fun b=>aF6 keep id b (fnK keep bl l x y) y
 | _ :: _,_,y=>y
theorem aIX (keep:List Nat) (x y:Option β):fnK keep bl [] x y = x:=rfl
theorem aBz (keep:List Nat) (id off:Nat) (l:List V) (x y:Option β):fnK keep bl (.ptr id off :: l) x y = cV bl id fun b=>aF6 keep id b (fnK keep bl l x y) y:=rfl
theorem aEE (keep:List Nat) (x y:Option β):∀ l:List V,fnK keep bl l x y = if l.all (aBi keep (lk bl none)) = true then x else y
 | []=>rfl
 | v :: l=>by
  rw [List.all_cons]
  cases v with
  | ptr id off =>
   rw [aBz]
   show aF6 keep id (lk bl none id) (fnK keep bl l x y) y = _
   have:aBi keep (lk bl none) (.ptr id off) = aHB keep id (lk bl none id):=by
    show (match lk bl none id with | some (.box _)=>keep.contains id | _=>false) = aHB keep id (lk bl none id)
    cases lk bl none id with
    | none=>rfl
    | some b=>cases b <;> rfl
   rw [aI7,aEE keep x y l,this]
   cases aHB keep id (lk bl none id) <;> rfl
  | _=>rfl
theorem aGd (keep:List Nat) (f:Nat) (vs:List V):yW keep bl (.fn f vs) k = fnK keep bl vs (k (.fn f vs)) (k .any):=by
 rw [aEE]
 unfold yW
 simp only [IQ,SU,vS]
 split <;> rfl
theorem aDU (keep:List Nat) (f:Nat) (vs cs:List V) (k:List V->Option β):B1 keep bl (.fn f vs :: cs) k = yW keep bl (.fn f vs) fun v=>B1 keep bl cs fun l=>k (v :: l):=by simp only [DA]; rfl
def Q9 (f nc:Nat) (v:V) (k:List V->Option β):Option β:=(C0 f nc v).bind k
theorem aCX (f nc g:Nat) (vs:List V) (k:List V->Option β):Q9 f nc (.fn g vs) k = if g = f ∧ vs.length = nc then k vs else none:=by
 unfold Q9 C0
 simp only
 split <;> rfl
def aLW (x:bS) (nc f:Nat) (args:List bS) (id:Nat) (slots:List Nat) (fr:List (Nat × V)) (bl:List (Nat × Option aH)) (k:List (Nat × V)->List (Nat × Option aH)->Option β):Option β :=
 dL fr x fun v=>Q9 f nc v fun caps=>cV bl id fun b=>lS b (GE fr slots fun cs=>K5 fr args fun vs=>k (uH 0 (vs ++ caps)) ((id,some (.outer cs)) :: bl))
def aMC (x:bS) (nc f:Nat) (args:List bS) (id:Nat) (slots:List Nat) (s:St) (k:List (Nat × V)->List (Nat × Option aH)->Option β):Option β:=aLW x nc f args id slots s.fr s.bl k
theorem aBn (x:bS) (nc f:Nat) (args:List bS) (id:Nat) (slots:List Nat) (k:List (Nat × V)->List (Nat × Option aH)->Option β):aMC x nc f args id slots ⟨fr,bl⟩ k = dL fr x fun v=>Q9 f nc v fun caps=>cV bl id fun b=>lS b (GE fr slots fun cs=>K5 fr args fun vs=>k (uH 0 (vs ++ caps)) ((id,some (.outer cs)) :: bl)):=rfl
theorem aFs {k:Ex->St->Option β} (ops:List aM) (x:bS) (nc:Nat) (args:List bS) (dst:Option Nat) (f:Nat) (body:aF) (res:List uX) (id:Nat) (slots:List Nat) (s:St) :
  bP T (.inlv ops x nc args dst f body res id slots) s k = wP T ops s fun s1=>(C0 f nc (bH s1.get x)).bind fun caps=>(EG (args.map (bH s1.get) ++ caps) id slots s1).bind fun s2=>bP T body s2 fun ex s3=>match ex with
   | .exit _=>none
   | _=>(rC dst res id slots s3).bind fun s4=>k .normal s4:=by
 unfold bP wP
 rw [aJj]
 cases lG (call T) ops s with
 | none=>rfl
 | some s1 =>
  simp only [Option.bind_some]
  cases C0 f nc (bH s1.get x) with
  | none=>rfl
  | some caps =>
   simp only [Option.bind_some]
   cases EG (args.map (bH s1.get) ++ caps) id slots s1 with
   | none=>rfl
   | some s2 =>
    simp only [Option.bind_some]
    cases ev T body s2 with
    | none=>rfl
    | some q =>
     obtain ⟨e,s3⟩:=q
     cases e with
     | normal=>simp only [Option.bind_some]; cases rC dst res id slots s3 <;> rfl
     | exit i=>rfl
     | ret=>simp only [Option.bind_some]; cases rC dst res id slots s3 <;> rfl
theorem aG3 {k:Ex->St->Option β} (ops:List aM) (x:bS) (nc:Nat) (args:List bS) (dst:Option Nat) (f:Nat) (body:aF) (res:List uX) (id:Nat) (slots:List Nat) :
  bP T (.inlv ops x nc args dst f body res id slots) ⟨fr,bl⟩ k = wP T ops ⟨fr,bl⟩ fun s1=>aMC x nc f args id slots s1 fun fr' bl'=>bP T body ⟨fr',bl'⟩ (YR dst res id slots k):=by
 rw [aFs]
 congr 1
 funext s1
 obtain ⟨fr1,bl1⟩:=s1
 rw [aBn]
 unfold dL Q9
 show (C0 f nc (bH (lk fr1 .any) x)).bind _ = (C0 f nc (bH (lk fr1 .any) x)).bind _
 congr 1
 funext caps
 unfold EG cV lS
 rw [aEG]
 cases hb:lk bl1 none id with
 | some b=>rfl
 | none =>
  simp only [Option.isNone_none,if_true,Option.bind_some,aBP,W0]
  congr 1
  funext ex s3
  cases ex <;> rfl
end
end Vm
end Go.Proofs.Ytjjcaapdaldedaa
