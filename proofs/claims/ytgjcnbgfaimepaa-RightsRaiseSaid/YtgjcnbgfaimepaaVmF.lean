/- The small machine, read from the front: slices that are laid out, calls, masks, answers. The small machine, read from the front: regions whose order is drawn. The small machine, read from the front: slices that are lent, cut, cleared. The small machine, read from the front: function values that hold boxes. slices.Clone: what it is told to answer. -/
import Derived.Test.YtgjcnbgfaimepaaVmE
set_option linter.unusedVariables false
set_option linter.unusedSimpArgs false
namespace Go.Proofs.Ytgjcnbgfaimepaa
theorem zA.{u} {α:Type u} {a:α} {l:List α}:(a::l).length = l.length + 1:=rfl
theorem zB.{u} {α:Type u}:([]:List α).length = 0:=rfl
theorem zC:(!true) = false:=rfl
theorem zD:(!false) = true:=rfl
theorem zE.{u} {α:Type u} {n:Nat} {a:α}:List.replicate (n + 1) a = a::List.replicate n a:=rfl
theorem zF.{u} {α:Type u} {a:α}:List.replicate 0 a = []:=rfl
theorem zG.{u,v} {α:Type u} {β:Type v} (a:α) (f:α->Option β):(some a).bind f = f a:=rfl
theorem zH.{u,v} {α:Type u} {β:Type v} (a:α) (f:α->β):(some a).map f = some (f a):=rfl
theorem zI.{u,v} {α:Type u} {β:Type v} (f:α->β):(none:Option α).map f = none:=rfl
theorem zJ.{u,v,w} {α:Type u} {β:Type v} {γ:Sort w} (f:α->γ) (g:β->γ) (x:α):Sum.elim f g (Sum.inl x) = f x:=rfl
theorem zK.{u,v,w} {α:Type u} {β:Type v} {γ:Sort w} (f:α->γ) (g:β->γ) (x:β):Sum.elim f g (Sum.inr x) = g x:=rfl
theorem zL.{u,v,w} {α:Type u} {β:Type v} {γ:Type w} (x:Option α) (f:α->Option β) (g:β->Option γ):(x.bind f).bind g = x.bind fun y=>(f y).bind g:=Option.bind_assoc x f g
theorem zM.{u} {α:Type u} [BEq α] [ReflBEq α] (a:α):(a == a) = true:=beq_self_eq_true a
theorem zN:(¬False) = True:=not_false_eq_true
namespace Vm
open Go.RowKit
section
variable {β:Type} {T:wE} {d:Nat} {fr:List (Nat × V)} {bl:List (Nat × Option aI)} {k:V->Option β} {kw:V->List (Nat × Option aI)->Option β}
def wR (bl:List (Nat × Option aI)):List V->(List D->List (Nat × Option aI)->Option β)->Option β
 | [],k=>k [] []
 | v :: cs,k=>(iX (lk bl none) v).bind fun x=>wR bl cs fun ds f=>k (x :: ds) (AL (lk bl none) v ++ f)
theorem M0 (cs:List V) (k:List D->List (Nat × Option aI)->Option β):wR bl cs k = (aK (iX (lk bl none)) cs).bind fun ds=>k ds (cs.flatMap (AL (lk bl none))):=by
 induction cs generalizing k with
 | nil=>rfl
 | cons v cs ih =>
  simp only [wR,aK,ih,List.flatMap_cons]
  cases iX (lk bl none) v with
  | none=>rfl
  | some x=>cases aK (iX (lk bl none)) cs <;> rfl
def QR (v:V) (bl:List (Nat × Option aI)) (k:D->List (Nat × Option aI)->Option β):Option β:=(iX (lk bl none) v).bind fun x=>k x (AL (lk bl none) v)
theorem aSF (x:D) (k:D->List (Nat × Option aI)->Option β):QR (.d x) bl k = k x []:=rfl
theorem aMV (k:D->List (Nat × Option aI)->Option β):QR .nil bl k = k (.sl []) []:=rfl
def d1B (id ver:Nat) (b:Option aI) (k:D->List (Nat × Option aI)->Option β):Option β:=match b with
 | some (.rows v _ _ rows)=>if ver = v then k (.sl rows) [(id,some (.froz v rows))] else none
 | some (.froz v rows)=>if ver = v then k (.sl rows) [] else none
 | _=>none
theorem aPL (id ver:Nat) (k:D->List (Nat × Option aI)->Option β):QR (.own id ver) bl k = bG bl id fun b=>d1B id ver b k:=by
 unfold QR bG d1B
 simp only [iX,AL,rF,I2]
 generalize lk bl none id = b
 cases b with
 | none=>rfl
 | some b=>cases b with
  | rows v e s rows=>simp only; by_cases h:ver = v <;> simp [h]
  | froz v rows=>simp only; by_cases h:ver = v <;> simp [h]
  | _=>rfl
theorem aI0 (id v e s:Nat) (rows:List (List D)) (k:D->List (Nat × Option aI)->Option β):d1B id v (some (.rows v e s rows)) k = k (.sl rows) [(id,some (.froz v rows))]:=if_pos rfl
theorem aI6 (id v:Nat) (rows:List (List D)) (k:D->List (Nat × Option aI)->Option β):d1B id v (some (.froz v rows)) k = k (.sl rows) []:=if_pos rfl
def s7 (bl:List (Nat × Option aI)):List V->(List D->List (Nat × Option aI)->Option β)->Option β
 | [],k=>k [] []
 | v :: cs,k=>(rF (lk bl none) v).bind fun x=>s7 bl cs fun ds f=>k (x :: ds) (I2 (lk bl none) v ++ f)
theorem aFq (cs:List V) (k:List D->List (Nat × Option aI)->Option β):s7 bl cs k = (aK (rF (lk bl none)) cs).bind fun ds=>k ds (cs.flatMap (I2 (lk bl none))):=by
 induction cs generalizing k with
 | nil=>rfl
 | cons v cs ih =>
  simp only [s7,aK,ih,List.flatMap_cons]
  cases rF (lk bl none) v with
  | none=>rfl
  | some x=>cases aK (rF (lk bl none)) cs <;> rfl
theorem aBf (k:List D->List (Nat × Option aI)->Option β):s7 bl [] k = k [] []:=rfl
theorem aI3 (x:D) (cs:List V) (k:List D->List (Nat × Option aI)->Option β):s7 bl (.d x :: cs) k = s7 bl cs fun ds f=>k (x :: ds) f:=rfl
theorem aJ5 (cs:List V) (k:List D->List (Nat × Option aI)->Option β):s7 bl (.nil :: cs) k = s7 bl cs fun ds f=>k (.sl [] :: ds) f:=rfl
theorem aBJ (id ver:Nat) (cs:List V) (k:List D->List (Nat × Option aI)->Option β):s7 bl (.own id ver :: cs) k = QR (.own id ver) bl fun x g=>s7 bl cs fun ds f=>k (x :: ds) (g ++ f):=rfl
theorem J6 (ds:List D) (k:List D->List (Nat × Option aI)->Option β):s7 bl (aR ds) k = k ds []:=by
 have:∀ (ds:List D) (k:List D->List (Nat × Option aI)->Option β),s7 bl (aR ds) k = k ds []:=by
  intro ds
  induction ds with
  | nil=>intro k; rfl
  | cons x ds ih=>intro k; show s7 bl (aR ds) _ = _; rw [ih]; rfl
 exact this ds k
def d1P (id off:Nat) (b:Option aI) (bl:List (Nat × Option aI)) (k:D->List (Nat × Option aI)->Option β):Option β:=match b with
 | some (.box cs)=>s7 bl cs fun ds f=>k (.ptr ds off) ((id,some (.fbox ds)) :: f)
 | some (.fbox ds)=>k (.ptr ds off) []
 | _=>none
theorem aPQ (id off:Nat) (k:D->List (Nat × Option aI)->Option β):QR (.ptr id off) bl k = bG bl id fun b=>d1P id off b bl k:=by
 unfold QR bG d1P
 simp only [iX,AL]
 cases lk bl none id with
 | none=>rfl
 | some b=>cases b with
  | box cs =>
   simp only [aFq]
   cases aK (rF (lk bl none)) cs <;> rfl
  | _=>rfl
theorem aME (id off:Nat) (c:V) (cs:List V) (k:D->List (Nat × Option aI)->Option β):d1P id off (some (.box (c :: cs))) bl k = s7 bl (c :: cs) fun ds f=>k (.ptr ds off) ((id,some (.fbox ds)) :: f):=rfl
theorem aC7 (id off:Nat) (ds:List D) (k:D->List (Nat × Option aI)->Option β):d1P id off (some (.box (aR ds))) bl k = k (.ptr ds off) [(id,some (.fbox ds))]:=by
 show s7 bl (aR ds) _ = _
 rw [J6]
theorem aK3 (id off:Nat) (ds:List D) (k:D->List (Nat × Option aI)->Option β):d1P id off (some (.fbox ds)) bl k = k (.ptr ds off) []:=rfl
theorem aHc (id off:Nat) (cs:List V) (k:List D->List (Nat × Option aI)->Option β):wR bl (.ptr id off :: cs) k = QR (.ptr id off) bl fun x g=>wR bl cs fun ds f=>k (x :: ds) (g ++ f):=rfl
theorem aFN (k:List D->List (Nat × Option aI)->Option β):wR bl [] k = k [] []:=rfl
theorem aOB (x:D) (cs:List V) (k:List D->List (Nat × Option aI)->Option β):wR bl (.d x :: cs) k = wR bl cs fun ds f=>k (x :: ds) f:=rfl
theorem aMz (cs:List V) (k:List D->List (Nat × Option aI)->Option β):wR bl (.nil :: cs) k = wR bl cs fun ds f=>k (.sl [] :: ds) f:=rfl
theorem aGm (id ver:Nat) (cs:List V) (k:List D->List (Nat × Option aI)->Option β):wR bl (.own id ver :: cs) k = QR (.own id ver) bl fun x g=>wR bl cs fun ds f=>k (x :: ds) (g ++ f):=rfl
theorem EL (ds:List D) (k:List D->List (Nat × Option aI)->Option β):wR bl (aR ds) k = k ds []:=by
 have:∀ (ds:List D) (k:List D->List (Nat × Option aI)->Option β),wR bl (aR ds) k = k ds []:=by
  intro ds
  induction ds with
  | nil=>intro k; rfl
  | cons x ds ih=>intro k; show wR bl (aR ds) _ = _; rw [ih]; rfl
 exact this ds k
def BD (v:V) (bl:List (Nat × Option aI)) (k:D->List (Nat × Option aI)->Option β):Option β:=(iY (lk bl none) v).bind fun x=>k x (vX (lk bl none) v)
theorem aRm (x:D) (k:D->List (Nat × Option aI)->Option β):BD (.d x) bl k = k x []:=rfl
theorem aLo (k:D->List (Nat × Option aI)->Option β):BD .nil bl k = k (.sl []) []:=rfl
theorem aLY (id ver:Nat) (k:D->List (Nat × Option aI)->Option β):BD (.own id ver) bl k = QR (.own id ver) bl k:=rfl
theorem aIo (id off:Nat) (k:D->List (Nat × Option aI)->Option β):BD (.ptr id off) bl k = QR (.ptr id off) bl k:=rfl
theorem aAJ (cs:List V) (k:D->List (Nat × Option aI)->Option β):BD (.agg cs) bl k = wR bl cs fun ds f=>k (.agg ds) f:=by
 rw [M0]
 show ((aK (iX (lk bl none)) cs).map D.agg).bind _ = _
 cases aK (iX (lk bl none)) cs <;> rfl
theorem aG1 (ds:List D) (k:D->List (Nat × Option aI)->Option β):BD (kY ds) bl k = k (.agg ds) []:=by
 show BD (.agg (aR ds)) bl k = _
 rw [aAJ,EL]
theorem aSb (x:D) (k:List D->List (Nat × Option aI)->Option β):MK (.d x) bl k = k [x] []:=rfl
theorem XU (cs:List V) (k:List D->List (Nat × Option aI)->Option β):MK (.agg cs) bl k = wR bl cs k:=by
 rw [M0]
 show (match aK (iX (lk bl none)) cs with | some row=>k row (cs.flatMap (AL (lk bl none))) | none=>none) = _
 cases aK (iX (lk bl none)) cs <;> rfl
theorem aGH (ds:List D) (k:List D->List (Nat × Option aI)->Option β):MK (kY ds) bl k = k ds []:=by
 show MK (.agg (aR ds)) bl k = _
 rw [XU,EL]
theorem aKo (k:List D->List (Nat × Option aI)->Option β):MK .nil bl k = k [.sl []] []:=rfl
theorem aIR (id ver:Nat) (k:List D->List (Nat × Option aI)->Option β):MK (.own id ver) bl k = QR (.own id ver) bl fun x f=>k [x] f:=by
 unfold MK QR
 show (match aK (iX (lk bl none)) [.own id ver] with | some row=>k row (AL (lk bl none) (.own id ver)) | none=>none) = _
 simp only [aK]
 cases iX (lk bl none) (.own id ver) <;> rfl
def aAn (rs:List (List D)) (i:Nat) (row:List D) (k:List (List D)->Option β):Option β:=if i < rs.length then k (rs.set i row) else none
theorem aQ2 (r:List D) (rs:List (List D)) (row:List D) (k:List (List D)->Option β):aAn (r :: rs) 0 row k = k (row :: rs):=by simp [aAn]
theorem aRz (r:List D) (rs:List (List D)) (i:Nat) (row:List D) (k:List (List D)->Option β):aAn (r :: rs) (i + 1) row k = aAn rs i row fun l=>k (r :: l):=by
 unfold aAn
 simp only [List.length_cons,List.set_cons_succ]
 by_cases h:i < rs.length
 ·rw [if_pos h,if_pos (by omega)]
 ·rw [if_neg h,if_neg (by omega)]
def bsF (fr:List (Nat × V)) (bl:List (Nat × Option aI)) (size:Nat) (rs:List (List D)):List (Nat × bM)->List (Nat × Option aI)->(List (List D)->List (Nat × Option aI)->Option β)->Option β
 | [],wr,k=>k rs wr
 | (i,x) :: r,wr,k=>bV fr x fun v=>MK v bl fun row f=>sW row size (aAn rs i row fun rs'=>bsF fr bl size rs' r (wr ++ f) k)
theorem aOH (size:Nat) (rs:List (List D)) (wr:List (Nat × Option aI)) (k:List (List D)->List (Nat × Option aI)->Option β):bsF fr bl size rs [] wr k = k rs wr:=rfl
theorem aID (size:Nat) (rs:List (List D)) (i:Nat) (x:bM) (r:List (Nat × bM)) (wr:List (Nat × Option aI)) (k:List (List D)->List (Nat × Option aI)->Option β):bsF fr bl size rs ((i,x) :: r) wr k = bV fr x fun v=>MK v bl fun row f=>sW row size (aAn rs i row fun rs'=>bsF fr bl size rs' r (wr ++ f) k):=rfl
theorem aRV (size:Nat) (parts:List (Nat × bM)):∀ (rs:List (List D)) (wr:List (Nat × Option aI)) (k:List (List D)->List (Nat × Option aI)->Option β),bsF fr bl size rs parts wr k = (kZ (lk bl none) size rs (parts.map fun p=>(p.1,bL (lk fr .any) p.2))).bind fun rs'=>k rs' (wr ++ parts.flatMap fun p=>vX (lk bl none) (bL (lk fr .any) p.2)):=by
 induction parts with
 | nil=>intro rs wr k; simp [bsF,kZ]
 | cons p r ih =>
  intro rs wr k
  obtain ⟨i,x⟩:=p
  simp only [bsF,bV,MK,List.map_cons,kZ,List.flatMap_cons]
  cases aK (iX (lk bl none)) (bL (lk fr .any) x).cells with
  | none=>rfl
  | some row =>
   simp only [sW,aAn]
   by_cases h1:row.length = size
   ·by_cases h2:i < rs.length
    ·rw [if_pos h1,if_pos h2,if_pos ⟨h1,h2⟩,ih,List.append_assoc]
    ·rw [if_pos h1,if_neg h2,if_neg (fun q=>h2 q.2)]; rfl
   ·rw [if_neg h1,if_neg (fun q=>h1 q.1)]; rfl
theorem RJ (e size n:Nat) (z:List D) (parts:List (Nat × bM)):rN T d (.buildSlice e size z n parts) fr bl k kw = bG bl d fun b=>gC b (bsF fr bl size (List.replicate n z) parts [] fun rows wr=>P9 e rows fun rows=>kw (.own d 0) ((d,some (.rows 0 e size rows)) :: wr)):=by
 rw [jB]
 unfold bG gC P9
 simp only [cJ,aRV,List.nil_append]
 cases lk bl none d with
 | some b=>rfl
 | none =>
  simp only
  have e1:(parts.map fun x=>match x with | (i,x)=>(i,bL (lk fr .any) x)) = parts.map fun p=>(p.1,bL (lk fr .any) p.2):=rfl
  have e2:(parts.flatMap fun x=>match x with | (_,x)=>vX (lk bl none) (bL (lk fr .any) x)) = parts.flatMap fun p=>vX (lk bl none) (bL (lk fr .any) p.2):=rfl
  rw [e1,e2]
  cases kZ (lk bl none) size (List.replicate n z) (parts.map fun p=>(p.1,bL (lk fr .any) p.2)) <;> rfl
theorem TF {α:Type} (e size bytes:Nat) (z:List D) (c:α->List D) (x:α) (hz:z = c x) (l cp:bM):rN T d (.makeSlice e size bytes z l cp) fr bl k kw = bG bl d fun b=>gC b (bV fr l fun a=>bV fr cp fun b=>match a,b with
   | .d (.int _ n),.d (.int _ m)=>if 0 <= n ∧ n <= m ∧ (bytes:Int) * m <= 281474976710656 ∧ m <= 9223372036854775807 then kw (.own d 0) [(d,some (.rows 0 e size (cM c (List.replicate n.toNat x))))] else none
   | _,_=>none):=by
 subst hz
 rw [jB]
 unfold bG gC bV
 simp only [cJ,WQ]
 generalize bL (lk fr .any) l = a
 generalize bL (lk fr .any) cp = b
 cases lk bl none d with
 | some b=>rfl
 | none =>
  simp only
  split
  ·rename_i n _ m
   simp only
   by_cases h:0 <= n ∧ n <= m ∧ (bytes:Int) * m <= 281474976710656 ∧ m <= 9223372036854775807
   ·rw [if_pos h,if_pos h]; rfl
   ·rw [if_neg h,if_neg h]; rfl
  ·rename_i h
   split
   ·rename_i n _ m
    exact absurd rfl (h _ _ _ _ rfl)
   ·rfl
def OU (fr:List (Nat × V)) (bl:List (Nat × Option aI)):List bM->(List D->List (Nat × Option aI)->Option β)->Option β
 | [],k=>k [] []
 | x :: l,k=>bV fr x fun v=>BD v bl fun y f=>OU fr bl l fun ds g=>k (y :: ds) (f ++ g)
theorem aET (k:List D->List (Nat × Option aI)->Option β):OU fr bl [] k = k [] []:=rfl
theorem aAS (x:bM) (l:List bM) (k:List D->List (Nat × Option aI)->Option β):OU fr bl (x :: l) k = bV fr x fun v=>BD v bl fun y f=>OU fr bl l fun ds g=>k (y :: ds) (f ++ g):=rfl
theorem YR (l:List bM) (k:List D->List (Nat × Option aI)->Option β):OU fr bl l k = (aK (fun x=>iY (lk bl none) (bL (lk fr .any) x)) l).bind fun ds=>k ds (l.flatMap fun x=>vX (lk bl none) (bL (lk fr .any) x)):=by
 induction l generalizing k with
 | nil=>rfl
 | cons x l ih =>
  simp only [OU,bV,BD,aK,ih,List.flatMap_cons]
  cases iY (lk bl none) (bL (lk fr .any) x) with
  | none=>rfl
  | some y=>cases aK (fun x=>iY (lk bl none) (bL (lk fr .any) x)) l <;> rfl
def fzK (fz:List (Nat × Option aI)) (v:V) (k:V->Option β) (kw:V->List (Nat × Option aI)->Option β):Option β:=match fz with
 | []=>k v
 | p :: w=>kw v (p :: w)
theorem aNi (v:V):fzK [] v k kw = k v:=rfl
theorem aQT (l:List (Nat × Option aI)) (v:V):fzK ([] ++ l) v k kw = fzK l v k kw:=rfl
theorem aSm (p:Nat × Option aI) (w l:List (Nat × Option aI)) (v:V):fzK ((p :: w) ++ l) v k kw = kw v ((p :: w) ++ l):=rfl
theorem aH6 (p:Nat × Option aI) (w:List (Nat × Option aI)) (v:V):fzK (p :: w) v k kw = kw v (p :: w):=rfl
noncomputable def xI (T:wE) (d:Nat) (bl:List (Nat × Option aI)) (f:Nat) (ds:List D) (fz:List (Nat × Option aI)) (k:V->Option β) (kw:V->List (Nat × Option aI)->Option β):Option β:=match call T f ds with
 | none=>none
 | some r=>EE (oB d (lk bl none) fz r) k kw
theorem aLK (f:Nat) (args:List bM):rN T d (.call f args) fr bl k kw = OU fr bl args fun ds fz=>xI T d bl f ds fz k kw:=by
 rw [jB,YR]
 simp only [cJ]
 cases aK (fun x=>iY (lk bl none) (bL (lk fr .any) x)) args with
 | none=>rfl
 | some ds =>
  simp only [Option.bind_some,xI]
  cases call T f ds <;> rfl
def D.calm:D->Bool
 | .own _ _ _=>false
 | _=>true
theorem aEf {x:D} (h:x.calm = true):∀ y es rs,x ≠ .own y es rs:=fun y es rs e=>by rw [e] at h; cases h
theorem aFt {x:D} (h:IA x = true):x.calm = true:=by cases x <;> first | rfl | cases h
theorem aC0 {α:Type} {f:Nat} {ds:List D} {o:Option α} {enc:α->D} (h:call T f ds = o.map enc) (hf:∀ x,IA (enc x) = true) (fz:List (Nat × Option aI)):xI T d bl f ds fz k kw = o.bind fun x=>k (toV (enc x)):=by
 unfold xI
 rw [h]
 cases o with
 | none=>rfl
 | some x=>simp only [Option.map_some,Option.bind_some]; rw [EF (aEf (aFt (hf x))),if_pos (hf x)]; rfl
theorem aCZ {α:Type} {f:Nat} {ds:List D} {o:Option α} {enc:α->D} (h:call T f ds = o.map enc) (hf:∀ x,IA (enc x) = false) (hc:∀ x,(enc x).calm = true) (fz:List (Nat × Option aI)):xI T d bl f ds fz k kw = o.bind fun x=>fzK fz (toV (enc x)) k kw:=by
 unfold xI
 rw [h]
 cases o with
 | none=>rfl
 | some x=>simp only [Option.map_some,Option.bind_some]; rw [EF (aEf (hc x)),if_neg (by rw [hf x]; decide)]; cases fz <;> rfl
def aAv (bl:List (Nat × Option aI)):List (Nat × Option aI)->Option β->Option β
 | [],x=>x
 | (i,_) :: l,x=>bG bl i fun b=>gC b (aAv bl l x)
theorem SQ (bl:List (Nat × Option aI)) (x:Option β):∀ (l:List (Nat × Option aI)),aAv bl l x = if MM (lk bl none) l = true then x else none
 | []=>rfl
 | (i,b) :: l=>by
  cases h:lk bl none i <;> simp [aAv,MM,bG,gC,SQ bl x l,h]
theorem C5 {α:Type} {f:Nat} {ds:List D} {o:Option α} {y:α->D} {p:Nat × Nat} {es:List (Nat × Nat)} {r:α->List (List D)} {rs:α->List (List (List D))} (h:call T f ds = o.map fun x=>.own (y x) (p :: es) (r x :: rs x)) (fz:List (Nat × Option aI)) :
  xI T d bl f ds fz k kw = o.bind fun x=>aAv bl (fV d 0 (p :: es) (r x :: rs x)) (kw (thaw d (y x)) (fV d 0 (p :: es) (r x :: rs x) ++ fz)):=by
 unfold xI
 rw [h]
 cases o with
 | none=>rfl
 | some x =>
  simp only [Option.map_some,Option.bind_some,oB,SQ]
  split
  ·obtain ⟨e,s⟩:=p; rfl
  ·rfl
def RK (fr:List (Nat × V)) (bl:List (Nat × Option aI)):List bM->(List D->List (Nat × Option aI)->Option β)->Option β
 | [],k=>k [] []
 | x :: l,k=>bV fr x fun v=>QR v bl fun y f=>RK fr bl l fun ds g=>k (y :: ds) (f ++ g)
theorem aF7 (k:List D->List (Nat × Option aI)->Option β):RK fr bl [] k = k [] []:=rfl
theorem aBq (x:bM) (l:List bM) (k:List D->List (Nat × Option aI)->Option β):RK fr bl (x :: l) k = bV fr x fun v=>QR v bl fun y f=>RK fr bl l fun ds g=>k (y :: ds) (f ++ g):=rfl
theorem aJx (l:List bM) (k:List D->List (Nat × Option aI)->Option β):RK fr bl l k = (aK (fun x=>iX (lk bl none) (bL (lk fr .any) x)) l).bind fun ds=>k ds (l.flatMap fun x=>AL (lk bl none) (bL (lk fr .any) x)):=by
 induction l generalizing k with
 | nil=>rfl
 | cons x l ih =>
  simp only [RK,bV,QR,aK,ih,List.flatMap_cons]
  cases iX (lk bl none) (bL (lk fr .any) x) with
  | none=>rfl
  | some y=>cases aK (fun x=>iX (lk bl none) (bL (lk fr .any) x)) l <;> rfl
theorem aIO (f:Nat) (caps:List bM):rN T d (.mkfn f caps) fr bl k kw = RK fr bl caps fun ds fz=>fzK fz (.d (.fn f ds)) k kw:=by
 rw [jB,aJx]
 simp only [cJ]
 cases aK (fun x=>iX (lk bl none) (bL (lk fr .any) x)) caps with
 | none=>rfl
 | some ds =>
  simp only [Option.bind_some]
  cases caps.flatMap fun x=>AL (lk bl none) (bL (lk fr .any) x) <;> rfl
def PN (fr:List (Nat × V)) (bl:List (Nat × Option aI)) (caps:List D):List bM->(List D->List (Nat × Option aI)->Option β)->Option β
 | [],k=>k caps []
 | x :: l,k=>bV fr x fun v=>BD v bl fun y f=>PN fr bl caps l fun ds g=>k (y :: ds) (f ++ g)
theorem aHu (caps:List D) (k:List D->List (Nat × Option aI)->Option β):PN fr bl caps [] k = k caps []:=rfl
theorem aA4 (caps:List D) (x:bM) (l:List bM) (k:List D->List (Nat × Option aI)->Option β):PN fr bl caps (x :: l) k = bV fr x fun v=>BD v bl fun y f=>PN fr bl caps l fun ds g=>k (y :: ds) (f ++ g):=rfl
theorem aIn (caps:List D) (l:List bM) (k:List D->List (Nat × Option aI)->Option β):PN fr bl caps l k = (aK (fun x=>iY (lk bl none) (bL (lk fr .any) x)) l).bind fun ds=>k (ds ++ caps) (l.flatMap fun x=>vX (lk bl none) (bL (lk fr .any) x)):=by
 induction l generalizing k with
 | nil=>rfl
 | cons x l ih =>
  simp only [PN,bV,BD,aK,ih,List.flatMap_cons]
  cases iY (lk bl none) (bL (lk fr .any) x) with
  | none=>rfl
  | some y=>cases aK (fun x=>iY (lk bl none) (bL (lk fr .any) x)) l <;> rfl
noncomputable def aBh (T:wE) (d:Nat) (v:V) (args:List bM) (fr:List (Nat × V)) (bl:List (Nat × Option aI)) (k:V->Option β) (kw:V->List (Nat × Option aI)->Option β):Option β:=match v with
 | .d (.fn f caps)=>PN fr bl caps args fun ds fz=>xI T d bl f ds fz k kw
 | _=>none
theorem aH5 (f:Nat) (caps:List D) (args:List bM):aBh T d (.d (.fn f caps)) args fr bl k kw = PN fr bl caps args fun ds fz=>xI T d bl f ds fz k kw:=rfl
theorem aGa (g:bM) (args:List bM):rN T d (.callv g args) fr bl k kw = bV fr g fun v=>aBh T d v args fr bl k kw:=by
 rw [jB]
 unfold bV
 simp only [cJ]
 generalize bL (lk fr .any) g = v
 cases v with
 | d x=>cases x with
  | fn f caps =>
   simp only [aBh,aIn]
   cases aK (fun x=>iY (lk bl none) (bL (lk fr .any) x)) args with
   | none=>rfl
   | some ds =>
    simp only [Option.bind_some,xI]
    cases call T f (ds ++ caps) <;> rfl
  | _=>rfl
 | _=>rfl
def aQK (v:V) (i:Nat) (k:V->Option β):Option β:=match v with
 | .tup vs=>CB vs i k
 | _=>none
theorem ZF (x:bM) (i:Nat):rN T d (.extract x i) fr bl k kw = bV fr x fun v=>aQK v i k:=by
 unfold rN bV
 simp only [cJ]
 generalize bL (lk fr .any) x = v
 cases v with
 | tup vs=>simp only [aQK,MV]; cases vs[i]? <;> rfl
 | _=>rfl
theorem aR6 (vs:List V) (i:Nat):aQK (.tup vs) i k = CB vs i k:=rfl
def uG (m:tU) (fr:List (Nat × V)) (bl:List (Nat × Option aI)) (k:List (Nat × V)->List (Nat × Option aI)->Option β):Option β:=k (m.app ⟨fr,bl⟩).fr (m.app ⟨fr,bl⟩).bl
theorem aOL {k:Ex->St->Option β} (m:tU) (a:aG):b6 T (.pre m a) ⟨fr,bl⟩ k = uG m fr bl fun fr' bl'=>b6 T a ⟨fr',bl'⟩ k:=by
 rw [aNf]; rfl
theorem aMF {k:Ex->St->Option β} (m:tU):X0 m k .normal ⟨fr,bl⟩ = uG m fr bl fun fr' bl'=>k .normal ⟨fr',bl'⟩:=by
 rw [aNh]; rfl
def pI (keep:List Nat) (bl:List (Nat × Option aI)) (v:V) (k:V->Option β):Option β:=k (F3 keep (lk bl none) v)
def QI (keep:List Nat) (fr:List (Nat × V)) (bl:List (Nat × Option aI)):List Nat->(List (Nat × V)->Option β)->Option β
 | [],k=>k []
 | t :: r,k=>iQ fr t fun v=>pI keep bl v fun v'=>QI keep fr bl r fun l=>k ((t,v') :: l)
theorem aIG (keep l:List Nat):∀ (k:List (Nat × V)->Option β),QI keep fr bl l k = k (l.map fun t=>(t,F3 keep (lk bl none) (lk fr .any t))):=by
 induction l with
 | nil=>intro k; rfl
 | cons t l ih=>intro k; simp only [QI,iQ,pI,ih,List.map_cons]
def xN (keep:List Nat) (bl:List (Nat × Option aI)) (b:Option aI) (k:Option aI->Option β):Option β:=k (b.bind (B4 keep (lk bl none)))
def QL (keep:List Nat) (bl:List (Nat × Option aI)):List Nat->(List (Nat × Option aI)->Option β)->Option β
 | [],k=>k []
 | i :: r,k=>bG bl i fun b=>xN keep bl b fun b'=>QL keep bl r fun l=>k ((i,b') :: l)
theorem aKg (keep l:List Nat):∀ (k:List (Nat × Option aI)->Option β),QL keep bl l k = k (l.map fun i=>(i,(lk bl none i).bind (B4 keep (lk bl none)))):=by
 induction l with
 | nil=>intro k; rfl
 | cons t l ih=>intro k; simp only [QL,bG,xN,ih,List.map_cons]
theorem aHK (keep:List Nat) (k:List (Nat × V)->Option β):QI keep fr bl [] k = k []:=rfl
theorem aBk (keep:List Nat) (t:Nat) (r:List Nat) (k:List (Nat × V)->Option β):QI keep fr bl (t :: r) k = iQ fr t fun v=>pI keep bl v fun v'=>QI keep fr bl r fun l=>k ((t,v') :: l):=rfl
theorem aGo (keep:List Nat) (k:List (Nat × Option aI)->Option β):QL keep bl [] k = k []:=rfl
theorem aCC (keep:List Nat) (i:Nat) (r:List Nat) (k:List (Nat × Option aI)->Option β):QL keep bl (i :: r) k = bG bl i fun b=>xN keep bl b fun b'=>QL keep bl r fun l=>k ((i,b') :: l):=rfl
theorem aOe (live keep:List Nat) (k:List (Nat × V)->List (Nat × Option aI)->Option β):uG ⟨live,keep,[],[],[],[]⟩ fr bl k = QI keep fr bl live fun fr'=>QL keep bl keep fun bl'=>k fr' bl':=by
 rw [aIG,aKg]; rfl
def fP (keep:List Nat) (i:Nat) (x y:Option β):Option β:=if keep.contains i = true then x else y
theorem TD (i:Nat) (x y:Option β):fP [] i x y = y:=rfl
theorem TN (i:Nat) (r:List Nat) (x y:Option β):fP (i :: r) i x y = x:=by simp [fP]
theorem Q9 (a i:Nat) (r:List Nat) (x y:Option β) (h:(i == a) = false):fP (a :: r) i x y = fP r i x y:=by
 unfold fP
 rw [List.contains_cons,h,Bool.false_or]
section
variable (keep:List Nat)
theorem aOh (x:D):pI keep bl (.d x) k = k (.d x):=rfl
theorem aGW:pI keep bl .nil k = k .nil:=rfl
theorem aNC:pI keep bl (.tup []) k = k (.tup []):=rfl
theorem aGP:pI keep bl .any k = k .any:=rfl
def Q7 (keep:List Nat) (id off:Nat) (b:Option aI) (k:V->Option β):Option β:=match b with
 | some (.box _)=>fP keep id (k (.ptr id off)) (k .any)
 | some (.fbox ds)=>k (.d (.ptr ds off))
 | _=>k .any
theorem aAZ (id off:Nat) (cs:List V):Q7 keep id off (some (.box cs)) k = fP keep id (k (.ptr id off)) (k .any):=rfl
theorem ZK (id off:Nat) (ds:List D):Q7 keep id off (some (.fbox ds)) k = k (.d (.ptr ds off)):=rfl
theorem aAs (id off:Nat):Q7 keep id off none k = k .any:=rfl
theorem aEM (id off:Nat):pI keep bl (.ptr id off) k = bG bl id fun b=>Q7 keep id off b k:=by
 unfold pI bG Q7
 simp only [F3,PL,sR]
 generalize lk bl none id = b
 cases b with
 | none=>rfl
 | some b=>cases b with
  | box cs=>simp only [fP]; split <;> rfl
  | _=>rfl
def IU (id ver:Nat) (b:Option aI) (k:V->Option β):Option β:=match b with
 | some (.rows v _ _ _)=>if (ver == v) = true then fP keep id (k (.own id 0)) (k .any) else k .any
 | some (.froz v rows)=>if ver = v then k (.d (.sl rows)) else k .any
 | _=>k .any
theorem aHz (id ver:Nat):pI keep bl (.own id ver) k = bG bl id fun b=>IU keep id ver b k:=by
 unfold pI bG IU fP
 simp only [F3,PL,sR]
 generalize lk bl none id = b
 cases b with
 | none=>rfl
 | some b=>cases b with
  | rows v e s rows=>simp only; cases (ver == v) <;> cases keep.contains id <;> rfl
  | froz v rows=>simp only; split <;> rfl
  | _=>rfl
theorem Z3 (id v e s:Nat) (rows:List (List D)):IU keep id v (some (.rows v e s rows)) k = fP keep id (k (.own id 0)) (k .any):=by simp [IU]
theorem aBt (id ver v e s:Nat) (rows:List (List D)) (h:(ver == v) = false):IU keep id ver (some (.rows v e s rows)) k = k .any:=by simp [IU,h]
theorem XO (id v:Nat) (rows:List (List D)):IU keep id v (some (.froz v rows)) k = k (.d (.sl rows)):=if_pos rfl
theorem ZY (id v:Nat):IU keep id v none k = k .any:=rfl
def NY (id ver i off:Nat) (b:Option aI) (k:V->Option β):Option β:=match b with
 | some (.rows v _ _ _)=>if (ver == v) = true then fP keep id (k (.orow id 0 i off)) (k .any) else k .any
 | _=>k .any
theorem aDq (id ver i off:Nat):pI keep bl (.orow id ver i off) k = bG bl id fun b=>NY keep id ver i off b k:=by
 unfold pI bG NY fP
 simp only [F3,PL,sR]
 generalize lk bl none id = b
 cases b with
 | none=>rfl
 | some b=>cases b with
  | rows v e s rows=>simp only; cases (ver == v) <;> cases keep.contains id <;> rfl
  | _=>rfl
theorem aAD (id v i off e s:Nat) (rows:List (List D)):NY keep id v i off (some (.rows v e s rows)) k = fP keep id (k (.orow id 0 i off)) (k .any):=by simp [NY]
theorem aA1 (id ver v i off e s:Nat) (rows:List (List D)) (h:(ver == v) = false):NY keep id ver i off (some (.rows v e s rows)) k = k .any:=by simp [NY,h]
def rD (keep:List Nat) (bl:List (Nat × Option aI)):List V->(List V->Option β)->Option β
 | [],k=>k []
 | v :: cs,k=>k (sR keep (lk bl none) v :: cs.map (sR keep (lk bl none)))
theorem sP (cs:List V) (k:List V->Option β):rD keep bl cs k = k (cs.map (sR keep (lk bl none))):=by cases cs <;> rfl
theorem aCs (k:List V->Option β):rD keep bl [] k = k []:=rfl
theorem aKF (x:D) (cs:List V) (k:List V->Option β):rD keep bl (.d x :: cs) k = rD keep bl cs fun l=>k (.d x :: l):=by simp only [sP]; rfl
theorem aKM (cs:List V) (k:List V->Option β):rD keep bl (.nil :: cs) k = rD keep bl cs fun l=>k (.nil :: l):=by simp only [sP]; rfl
theorem aBH (cs:List V) (k:List V->Option β):rD keep bl (.any :: cs) k = rD keep bl cs fun l=>k (.any :: l):=by simp only [sP]; rfl
theorem aDo (id ver:Nat) (cs:List V) (k:List V->Option β):rD keep bl (.own id ver :: cs) k = pI keep bl (.own id ver) fun v=>rD keep bl cs fun l=>k (v :: l):=by simp only [sP]; rfl
theorem aBj (id off:Nat) (cs:List V) (k:List V->Option β):rD keep bl (.ptr id off :: cs) k = pI keep bl (.ptr id off) fun v=>rD keep bl cs fun l=>k (v :: l):=by simp only [sP]; rfl
theorem aEP (cs:List V):pI keep bl (.agg cs) k = rD keep bl cs fun l=>k (.agg l):=by rw [sP]; rfl
theorem MA (ds:List D) (b:Nat->Option aI):(aR ds).map (sR keep b) = aR ds:=by
 induction ds with
 | nil=>rfl
 | cons x ds ih=>show sR keep b (.d x) :: (aR ds).map (sR keep b) = _; rw [ih]; rfl
theorem aBZ (ds:List D):pI keep bl (kY ds) k = k (kY ds):=by
 show k (.agg ((aR ds).map (sR keep (lk bl none)))) = _
 rw [MA]; rfl
theorem X5 (k:Option aI->Option β):xN keep bl none k = k none:=rfl
theorem aCW (c:V) (cs:List V) (k:Option aI->Option β):xN keep bl (some (.box (c :: cs))) k = rD keep bl (c :: cs) fun l=>k (some (.box l)):=by rw [sP]; rfl
theorem X7 (k:Option aI->Option β):xN keep bl (some (.box [])) k = k (some (.box [])):=rfl
theorem TC (ds:List D) (k:Option aI->Option β):xN keep bl (some (.box (aR ds))) k = k (some (.box (aR ds))):=by
 show k (some (.box ((aR ds).map (sR keep (lk bl none))))) = _
 rw [MA]
theorem aAz (v e s:Nat) (rows:List (List D)) (k:Option aI->Option β):xN keep bl (some (.rows v e s rows)) k = k (some (.rows 0 e s rows)):=rfl
theorem XT (ds:List D) (k:Option aI->Option β):xN keep bl (some (.fbox ds)) k = k none:=rfl
theorem aAb (v:Nat) (rows:List (List D)) (k:Option aI->Option β):xN keep bl (some (.froz v rows)) k = k none:=rfl
end
def aOx (res:List j5):Ex->St->Option D
 | .normal,s=>match aK (tJ s) res with
  | none=>none
  | some [v]=>iY s.blk v
  | some vs=>toD s.blk (.tup vs)
 | .ret,s=>match aK (tJ s) res with
  | none=>none
  | some [v]=>iY s.blk v
  | some vs=>toD s.blk (.tup vs)
 | .exit _,_=>none
def JP (fr:List (Nat × V)) (bl:List (Nat × Option aI)):List j5->(List D->Option D)->Option D
 | [],k=>k []
 | .tmp t :: r,k=>iQ fr t fun v=>BD v bl fun x _=>JP fr bl r fun l=>k (x :: l)
 | .cell t size isAgg :: r,k=>iQ fr t fun p=>yV size isAgg p bl fun v=>BD v bl fun x _=>JP fr bl r fun l=>k (x :: l)
def M4:List D->Option D
 | [x]=>some x
 | l=>some (.tup l)
theorem RG (size:Nat) (a:Bool) (p:V):yV size a p bl k = (MJ size a p (lk bl none)).bind fun r=>k r.1:=by
 have h:=Y4 (T:=fun _=>none) (d:=0) (fr:=[]) (bl:=bl) (k:=k) (kw:=fun v _=>k v) size a (.c p)
 have e:bV [] (.c p) (fun v=>yV size a v bl k) = yV size a p bl k:=rfl
 rw [← e,← h,jB,H8]
 show EE (MJ size a p (lk bl none)) k (fun v _=>k v) = _
 cases MJ size a p (lk bl none) with
 | none=>rfl
 | some r=>obtain ⟨v,wr⟩:=r; cases wr <;> rfl
theorem CJ (fr:List (Nat × V)) (bl:List (Nat × Option aI)):St.blk ⟨fr,bl⟩ = lk bl none:=rfl
theorem aOR (res:List j5):∀ (k:List D->Option D),JP fr bl res k = (aK (tJ ⟨fr,bl⟩) res).bind fun vs=>(aK (iY (lk bl none)) vs).bind k:=by
 induction res with
 | nil=>intro k; rfl
 | cons r res ih =>
  intro k
  cases r with
  | tmp t =>
   simp only [JP,iQ,BD,ih,aK,tJ,CR,CJ]
   cases h1:aK (tJ ⟨fr,bl⟩) res with
   | none =>
    simp only [Option.bind_none]
    cases iY (lk bl none) (lk fr .any t) <;> rfl
   | some vs =>
    simp only [Option.bind_some,aK]
    cases iY (lk bl none) (lk fr .any t) with
    | none=>rfl
    | some x=>cases aK (iY (lk bl none)) vs <;> rfl
  | cell t size isAgg =>
   simp only [JP,iQ,RG,BD,ih,aK,tJ,H8,CR,CJ]
   cases MJ size isAgg (lk fr .any t) (lk bl none) with
   | none=>rfl
   | some q =>
    obtain ⟨v,wr⟩:=q
    simp only [Option.bind_some]
    cases h1:aK (tJ ⟨fr,bl⟩) res with
    | none =>
     simp only [Option.bind_none]
     cases iY (lk bl none) v <;> rfl
    | some vs =>
     simp only [Option.bind_some,aK]
     cases iY (lk bl none) v with
     | none=>rfl
     | some x=>cases aK (iY (lk bl none)) vs <;> rfl
theorem V8 (res:List j5):(match aK (tJ ⟨fr,bl⟩) res with
  | none=>none
  | some [v]=>iY (lk bl none) v
  | some vs=>toD (lk bl none) (.tup vs)) = JP fr bl res M4:=by
 rw [aOR]
 cases aK (tJ ⟨fr,bl⟩) res with
 | none=>rfl
 | some vs =>
  simp only [Option.bind_some]
  cases vs with
  | nil=>rfl
  | cons v vs =>
   cases vs with
   | nil =>
    simp only [aK]
    cases iY (lk bl none) v <;> rfl
   | cons w ws =>
    show (aK (iY (lk bl none)) (v :: w :: ws)).map D.tup = _
    simp only [aK]
    cases iY (lk bl none) v with
    | none=>rfl
    | some x=>cases iY (lk bl none) w with
     | none=>rfl
     | some y=>cases aK (iY (lk bl none)) ws <;> rfl
theorem aSh (res:List j5):aOx res .normal ⟨fr,bl⟩ = JP fr bl res M4:=V8 res
theorem aQO (res:List j5):aOx res .ret ⟨fr,bl⟩ = JP fr bl res M4:=V8 res
theorem aRG (res:List j5) (i:Nat) (s:St):aOx res (.exit i) s = none:=rfl
theorem aIr (k:List D->Option D):JP fr bl [] k = k []:=rfl
theorem aLg (t:Nat) (r:List j5) (k:List D->Option D):JP fr bl (.tmp t :: r) k = iQ fr t fun v=>BD v bl fun x _=>JP fr bl r fun l=>k (x :: l):=rfl
theorem aGz (t size:Nat) (isAgg:Bool) (r:List j5) (k:List D->Option D):JP fr bl (.cell t size isAgg :: r) k = iQ fr t fun p=>yV size isAgg p bl fun v=>BD v bl fun x _=>JP fr bl r fun l=>k (x :: l):=rfl
theorem aMK (x:D):M4 [x] = some x:=rfl
theorem aNl (x y:D) (l:List D):M4 (x :: y :: l) = some (.tup (x :: y :: l)):=rfl
theorem bQ {T:wE} {f np nt:Nat} {res:List j5} {body:aG} (hf:T f = some (.code ⟨np,nt,res,body,false,false⟩)) (ds:List D) (hl:ds.length = np) (hlt:jH 0 ds = none):Vm.call T f ds = b6 T body ⟨nV 0 ds,[]⟩ (aOx res):=by
 rw [XS hf ds hl hlt]
 unfold b6
 cases Vm.ev T body ⟨nV 0 ds,[]⟩ with
 | none=>rfl
 | some q =>
  obtain ⟨e,s⟩:=q
  cases e <;> rfl
def YS:List V->V
 | [v]=>v
 | vs=>.tup vs
def NN (fr:List (Nat × V)) (bl:List (Nat × Option aI)):List j5->(List V->Option D)->Option D
 | [],k=>k []
 | .tmp t :: r,k=>iQ fr t fun v=>NN fr bl r fun l=>k (v :: l)
 | .cell t size isAgg :: r,k=>iQ fr t fun p=>yV size isAgg p bl fun v=>NN fr bl r fun l=>k (v :: l)
theorem aPF (res:List j5):∀ (k:List V->Option D),NN fr bl res k = (aK (tJ ⟨fr,bl⟩) res).bind k:=by
 induction res with
 | nil=>intro k; rfl
 | cons r res ih =>
  intro k
  cases r with
  | tmp t =>
   simp only [NN,iQ,ih,aK,tJ,CR]
   cases aK (tJ ⟨fr,bl⟩) res <;> rfl
  | cell t size isAgg =>
   simp only [NN,iQ,RG,ih,aK,tJ,H8,CR,CJ]
   cases MJ size isAgg (lk fr .any t) (lk bl none) with
   | none=>rfl
   | some q =>
    obtain ⟨v,wr⟩:=q
    simp only [Option.bind_some]
    cases aK (tJ ⟨fr,bl⟩) res <;> rfl
def aOf (res:List j5):Ex->St->Option D
 | .normal,s=>match aK (tJ s) res with
  | none=>none
  | some [v]=>vB s.blk v
  | some vs=>vB s.blk (.tup vs)
 | .ret,s=>match aK (tJ s) res with
  | none=>none
  | some [v]=>vB s.blk v
  | some vs=>vB s.blk (.tup vs)
 | .exit _,_=>none
theorem aEu (res:List j5):(match aK (tJ ⟨fr,bl⟩) res with
  | none=>none
  | some [v]=>vB (lk bl none) v
  | some vs=>vB (lk bl none) (.tup vs)) = NN fr bl res fun vs=>vB (lk bl none) (YS vs):=by
 rw [aPF]
 cases aK (tJ ⟨fr,bl⟩) res with
 | none=>rfl
 | some vs =>
  cases vs with
  | nil=>rfl
  | cons v vs=>cases vs <;> rfl
theorem aRr (res:List j5):aOf res .normal ⟨fr,bl⟩ = NN fr bl res fun vs=>vB (lk bl none) (YS vs):=aEu res
theorem aRl (res:List j5):aOf res .ret ⟨fr,bl⟩ = NN fr bl res fun vs=>vB (lk bl none) (YS vs):=aEu res
theorem aRi (res:List j5) (i:Nat) (s:St):aOf res (.exit i) s = none:=rfl
theorem aLd (k:List V->Option D):NN fr bl [] k = k []:=rfl
theorem aMj (t:Nat) (r:List j5) (k:List V->Option D):NN fr bl (.tmp t :: r) k = iQ fr t fun v=>NN fr bl r fun l=>k (v :: l):=rfl
theorem aFs (t size:Nat) (isAgg:Bool) (r:List j5) (k:List V->Option D):NN fr bl (.cell t size isAgg :: r) k = iQ fr t fun p=>yV size isAgg p bl fun v=>NN fr bl r fun l=>k (v :: l):=rfl
theorem aPb (x:V):YS [x] = x:=rfl
theorem aMq (x y:V) (l:List V):YS (x :: y :: l) = .tup (x :: y :: l):=rfl
theorem LX {T:wE} {f np nt:Nat} {res:List j5} {body:aG} (hf:T f = some (.code ⟨np,nt,res,body,true,false⟩)) (ds:List D) (hl:ds.length = np) (hlt:jH 0 ds = none):Vm.call T f ds = b6 T body ⟨nV 0 ds,[]⟩ (aOf res):=by
 rw [XS hf ds hl hlt]
 unfold b6
 cases Vm.ev T body ⟨nV 0 ds,[]⟩ with
 | none=>rfl
 | some q =>
  obtain ⟨e,s⟩:=q
  cases e <;> rfl
def S9 (v:V) (b:Option aI) (x y:Option β):Option β:=match v,b with
 | .nil,none=>x
 | _,_=>y
theorem aOC (b:aI) (x y:Option β):S9 .nil (some b) x y = y:=rfl
theorem aSd (x y:Option β):S9 .nil none x y = x:=rfl
theorem aJs (i v:Nat) (b:Option aI) (x y:Option β):S9 (.own i v) b x y = y:=rfl
theorem aRx (z:D) (b:Option aI) (x y:Option β):S9 (.d z) b x y = y:=rfl
theorem aLr (b:Option aI) (x y:Option β):S9 .any b x y = y:=rfl
theorem aMC (live keep:List Nat) (t i e s:Nat) (l:List (Nat × Nat × Nat × Nat)) (c:List (Nat × Nat × Nat × Nat × Nat)) (ft:List Nat) (fc:List (Nat × Nat)) (k:List (Nat × V)->List (Nat × Option aI)->Option β) (hs:0 < s) :
  uG ⟨live,keep,(t,i,e,s) :: l,c,ft,fc⟩ fr bl k = iQ fr t fun v=>bG bl i fun b=>S9 v b (P9 e [] fun rows=>uG ⟨live,keep,l,c,ft,fc⟩ ((t,.own i 0) :: fr) ((i,some (.rows 0 e s rows)) :: bl) k) (uG ⟨live,keep,l,c,ft,fc⟩ fr bl k):=by
 show uG ⟨live,keep,(t,i,e,s) :: l,c,ft,fc⟩ fr bl k = S9 (lk fr .any t) (lk bl none i) _ _
 unfold uG
 rw [aSS]
 unfold mkT P9
 show k (tU.app ⟨live,keep,l,c,ft,fc⟩ (match lk fr .any t,lk bl none i with | .nil,none=>if 0 < s then _ else _ | _,_=>_)).fr (tU.app ⟨live,keep,l,c,ft,fc⟩ (match lk fr .any t,lk bl none i with | .nil,none=>if 0 < s then _ else _ | _,_=>_)).bl = _
 generalize lk fr .any t = v
 generalize lk bl none i = b
 cases v with
 | nil=>cases b with
  | none=>simp only [S9,if_pos hs]
  | some b=>rfl
 | _=>rfl
def aE7 (b0:Option aI) (n:Nat) (b:Option aI) (x:List V->Option β) (y:Option β):Option β:=match b0 with
 | some (.box cs)=>match cs[n]?,b with
  | some .nil,none=>x cs
  | _,_=>y
 | _=>y
theorem aPo (live keep:List Nat) (i n j e s:Nat) (c:List (Nat × Nat × Nat × Nat × Nat)) (ft:List Nat) (fc:List (Nat × Nat)) (k:List (Nat × V)->List (Nat × Option aI)->Option β) (hs:0 < s) :
  uG ⟨live,keep,[],(i,n,j,e,s) :: c,ft,fc⟩ fr bl k = bG bl i fun b0=>bG bl j fun b=>aE7 b0 n b (fun cs=>BJ cs n (.own j 0) fun cs'=>P9 e [] fun rows=>uG ⟨live,keep,[],c,ft,fc⟩ fr ((i,some (.box cs')) :: (j,some (.rows 0 e s rows)) :: bl) k) (uG ⟨live,keep,[],c,ft,fc⟩ fr bl k):=by
 show uG ⟨live,keep,[],(i,n,j,e,s) :: c,ft,fc⟩ fr bl k = aE7 (lk bl none i) n (lk bl none j) _ _
 unfold uG
 rw [aTz]
 have hm:∀ b0 b,lk bl none i = b0->lk bl none j = b->mkC (i,n,j,e,s) ⟨fr,bl⟩ = (match b0,b with
  | some (.box cs),none=>match cs[n]? with
   | some .nil=>if 0 < s then ⟨fr,(i,some (.box (cs.set n (.own j 0)))) :: (j,some (.rows 0 e s [])) :: bl⟩ else ⟨fr,bl⟩
   | _=>⟨fr,bl⟩
  | _,_=>⟨fr,bl⟩):=by
  rintro _ _ rfl rfl; rfl
 have hm:=hm _ _ rfl rfl
 rw [hm]
 generalize lk bl none i = b0
 generalize lk bl none j = b
 cases b0 with
 | none=>rfl
 | some b0=>cases b0 with
  | box cs =>
   cases b with
   | none =>
    simp only [aE7]
    cases h:cs[n]? with
    | none=>rfl
    | some v =>
     cases v with
     | nil =>
      have hn:n < cs.length:=by
       rw [List.getElem?_eq_some_iff] at h
       exact h.1
      simp only [if_pos hs,aAL,P9]
      rw [if_pos (by omega)]
      have:∀ (cs:List V) (n:Nat),n < cs.length->iU cs n [.own j 0] = cs.set n (.own j 0):=by
       intro cs
       induction cs with
       | nil=>intro n h; simp at h
       | cons c cs ih =>
        intro n h
        cases n with
        | zero=>cases cs <;> rfl
        | succ n=>simp only [iU,List.set_cons_succ]; rw [ih n (by simpa using h)]
      rw [this cs n hn]
     | _=>rfl
   | some b=>simp only [aE7]; cases cs[n]? with
    | none=>rfl
    | some v=>cases v <;> rfl
  | _=>cases b <;> rfl
theorem aCH (k:List (Nat × Nat × V)->Option β):KG fr [] k = k []:=rfl
theorem ZC (o s:Nat) (x:bM) (l:List (Nat × Nat × bM)) (k:List (Nat × Nat × V)->Option β):KG fr ((o,s,x) :: l) k = bV fr x fun v=>KG fr l fun vs=>k ((o,s,v) :: vs):=rfl
theorem aEK (l:List (Nat × Nat × bM)):∀ (k:List (Nat × Nat × V)->Option β),KG fr l k = k (l.map fun p=>(p.1,p.2.1,bL (lk fr .any) p.2.2)):=by
 induction l with
 | nil=>intro k; rfl
 | cons p l ih=>intro k; obtain ⟨o,s,x⟩:=p; simp only [KG,bV,ih,List.map_cons]
def QP (z:List V):List (Nat × Nat × V)->(List V->Option β)->Option β
 | [],k=>k z
 | (off,size,v) :: r,k=>uX v fun cs=>A7 cs size (kU z off cs fun z'=>QP z' r k)
theorem aGc (z:List V) (k:List V->Option β):QP z [] k = k z:=rfl
theorem aBa (z:List V) (off size:Nat) (v:V) (r:List (Nat × Nat × V)) (k:List V->Option β):QP z ((off,size,v) :: r) k = uX v fun cs=>A7 cs size (kU z off cs fun z'=>QP z' r k):=rfl
theorem aIV (ps:List (Nat × Nat × V)):∀ (z:List V) (k:List V->Option β),QP z ps k = (G5 z ps).bind k:=by
 induction ps with
 | nil=>intro z k; rfl
 | cons p r ih =>
  intro z k
  obtain ⟨off,size,v⟩:=p
  simp only [QP,G5,uX,A7,kU,ih]
  by_cases h1:v.known = true
  ·by_cases h2:v.cells.length = size
   ·subst h2
    by_cases h3:off + v.cells.length <= z.length
    ·rw [if_pos h1,if_pos rfl,if_pos h3,if_pos ⟨rfl,h3,h1⟩]
    ·rw [if_pos h1,if_pos rfl,if_neg h3,if_neg (fun q=>h3 q.2.1)]; rfl
   ·rw [if_pos h1,if_neg h2,if_neg (fun q=>h2 q.1)]; rfl
  ·rw [if_neg h1,if_neg (fun q=>h1 q.2.2)]; rfl
theorem aGL (z:List V) (parts:List (Nat × Nat × bM)):rN T d (.build z parts) fr bl k kw = KG fr parts fun ps=>QP z ps fun cs=>k (.agg cs):=by
 rw [jB,aEK,aIV]
 simp only [cJ]
 have e1:(parts.map fun x=>match x with | (o,s,x)=>(o,s,bL (lk fr .any) x)) = parts.map fun p=>(p.1,p.2.1,bL (lk fr .any) p.2.2):=rfl
 rw [e1]
 cases G5 z (parts.map fun p=>(p.1,p.2.1,bL (lk fr .any) p.2.2)) <;> rfl
theorem aB3 (ds:List D):(aR ds).length = ds.length:=by simp [aR]
def aMP (bytes:Nat) (a b:V) (x:Nat->Option β):Option β:=match a,b with
 | .d (.int _ n),.d (.int _ m)=>if 0 <= n ∧ n <= m ∧ (bytes:Int) * m <= 281474976710656 ∧ m <= 9223372036854775807 then x n.toNat else none
 | _,_=>none
theorem aRN (bytes:Nat) (i j:IntKind) (n m:Int) (x:Nat->Option β):aMP bytes (.d (.int i n)) (.d (.int j m)) x = if 0 <= n ∧ n <= m ∧ (bytes:Int) * m <= 281474976710656 ∧ m <= 9223372036854775807 then x n.toNat else none:=rfl
theorem aQo {α:Type} (e size bytes:Nat) (z:List D) (c:α->List D) (x:α) (hz:z = c x) (l cp:bM):rN T d (.makeSlice e size bytes z l cp) fr bl k kw = bG bl d fun b=>gC b (bV fr l fun a=>bV fr cp fun b=>aMP bytes a b fun n=>kw (.own d 0) [(d,some (.rows 0 e size (cM c (List.replicate n x))))]):=TF e size bytes z c x hz l cp
theorem aMc {k:Ex->St->Option β} (c:bM) (a b:aG):b6 T (.cond c a b) ⟨fr,bl⟩ k = bV fr c fun v=>L9 v (b6 T a ⟨fr,bl⟩ k) (b6 T b ⟨fr,bl⟩ k):=aLO c a b _
theorem aO3 (a b c:List (Nat × Option aI)) (t:Nat) (k:Option aI->Option β):bG ((a ++ b) ++ c) t k = bG (a ++ (b ++ c)) t k:=by rw [List.append_assoc]
def aAE:List V->Nat->(V->Option β)->Option β->Option β
 | [],_,_,y=>y
 | c :: _,0,x,_=>x c
 | _ :: cs,n + 1,x,y=>aAE cs n x y
theorem aR4 (c:V) (cs:List V) (x:V->Option β) (y:Option β):aAE (c :: cs) 0 x y = x c:=rfl
theorem aSg (c:V) (cs:List V) (n:Nat) (x:V->Option β) (y:Option β):aAE (c :: cs) (n + 1) x y = aAE cs n x y:=rfl
theorem aJM (cs:List V) (n:Nat) (b:Option aI) (x:List V->Option β) (y:Option β):aE7 (some (.box cs)) n b x y = aAE cs n (fun v=>S9 v b (x cs) y) y:=by
 have:∀ (l:List V) (n:Nat),(match l[n]?,b with | some .nil,none=>x cs | _,_=>y) = aAE l n (fun v=>S9 v b (x cs) y) y:=by
  intro l
  induction l with
  | nil=>intro n; rfl
  | cons c l ih=>intro n; cases n with
   | zero=>cases c <;> cases b <;> rfl
   | succ n=>exact ih n
 exact this cs n
theorem aGe (n:Nat) (b:Option aI) (x:List V->Option β) (y:Option β):aE7 none n b x y = y:=rfl
def aDR (rows:List (List D)) (k:V->Option β):Option β:=k (.d (.int .i64 rows.length))
theorem aMs {α:Type} (c:α->List D) (xs:List α):aDR (cM c xs) k = k (.d (.int .i64 (xs.length:Int))):=by unfold aDR; rw [vS]
theorem aOa:aDR [] k = k (.d (.int .i64 0)):=rfl
theorem aOW (x:bM):rN T d (.len x) fr bl k kw = bV fr x fun a=>J7 a bl fun rows=>aDR rows k:=aPK x
def JV (v:V) (bl:List (Nat × Option aI)) (k:V->List (Nat × Option aI)->Option β) (y:Option β):Option β:=match rF (lk bl none) v with
 | some x=>k (.d x) (I2 (lk bl none) v)
 | none=>y
theorem aR5 (x:D) (k:V->List (Nat × Option aI)->Option β) (y:Option β):JV (.d x) bl k y = k (.d x) []:=rfl
theorem aLD (k:V->List (Nat × Option aI)->Option β) (y:Option β):JV .nil bl k y = k (.d (.sl [])) []:=rfl
theorem aK5 (k:V->List (Nat × Option aI)->Option β) (y:Option β):JV .any bl k y = y:=rfl
def aMI (id ver:Nat) (b:Option aI) (k:V->List (Nat × Option aI)->Option β) (y:Option β):Option β:=match b with
 | some (.rows v _ _ rows)=>if ver = v then k (.d (.sl rows)) [(id,some (.froz v rows))] else y
 | some (.froz v rows)=>if ver = v then k (.d (.sl rows)) [] else y
 | _=>y
theorem aKm (id ver:Nat) (k:V->List (Nat × Option aI)->Option β) (y:Option β):JV (.own id ver) bl k y = bG bl id fun b=>aMI id ver b k y:=by
 unfold JV bG aMI
 simp only [rF,I2]
 generalize lk bl none id = b
 cases b with
 | none=>rfl
 | some b=>cases b with
  | rows v e s rows=>simp only; by_cases h:ver = v <;> simp [h]
  | froz v rows=>simp only; by_cases h:ver = v <;> simp [h]
  | _=>rfl
theorem aHW (id v e s:Nat) (rows:List (List D)) (k:V->List (Nat × Option aI)->Option β) (y:Option β):aMI id v (some (.rows v e s rows)) k y = k (.d (.sl rows)) [(id,some (.froz v rows))]:=if_pos rfl
theorem aGx (id v:Nat) (rows:List (List D)) (k:V->List (Nat × Option aI)->Option β) (y:Option β):aMI id v (some (.froz v rows)) k y = k (.d (.sl rows)) []:=if_pos rfl
theorem aIW (live keep:List Nat) (t:Nat) (ft:List Nat) (fc:List (Nat × Nat)) (k:List (Nat × V)->List (Nat × Option aI)->Option β) :
  uG ⟨live,keep,[],[],t :: ft,fc⟩ fr bl k = iQ fr t fun v=>JV v bl (fun v' wr=>uG ⟨live,keep,[],[],ft,fc⟩ ((t,v') :: fr) (wr ++ bl) k) (uG ⟨live,keep,[],[],ft,fc⟩ fr bl k):=by
 unfold uG
 rw [aQN]
 unfold NA iQ JV
 rw [CR,CJ]
 dsimp only
 cases rF (lk bl none) (lk fr .any t) <;> rfl
def TW (v:V) (bl:List (Nat × Option aI)) (k:V->List (Nat × Option aI)->Option β) (y:Option β):Option β:=match iX (lk bl none) v with
 | some x=>k (.d x) (AL (lk bl none) v)
 | none=>y
def aKp (n:Nat) (b:Option aI) (bl:List (Nat × Option aI)) (k:List V->List (Nat × Option aI)->Option β) (y:Option β):Option β:=match b with
 | some (.box cs)=>match cs[n]? with
  | some v=>match iX (lk bl none) v with
   | some d=>k (cs.set n (.d d)) (AL (lk bl none) v)
   | none=>y
  | none=>y
 | _=>y
theorem aJz (live keep:List Nat) (i n:Nat) (fc:List (Nat × Nat)) (k:List (Nat × V)->List (Nat × Option aI)->Option β) :
  uG ⟨live,keep,[],[],[],(i,n) :: fc⟩ fr bl k = bG bl i fun b=>aKp n b bl (fun cs wr=>uG ⟨live,keep,[],[],[],fc⟩ fr ((i,some (.box cs)) :: (wr ++ bl)) k) (uG ⟨live,keep,[],[],[],fc⟩ fr bl k):=by
 unfold uG
 rw [aSa]
 unfold frC bG aKp
 rw [CJ]
 dsimp only
 cases lk bl none i with
 | none=>rfl
 | some b =>
  cases b with
  | box cs =>
   simp only
   cases cs[n]? with
   | none=>rfl
   | some v =>
    simp only
    cases iX (lk bl none) v <;> rfl
  | _=>rfl
theorem aQL (cs:List V) (n:Nat) (w:V) (k:List V->Option β) (h:n < cs.length):BJ cs n w k = k (cs.set n w):=by
 induction cs generalizing n k with
 | nil=>simp at h
 | cons c cs ih=>cases n with
  | zero=>rfl
  | succ n=>simp only [BJ,List.set_cons_succ]; rw [ih n _ (by simpa using h)]
theorem aJv (n:Nat) (cs:List V) (k:List V->List (Nat × Option aI)->Option β) (y:Option β):aKp n (some (.box cs)) bl k y = aAE cs n (fun v=>TW v bl (fun v' wr=>BJ cs n v' fun cs'=>k cs' wr) y) y:=by
 have e:∀ (l:List V) (n:Nat) (x:V->Option β),aAE l n x y = match l[n]? with | some v=>x v | none=>y:=by
  intro l
  induction l with
  | nil=>intro n x; rfl
  | cons c l ih=>intro n x; cases n with
   | zero=>rfl
   | succ n=>exact ih n x
 rw [e]
 simp only [aKp,TW]
 cases h:cs[n]? with
 | none=>rfl
 | some v =>
  simp only
  cases iX (lk bl none) v with
  | none=>rfl
  | some d=>simp only; rw [aQL _ _ _ _ (List.getElem?_eq_some_iff.1 h).1]
theorem aQe (x:D) (k:V->List (Nat × Option aI)->Option β) (y:Option β):TW (.d x) bl k y = k (.d x) []:=rfl
theorem aFG (k:V->List (Nat × Option aI)->Option β) (y:Option β):TW .nil bl k y = k (.d (.sl [])) []:=rfl
theorem aGi (k:V->List (Nat × Option aI)->Option β) (y:Option β):TW .any bl k y = y:=rfl
theorem aHC (id ver:Nat) (k:V->List (Nat × Option aI)->Option β) (y:Option β):TW (.own id ver) bl k y = JV (.own id ver) bl k y:=rfl
theorem aHi (n:Nat) (k:List V->List (Nat × Option aI)->Option β) (y:Option β):aKp n none bl k y = y:=rfl
end
end Vm
end Go.Proofs.Ytgjcnbgfaimepaa
namespace Go.Proofs.Ytgjcnbgfaimepaa
namespace Vm
open Go.RowKit
section
variable {β:Type} {T:wE}
def GC (d:Nat) (op:fU) (fr:List (Nat × V)) (bl:List (Nat × Option aI)) (k:List Nat->Option β):Option β :=
 k ((if op.new = true then [d] else []) ++ ((op.peeks.flatMap fun x=>(bL (lk fr .any) x).ids) ++ op.deeps.flatMap fun x=>(bL (lk fr .any) x).dids (lk bl none)))
def HV (wr:List (Nat × Option aI)) (k:List Nat->Option β):Option β:=k (wr.map (·.1))
theorem aGu (k:List Nat->Option β):HV [] k = k []:=rfl
theorem aP3 (i:Nat) (b:Option aI) (w:List (Nat × Option aI)) (k:List Nat->Option β):HV ((i,b) :: w) k = HV w fun l=>k (i :: l):=rfl
theorem aKA (w:List (Nat × Option aI)) (k:List Nat->Option β):HV ([] ++ w) k = HV w k:=rfl
theorem aJP (p:Nat × Option aI) (v w:List (Nat × Option aI)) (k:List Nat->Option β):HV ((p :: v) ++ w) k = HV (p :: (v ++ w)) k:=rfl
theorem aKR (u v w:List (Nat × Option aI)) (k:List Nat->Option β):HV ((u ++ v) ++ w) k = HV (u ++ (v ++ w)) k:=by rw [List.append_assoc]
theorem aA9 (d st:Nat) (op:fU) (l:List aO) (fr:List (Nat × V)) (bl:List (Nat × Option aI)) (fp:List Fp) (k:St->List Fp->Option β) :
  lU T (⟨some d,op,none,st⟩ :: l) ⟨fr,bl⟩ fp k = rN T st op fr bl (fun v=>GC st op fr bl fun f=>lU T l ⟨(d,v) :: fr,bl⟩ ((f,[]) :: fp) k) (fun v wr=>HV wr fun ws=>GC st op fr bl fun f=>lU T l ⟨(d,v) :: fr,wr ++ bl⟩ ((f,ws) :: fp) k):=by
 rw [Q5]
 unfold rN GJ GC
 show (match cJ (call T) st (bL (lk fr .any)) (lk bl none) op with | some (v,wr)=>_ | none=>none) = _
 cases cJ (call T) st (bL (lk fr .any)) (lk bl none) op with
 | none=>rfl
 | some r=>obtain ⟨v,wr⟩:=r; cases wr <;> rfl
theorem ZR (st:Nat) (op:fU) (l:List aO) (fr:List (Nat × V)) (bl:List (Nat × Option aI)) (fp:List Fp) (k:St->List Fp->Option β) :
  lU T (⟨none,op,none,st⟩ :: l) ⟨fr,bl⟩ fp k = rN T st op fr bl (fun _=>GC st op fr bl fun f=>lU T l ⟨fr,bl⟩ ((f,[]) :: fp) k) (fun _ wr=>HV wr fun ws=>GC st op fr bl fun f=>lU T l ⟨fr,wr ++ bl⟩ ((f,ws) :: fp) k):=by
 rw [Q5]
 unfold rN GJ GC
 show (match cJ (call T) st (bL (lk fr .any)) (lk bl none) op with | some (v,wr)=>_ | none=>none) = _
 cases cJ (call T) st (bL (lk fr .any)) (lk bl none) op with
 | none=>rfl
 | some r=>obtain ⟨v,wr⟩:=r; cases wr <;> rfl
theorem aFM (fr:List (Nat × V)) (bl:List (Nat × Option aI)) (fp:List Fp) (k:St->List Fp->Option β):lU T [] ⟨fr,bl⟩ fp k = k ⟨fr,bl⟩ fp:=rfl
theorem aN1 {l:List aO} {ps:List (Nat × Nat)} {s:St} {fp:List Fp} (k:St->Option β) (h:MG l fp.reverse ps = true):aN6 l ps k s fp = k s:=if_pos h
theorem DA {d:Option Nat} {st:Nat} {g g' : Option (Nat × Bool)} {fr:Nat->V} {bl:Nat->Option aI} {wr:List (Nat × Option aI)} (t:Nat) (b:Bool) (op:fU):yB ⟨d,L8 t b op,g,st⟩ fr bl wr = yB ⟨d,op,g',st⟩ fr bl wr:=by
 cases op with
 | pick c x y =>
  cases c with
  | t t' =>
   simp only [L8]
   split <;> rfl
  | c v=>rfl
 | _=>rfl
theorem aCu {C:Nat->List D->Option D} {s:St} {t:Nat} {b:Bool} (h:s.get t = .d (.bool b)) (o:aO):jI C (L3 t b o) s = jI C o s:=by
 obtain ⟨d,op,g,st⟩:=o
 cases g with
 | some g =>
  obtain ⟨t',w⟩:=g
  simp only [L3]
  split
  ·rename_i e
   subst e
   split
   ·rename_i e
    subst e
    simp only [jI,aO.wants,h,AK h]
    cases w <;> simp only [yL] <;> cases cJ C st (bL s.get) s.blk op <;> first | rfl | (simp [DA (g':=some (t',false)),DA (g':=some (t',true))]; done) | (simp [DA (g':=some (t',false)),DA (g':=some (t',true))]; rfl)
   ·rename_i e
    simp only [jI,aO.wants,h,cJ,bL]
    cases w <;> cases b <;> simp_all [yL,yB,fU.new,fU.peeks,fU.deeps]
  ·simp only [jI,aO.wants,AK h]
   cases yL (s.get t') w <;> simp only [] <;> cases cJ C st (bL s.get) s.blk op <;> simp [DA (g':=some (t',w))]
 | none =>
  simp only [L3,jI,aO.wants,AK h]
  cases cJ C st (bL s.get) s.blk op <;> simp [DA (g':=none)]
theorem aB8 {C:Nat->List D->Option D} {o:aO} {s s' : St} {p:Fp} {t:Nat} (h:¬ o.dst = some t) (e:jI C o s = some (s',p)):s'.get t = s.get t:=by
 unfold jI at e
 split at e
 ·split at e
  ·cases e; exact E1 h
  ·cases e
 ·cases e; exact E1 h
 ·cases e
theorem KZ {t:Nat} {b:Bool}:∀ (l:List aO) {s:St} (fp:List Fp) (k:St->List Fp->Option β) (h:s.get t = .d (.bool b)),lU T (AP t b l) s fp k = lU T l s fp k
 | [],s,fp,k,h=>rfl
 | o :: l,s,fp,k,h=>by
  simp only [AP,lU,aCu h]
  cases e:jI (call T) o s with
  | none=>rfl
  | some q =>
   obtain ⟨s',p⟩:=q
   simp only
   split
   ·rfl
   ·rename_i hd
    exact KZ l _ k (by rw [aB8 hd e]; exact h)
noncomputable def EV (T:wE) (v:V) (t:Nat) (l:List aO) (s:St) (fp:List Fp) (k:St->List Fp->Option β):Option β:=match v with
 | .d (.bool b)=>if b = true then lU T (AP t true l) s fp k else lU T (AP t false l) s fp k
 | .tup []=>match l with
  | o :: r=>lU T r (s.put o.dst (.tup []) []) (([],[]) :: fp) k
  | []=>none
 | _=>none
theorem aAe (d:Option Nat) (op:fU) (t:Nat) (w:Bool) (st:Nat) (l:List aO) (fr:List (Nat × V)) (bl:List (Nat × Option aI)) (fp:List Fp) (k:St->List Fp->Option β) :
  lU T (⟨d,op,some (t,w),st⟩ :: l) ⟨fr,bl⟩ fp k = iQ fr t fun v=>EV T v t (⟨d,op,some (t,w),st⟩ :: l) ⟨fr,bl⟩ fp k:=by
 show _ = EV T (lk fr .any t) t _ _ fp k
 generalize hv:lk fr .any t = v
 have bad:∀ (q:yL v w = .bad),lU T (⟨d,op,some (t,w),st⟩ :: l) ⟨fr,bl⟩ fp k = none:=by
  intro q
  simp only [lU,jI,aO.wants]
  rw [show (St.get ⟨fr,bl⟩ t) = v from hv,q]
 cases v with
 | d x =>
  cases x with
  | bool b =>
   simp only [EV]
   cases b with
   | true=>rw [if_pos rfl,KZ (t:=t) (b:=true) (s:=⟨fr,bl⟩) _ _ _ hv]
   | false=>rw [if_neg (by decide),KZ (t:=t) (b:=false) (s:=⟨fr,bl⟩) _ _ _ hv]
  | _=>exact bad rfl
 | tup vs =>
  cases vs with
  | nil =>
   simp only [EV,lU,jI,aO.wants]
   rw [show (St.get ⟨fr,bl⟩ t) = _ from hv]
   rfl
  | cons x l=>exact bad rfl
 | _=>exact bad rfl
theorem aEZ (b:Bool) (t:Nat) (l:List aO) (s:St) (fp:List Fp) (k:St->List Fp->Option β):EV T (.d (.bool b)) t l s fp k = if b = true then lU T (AP t true l) s fp k else lU T (AP t false l) s fp k:=rfl
theorem aE3 (t d st:Nat) (op:fU) (g:Option (Nat × Bool)) (l:List aO) (fr:List (Nat × V)) (bl:List (Nat × Option aI)) (fp:List Fp) (k:St->List Fp->Option β):EV T (.tup []) t (⟨some d,op,g,st⟩ :: l) ⟨fr,bl⟩ fp k = lU T l ⟨(d,.tup []) :: fr,bl⟩ (([],[]) :: fp) k:=rfl
theorem aCv (t st:Nat) (op:fU) (g:Option (Nat × Bool)) (l:List aO) (fr:List (Nat × V)) (bl:List (Nat × Option aI)) (fp:List Fp) (k:St->List Fp->Option β):EV T (.tup []) t (⟨none,op,g,st⟩ :: l) ⟨fr,bl⟩ fp k = lU T l ⟨fr,bl⟩ (([],[]) :: fp) k:=rfl
theorem yW {l l' : List aO} {s:St} {fp:List Fp} {k:St->List Fp->Option β} (h:l = l'):lU T l s fp k = lU T l' s fp k:=by rw [h]
theorem aOv (x:D) (ds:List D) (k:D->Option β):fS (x :: ds) 0 k = k x:=rfl
theorem aNw (x:D) (ds:List D) (n:Nat) (k:D->Option β):fS (x :: ds) (n + 1) k = fS ds n k:=rfl
section
variable {d:Nat} {fr:List (Nat × V)} {bl:List (Nat × Option aI)} {k:List Nat->Option β}
def IL (v:V) (k:List Nat->Option β):Option β:=k v.ids
theorem aQ5 (x:D):IL (.d x) k = k []:=rfl
theorem aJE:IL .nil k = k []:=rfl
theorem aIF:IL .any k = k []:=rfl
theorem aJw (i o:Nat):IL (.ptr i o) k = k [i]:=rfl
theorem aKC (i o:Nat):IL (.own i o) k = k [i]:=rfl
theorem aHQ (i v j o:Nat):IL (.orow i v j o) k = k [i]:=rfl
def rU (bl:List (Nat × Option aI)):List V->(List Nat->Option β)->Option β
 | [],k=>k []
 | c :: cs,k=>k (c.dids1 (lk bl none) ++ cs.flatMap (V.dids1 (lk bl none)))
def yG (bl:List (Nat × Option aI)) (v:V) (k:List Nat->Option β):Option β:=k (v.dids (lk bl none))
theorem vQ (cs:List V):rU bl cs k = k (cs.flatMap (V.dids1 (lk bl none))):=by cases cs <;> rfl
theorem aBi:rU bl [] k = k []:=rfl
theorem aJq (x:D) (cs:List V):rU bl (.d x :: cs) k = rU bl cs k:=by simp only [vQ]; rfl
theorem aLt (cs:List V):rU bl (.nil :: cs) k = rU bl cs k:=by simp only [vQ]; rfl
theorem aCI (cs:List V):rU bl (.any :: cs) k = rU bl cs k:=by simp only [vQ]; rfl
theorem aCb (i o:Nat) (cs:List V):rU bl (.own i o :: cs) k = rU bl cs fun l=>k (i :: l):=by simp only [vQ]; rfl
theorem aMH (x:D):yG bl (.d x) k = k []:=rfl
theorem aHs:yG bl .nil k = k []:=rfl
theorem aF5 (i o:Nat):yG bl (.own i o) k = k [i]:=rfl
theorem aES (cs:List V):yG bl (.agg cs) k = rU bl cs k:=by rw [vQ]; rfl
theorem XW (ds:List D):(aR ds).flatMap (V.dids1 (lk bl none)) = []:=by
 induction ds with
 | nil=>rfl
 | cons x ds ih=>exact ih
theorem aA5 (ds:List D):yG bl (kY ds) k = k []:=by
 show k ((aR ds).flatMap (V.dids1 (lk bl none))) = _
 rw [XW]
theorem aAl (ds:List D):(aR ds).flatMap V.ids1 = []:=by
 induction ds with
 | nil=>rfl
 | cons x ds ih=>exact ih
def sE:List V->(List Nat->Option β)->Option β
 | [],k=>k []
 | c :: cs,k=>k (c.ids1 ++ cs.flatMap V.ids1)
theorem vT (cs:List V):sE cs k = k (cs.flatMap V.ids1):=by cases cs <;> rfl
theorem aCJ:sE [] k = k []:=rfl
theorem aKl (x:D) (cs:List V):sE (.d x :: cs) k = sE cs k:=by simp only [vT]; rfl
theorem aLw (cs:List V):sE (.nil :: cs) k = sE cs k:=by simp only [vT]; rfl
theorem aA6 (cs:List V):sE (.any :: cs) k = sE cs k:=by simp only [vT]; rfl
theorem aCe (i o:Nat) (cs:List V):sE (.own i o :: cs) k = sE cs fun l=>k (i :: l):=by simp only [vT]; rfl
theorem aCc (i o:Nat) (cs:List V):sE (.ptr i o :: cs) k = sE cs fun l=>k (i :: l):=by simp only [vT]; rfl
def U3 (b:Option aI) (k:List Nat->Option β):Option β:=match b with
 | some (.box cs)=>k (cs.flatMap V.ids1)
 | _=>k []
theorem aFg (c:V) (cs:List V):U3 (some (.box (c :: cs))) k = sE (c :: cs) k:=by rw [vT]; rfl
theorem W9 (ds:List D):U3 (some (.box (aR ds))) k = k []:=by
 show k ((aR ds).flatMap V.ids1) = _
 rw [aAl]
theorem aDg (ds:List D):U3 (some (.fbox ds)) k = k []:=rfl
theorem aBw:U3 none k = k []:=rfl
theorem aIk (i o:Nat):(V.ptr i o).dids1 (lk bl none) = i :: (match lk bl none i with | some (.box cs)=>cs.flatMap V.ids1 | _=>[]):=rfl
theorem aEV (i o:Nat):yG bl (.ptr i o) k = bG bl i fun b=>U3 b fun l=>k (i :: l):=by
 unfold yG bG U3
 show k ((V.ptr i o).dids1 (lk bl none)) = _
 rw [aIk]
 cases lk bl none i with
 | none=>rfl
 | some b=>cases b <;> rfl
theorem aBm (i o:Nat) (cs:List V):rU bl (.ptr i o :: cs) k = yG bl (.ptr i o) fun m=>rU bl cs fun l=>k (m ++ l):=by simp only [vQ]; rfl
theorem aJr:GC d .fail fr bl k = k []:=rfl
theorem aL4 (x:bM):GC d (.move x) fr bl k = k []:=rfl
theorem aIt (a b c:bM):GC d (.pick a b c) fr bl k = k []:=rfl
theorem aFQ (z:List V):GC d (.alloc z) fr bl k = k [d]:=rfl
theorem aNr (x:bM):GC d (.box x) fr bl k = k [d]:=rfl
theorem aGv (z:List V) (ps:List (Nat × Nat × bM)):GC d (.build z ps) fr bl k = k []:=rfl
theorem S2 (e s b:Nat) (z:List D) (x y:bM):GC d (.makeSlice e s b z x y) fr bl k = k [d]:=rfl
theorem fp1 (l:List Nat):([]:List Nat) ++ ((l ++ []) ++ []) = l:=by simp
theorem aKP (s:Nat) (a:Bool) (x:bM):GC d (.load s a x) fr bl k = bV fr x fun v=>IL v k:=by
 show k ([] ++ (((bL (lk fr .any) x).ids ++ []) ++ [])) = _
 rw [fp1]; rfl
theorem WZ (x:bM):GC d (.nilCheck x) fr bl k = bV fr x fun v=>IL v k:=by
 show k ([] ++ (((bL (lk fr .any) x).ids ++ []) ++ [])) = _
 rw [fp1]; rfl
theorem SZ (o:Nat) (x:bM):GC d (.fieldAddr o x) fr bl k = bV fr x fun v=>IL v k:=by
 show k ([] ++ (((bL (lk fr .any) x).ids ++ []) ++ [])) = _
 rw [fp1]; rfl
theorem aOQ (x:bM):GC d (.len x) fr bl k = bV fr x fun v=>IL v k:=by
 show k ([] ++ (((bL (lk fr .any) x).ids ++ []) ++ [])) = _
 rw [fp1]; rfl
theorem aFb (s:Nat) (x:bM) (lo hi:Option bM):GC d (.slice s x lo hi) fr bl k = bV fr x fun v=>IL v k:=by
 show k ([] ++ (((bL (lk fr .any) x).ids ++ []) ++ [])) = _
 rw [fp1]; rfl
theorem SX (s:Nat) (x i:bM):GC d (.indexAddr s x i) fr bl k = bV fr x fun v=>IL v k:=by
 show k ([] ++ (((bL (lk fr .any) x).ids ++ []) ++ [])) = _
 rw [fp1]; rfl
theorem aFZ (s:Nat) (x v:bM):GC d (.store s x v) fr bl k = bV fr x fun a=>IL a fun l=>bV fr v fun b=>yG bl b fun m=>k (l ++ m):=by
 show k ([] ++ (((bL (lk fr .any) x).ids ++ []) ++ ((bL (lk fr .any) v).dids (lk bl none) ++ []))) = _
 rw [List.nil_append,List.append_nil,List.append_nil]; rfl
theorem aCa (e s b:Nat) (x y:bM):GC d (.append e s b x y) fr bl k = bV fr x fun u=>IL u fun l=>bV fr y fun v=>IL v fun m=>k (d :: (l ++ m)):=by
 show k ([d] ++ (((bL (lk fr .any) x).ids ++ ((bL (lk fr .any) y).ids ++ [])) ++ [])) = _
 rw [List.append_nil,List.append_nil]; rfl
def C1 (fr:List (Nat × V)) (bl:List (Nat × Option aI)):List bM->(List Nat->Option β)->Option β
 | [],k=>k []
 | x :: l,k=>bV fr x fun v=>yG bl v fun m=>C1 fr bl l fun n=>k (m ++ n)
theorem I4 (l:List bM):∀ (k:List Nat->Option β),C1 fr bl l k = k (l.flatMap fun x=>(bL (lk fr .any) x).dids (lk bl none)):=by
 induction l with
 | nil=>intro k; rfl
 | cons x l ih=>intro k; simp only [C1,bV,yG,ih,List.flatMap_cons]
theorem aBs (k:List Nat->Option β):C1 fr bl [] k = k []:=rfl
theorem Z8 (x:bM) (l:List bM) (k:List Nat->Option β):C1 fr bl (x :: l) k = bV fr x fun v=>yG bl v fun m=>C1 fr bl l fun n=>k (m ++ n):=rfl
theorem aKB (f:Nat) (args:List bM):GC d (.call f args) fr bl k = C1 fr bl args k:=by
 rw [I4]; rfl
theorem aIE (f:Nat) (args:List bM):GC d (.mkfn f args) fr bl k = C1 fr bl args k:=by
 rw [I4]; rfl
theorem aFn (g:bM) (args:List bM):GC d (.callv g args) fr bl k = C1 fr bl args k:=by
 rw [I4]; rfl
def LN (fr:List (Nat × V)) (bl:List (Nat × Option aI)):List (Nat × bM)->(List Nat->Option β)->Option β
 | [],k=>k []
 | (_,x) :: l,k=>bV fr x fun v=>yG bl v fun m=>LN fr bl l fun n=>k (m ++ n)
theorem aGN (l:List (Nat × bM)):∀ (k:List Nat->Option β),LN fr bl l k = k ((l.map fun p=>p.2).flatMap fun x=>(bL (lk fr .any) x).dids (lk bl none)):=by
 induction l with
 | nil=>intro k; rfl
 | cons x l ih=>intro k; obtain ⟨i,x⟩:=x; simp only [LN,bV,yG,ih,List.map_cons,List.flatMap_cons]
theorem aBW (k:List Nat->Option β):LN fr bl [] k = k []:=rfl
theorem YJ (i:Nat) (x:bM) (l:List (Nat × bM)) (k:List Nat->Option β):LN fr bl ((i,x) :: l) k = bV fr x fun v=>yG bl v fun m=>LN fr bl l fun n=>k (m ++ n):=rfl
theorem RW (e s n:Nat) (z:List D) (ps:List (Nat × bM)):GC d (.buildSlice e s z n ps) fr bl k = LN fr bl ps fun l=>k (d :: l):=by
 rw [aGN]; rfl
theorem aMT (c:Nat) (op:BinOp) (x y:bM):GC d (.bin c op x y) fr bl k = k []:=rfl
theorem aMv (ks:List Nat) (n:Bool) (x y:bM):GC d (.eqS ks n x y) fr bl k = k []:=rfl
theorem aRB (op:UnOp) (x:bM):GC d (.un op x) fr bl k = k []:=rfl
theorem aIh (kd:IntKind) (x:bM):GC d (.conv kd x) fr bl k = k []:=rfl
theorem VQ (x:bM) (lo hi:Option bM):GC d (.strSlice x lo hi) fr bl k = k []:=rfl
theorem aFL (o s:Nat) (a:Bool) (x:bM):GC d (.field o s a x) fr bl k = k []:=rfl
theorem aEI (x i:bM):GC d (.index x i) fr bl k = k []:=rfl
theorem aLS (x:bM):GC d (.lenS x) fr bl k = k []:=rfl
theorem aPZ (l:List bM):GC d (.max l) fr bl k = k []:=rfl
theorem aNJ (l:List bM):GC d (.min l) fr bl k = k []:=rfl
theorem aHU (x:bM):GC d (.bytes x) fr bl k = k []:=rfl
theorem aAo (x:bM) (i:Nat):GC d (.extract x i) fr bl k = k []:=rfl
theorem aIT {k:Ex->St->Option β} (l:List aO) (ps:List (Nat × Nat)):b6 T (.region l (some ps)) ⟨fr,bl⟩ k = lU T l ⟨fr,bl⟩ [] (aN6 l ps (k .normal)):=by
 rw [aJT,aNq]
end
section
variable {d:Nat} {fr:List (Nat × V)} {bl:List (Nat × Option aI)} {k:V->Option β} {kw:V->List (Nat × Option aI)->Option β}
theorem aRb (a b c:List (Nat × Option aI)) (v:V):fzK ((a ++ b) ++ c) v k kw = fzK (a ++ (b ++ c)) v k kw:=by rw [List.append_assoc]
def fzN (id:Nat) (f:List (Nat × Option aI)) (x:Option β):Option β:=if AY id f = true then x else none
theorem T2 (id:Nat) (b:List (Nat × Option aI)):∀ a:List (Nat × Option aI),AY id (a ++ b) = if AY id a = true then AY id b else false
 | []=>rfl
 | (i,x) :: a=>by
  simp only [List.cons_append,AY]
  by_cases h:i = id
  ·simp [h]
  ·simp only [if_neg h]; exact T2 id b a
theorem aOj (id:Nat) (x:Option β):fzN id [] x = x:=rfl
theorem aS2 (id i:Nat) (b:Option aI) (w:List (Nat × Option aI)) (x:Option β) (h:(i == id) = false):fzN id ((i,b) :: w) x = fzN id w x:=by
 have h:¬ i = id:=by simpa using h
 simp only [fzN,AY,if_neg h]
theorem aOg (id:Nat) (a b:List (Nat × Option aI)) (x:Option β):fzN id (a ++ b) x = fzN id a (fzN id b x):=by
 unfold fzN
 rw [T2]
 by_cases h:AY id a = true
 ·rw [if_pos h,if_pos h]
 ·rw [if_neg h,if_neg h]; rfl
def cE (row:List D) (off:Nat) (ds:List D) (size:Nat) (k:List D->Option β):Option β:=if ds.length = size ∧ off + size <= row.length then k (iU row off ds) else none
theorem V6 (c:D) (cs:List D) (off:Nat) (e:D) (ds:List D) (n:Nat) (k:List D->Option β):cE (c :: cs) (off + 1) (e :: ds) n k = cE cs off (e :: ds) n fun l=>k (c :: l):=by
 unfold cE
 simp only [List.length_cons,iU]
 by_cases h:ds.length + 1 = n ∧ off + n <= cs.length
 ·exact (if_pos (by omega)).trans (if_pos h).symm
 ·exact (if_neg (by omega)).trans (if_neg h).symm
theorem X8 (c:D) (cs:List D) (e:D) (ds:List D) (n:Nat) (k:List D->Option β):cE (c :: cs) 0 (e :: ds) (n + 1) k = cE cs 0 ds n fun l=>k (e :: l):=by
 unfold cE
 simp only [List.length_cons,iU]
 by_cases h:ds.length = n ∧ 0 + n <= cs.length
 ·exact (if_pos (by omega)).trans (if_pos h).symm
 ·exact (if_neg (by omega)).trans (if_neg h).symm
theorem YO (cs:List D) (k:List D->Option β):cE cs 0 [] 0 k = k cs:=by
 unfold cE
 rw [if_pos ⟨rfl,by omega⟩,U9]
def BM (e:Nat) (rows:List (List D)) (i:Nat) (row:List D) (k:List (List D)->Option β):Option β:=k (rows.set i row)
theorem EK {α:Type} (e:Nat) (c:α->List D) (xs:List α) (i:Nat) (x:α) (k:List (List D)->Option β):BM e (cM c xs) i (c x) k = k (cM c (xs.set i x)):=by
 unfold BM
 rw [aRh]
theorem aPI {α:Type} (size v i off id e sz:Nat) (w:V) (c:α->List D) (xs:List α):LY size v i off id w bl (some (.rows v e sz (cM c xs))) kw = MK w bl fun ds f=>fzN id f (xs[i]?.bind fun x=>cE (c x) off ds size fun row=>BM e (cM c xs) i row fun rows=>kw .any ((id,some (.rows v e sz rows)) :: f)):=by
 unfold LY MK
 simp only [QU,if_true,cM,List.getElem?_map]
 cases xs[i]? with
 | none =>
  simp only [Option.map_none,Option.bind_none]
  cases aK (iX (lk bl none)) w.cells with
  | none=>rfl
  | some ds=>simp only [fzN]; split <;> rfl
 | some x =>
  simp only [Option.map_some,Option.bind_some]
  cases aK (iX (lk bl none)) w.cells with
  | none=>rfl
  | some ds =>
   simp only [cE,BM,fzN]
   by_cases h1:AY id (vX (lk bl none) w) = true
   ·rw [if_pos h1]
    by_cases h2:ds.length = size ∧ off + size <= (c x).length
    ·rw [if_pos h2,if_pos ⟨h2.1,h2.2,h1⟩]; rfl
    ·rw [if_neg h2,if_neg (fun q=>h2 ⟨q.1,q.2.1⟩)]; rfl
   ·rw [if_neg h1,if_neg (fun q=>h1 q.2.2)]; rfl
end
end
section
variable {β:Type} {T:wE} {bl:List (Nat × Option aI)} {k:V->Option β} {kw:V->List (Nat × Option aI)->Option β}
def uK (size id ver:Nat) (lo hi:Option V) (b:Option aI) (k:V->Option β) (kw:V->List (Nat × Option aI)->Option β):Option β:=EE (xB (fun _=>b) size (.own id ver) lo hi) k kw
theorem aBQ (size id ver:Nat) (lo hi:Option V):FR size (.own id ver) lo hi bl k kw = bG bl id fun b=>uK size id ver lo hi b k kw:=by
 unfold FR bG uK
 congr 1
 cases lo with
 | none=>cases hi with
  | none=>rfl
  | some h=>cases h with
   | d x=>cases x <;> rfl
   | _=>rfl
 | some l=>rfl
theorem vP {α:Type} (size id v:Nat) (c:α->List D) (xs:List α) (hs:sized size (cM c xs) = true) (b:aI) (wr:List (Nat × Option aI)) (lo hi:Option V) (l h:Int) (hl:C2 lo 0 = some l) (hh:C2 hi (xs.length:Int) = some h)
  (hb:gG (fun _=>some b) (.own id v) = some (cM c xs)) (hw:AL (fun _=>some b) (.own id v) = wr) (hn:lo = none->hi = none) :
  uK size id v lo hi (some b) k kw = if jJ xs.length l h then EE (some (.d (.sl (cM c (iR xs l h))),wr)) k kw else none:=by
 have e0:xB (fun _=>some b) size (.own id v) lo hi = (match C2 hi ((cM c xs).length:Int),C2 lo 0 with
   | some h,some l=>if 0 <= l ∧ l <= h ∧ h.toNat <= (cM c xs).length ∧ sized size (cM c xs) = true then some (.d (.sl (((cM c xs).take h.toNat).drop l.toNat)),wr) else none
   | _,_=>none):=by
  cases lo with
  | none =>
   obtain rfl:=hn rfl
   unfold xB
   simp only [hb,hw]
   rfl
  | some w =>
   unfold xB
   simp only [hb,hw]
   rfl
 unfold uK
 rw [e0,show ((cM c xs).length:Int) = (xs.length:Int) by simp [cM],hl,hh]
 simp only [show (cM c xs).length = xs.length by simp [cM]]
 by_cases q:jJ xs.length l h
 ·rw [if_pos q,if_pos ⟨q.1,q.2.1,q.2.2,hs⟩]
  simp only [cM,iR,List.map_drop,List.map_take]
 ·rw [if_neg q,if_neg (fun w=>q ⟨w.1,w.2.1,w.2.2.1⟩)]; rfl
section
variable {α:Type} (size id v:Nat) (c:α->List D) (xs:List α) (hs:sized size (cM c xs) = true)
include hs
theorem aB4 (e s:Nat) (kd:IntKind) (l:Int):uK size id v (some (.d (.int kd l))) none (some (.rows v e s (cM c xs))) k kw = if jJ xs.length l (xs.length:Int) then kw (.d (.sl (cM c (iR xs l (xs.length:Int))))) [(id,some (.froz v (cM c xs)))] else none :=
 vP size id v c xs hs _ _ _ _ _ _ rfl rfl (by simp [gG]) rfl (fun h=>by cases h)
theorem aBP (e s:Nat) (kd kd' : IntKind) (l h:Int):uK size id v (some (.d (.int kd l))) (some (.d (.int kd' h))) (some (.rows v e s (cM c xs))) k kw = if jJ xs.length l h then kw (.d (.sl (cM c (iR xs l h)))) [(id,some (.froz v (cM c xs)))] else none :=
 vP size id v c xs hs _ _ _ _ _ _ rfl rfl (by simp [gG]) rfl (fun h=>by cases h)
theorem aCo (e s:Nat):uK size id v none none (some (.rows v e s (cM c xs))) k kw = if jJ xs.length 0 (xs.length:Int) then kw (.d (.sl (cM c (iR xs 0 (xs.length:Int))))) [(id,some (.froz v (cM c xs)))] else none :=
 vP size id v c xs hs _ _ _ _ _ _ rfl rfl (by simp [gG]) rfl (fun _=>rfl)
theorem aBO (kd:IntKind) (l:Int):uK size id v (some (.d (.int kd l))) none (some (.froz v (cM c xs))) k kw = if jJ xs.length l (xs.length:Int) then k (.d (.sl (cM c (iR xs l (xs.length:Int))))) else none :=
 vP size id v c xs hs _ _ _ _ _ _ rfl rfl (by simp [gG]) rfl (fun h=>by cases h)
theorem aDp (kd kd' : IntKind) (l h:Int):uK size id v (some (.d (.int kd l))) (some (.d (.int kd' h))) (some (.froz v (cM c xs))) k kw = if jJ xs.length l h then k (.d (.sl (cM c (iR xs l h)))) else none :=
 vP size id v c xs hs _ _ _ _ _ _ rfl rfl (by simp [gG]) rfl (fun h=>by cases h)
theorem aB7:uK size id v none none (some (.froz v (cM c xs))) k kw = if jJ xs.length 0 (xs.length:Int) then k (.d (.sl (cM c (iR xs 0 (xs.length:Int))))) else none :=
 vP size id v c xs hs _ _ _ _ _ _ rfl rfl (by simp [gG]) rfl (fun _=>rfl)
end
theorem aDd {α:Type} (size id v e s:Nat) (c:α->List D) (xs:List α) (kd:IntKind) (h:Int):uK size id v none (some (.d (.int kd h))) (some (.rows v e s (cM c xs))) k kw = if 0 <= h ∧ h.toNat <= xs.length then kw (.own id (v + 1)) [(id,some (.rows (v + 1) e s (cM c (xs.take h.toNat))))] else none:=by
 unfold uK xB
 simp only [cM,List.length_map,true_and,List.map_take]
 split <;> rfl
end
end Vm
end Go.Proofs.Ytgjcnbgfaimepaa
namespace Go.Proofs.Ytgjcnbgfaimepaa
namespace Vm
open Go.RowKit
section
variable {β:Type} {T:wE} {d:Nat} {fr:List (Nat × V)} {bl:List (Nat × Option aI)} {k:V->Option β} {kw:V->List (Nat × Option aI)->Option β}
def aRM (size:Nat) (a:V) (lo hi:Option V) (bl:List (Nat × Option aI)) (kw:V->List (Nat × Option aI)->Option β):Option β:=match K3 (lk bl none) size a lo hi with
 | some (v,wr)=>kw v wr
 | none=>none
def QS (size id ver:Nat) (lo hi:Option V) (b:Option aI) (kw:V->List (Nat × Option aI)->Option β):Option β:=match K3 (fun _=>b) size (.own id ver) lo hi with
 | some (v,wr)=>kw v wr
 | none=>none
theorem aOP {bl:Nat->Option aI} {size:Nat} {a:V} {lo hi:Option V} {v:V} {wr:List (Nat × Option aI)} (h:K3 bl size a lo hi = some (v,wr)):∃ p l,wr = p :: l:=by
 unfold K3 at h
 split at h
 ·split at h
  ·split at h
   ·split at h
    ·cases h; exact ⟨_,_,rfl⟩
    ·cases h
   ·cases h
  ·cases h
 ·cases h
theorem aOc (size:Nat) (x:bM) (lo hi:Option bM):rN T d (.cut size x lo hi) fr bl k kw = bV fr x fun a=>aCT fr lo fun l=>aCT fr hi fun h=>aRM size a l h bl kw:=by
 rw [jB]
 simp only [cJ]
 have e:∀ (o:Option bM) (g:Option V->Option β),aCT fr o g = g (o.map (bL (lk fr .any))):=fun o g=>by cases o <;> rfl
 simp only [e,bV,aRM,EE]
 cases h:K3 (lk bl none) size (bL (lk fr .any) x) (lo.map (bL (lk fr .any))) (hi.map (bL (lk fr .any))) with
 | none=>rfl
 | some r =>
  obtain ⟨v,wr⟩:=r
  obtain ⟨p,l,rfl⟩:=aOP h
  rfl
theorem aJQ (size id ver:Nat) (lo hi:Option V):aRM size (.own id ver) lo hi bl kw = bG bl id fun b=>QS size id ver lo hi b kw:=rfl
theorem aKb {α:Type} (c:α->List D) (xs:List α) (e s id v:Nat) (kd:IntKind) (l:Int):QS s id v (some (.d (.int kd l))) none (some (.rows v e s (cM c xs))) kw = if jJ xs.length l (xs.length:Int) then kw (.own id (v + 1)) [(id,some (.rows (v + 1) e s (cM c (iR xs l (xs.length:Int)))))] else none:=by
 have e1:(cM c xs).length = xs.length:=List.length_map ..
 have e2:((cM c xs).take (Int.toNat (xs.length:Int))).drop l.toNat = cM c (iR xs l (xs.length:Int)):=by unfold cM iR; rw [List.map_drop,List.map_take]
 by_cases h:jJ xs.length l (xs.length:Int)
 ·rw [if_pos h]
  simp only [QS,K3,e1,e2]
  rw [if_pos ⟨trivial,trivial,h⟩]
 ·rw [if_neg h]
  simp only [QS,K3,e1,e2]
  rw [if_neg fun q=>h q.2.2]
theorem aLh {α:Type} (c:α->List D) (xs:List α) (e s id v:Nat) (kd kd' : IntKind) (l m:Int):QS s id v (some (.d (.int kd l))) (some (.d (.int kd' m))) (some (.rows v e s (cM c xs))) kw = if jJ xs.length l m then kw (.own id (v + 1)) [(id,some (.rows (v + 1) e s (cM c (iR xs l m))))] else none:=by
 have e1:(cM c xs).length = xs.length:=List.length_map ..
 have e2:((cM c xs).take m.toNat).drop l.toNat = cM c (iR xs l m):=by unfold cM iR; rw [List.map_drop,List.map_take]
 by_cases h:jJ xs.length l m
 ·rw [if_pos h]
  simp only [QS,K3,e1,e2]
  rw [if_pos ⟨trivial,trivial,h⟩]
 ·rw [if_neg h]
  simp only [QS,K3,e1,e2]
  rw [if_neg fun q=>h q.2.2]
def WG (z:List D) (a:V) (bl:List (Nat × Option aI)) (k:V->Option β) (kw:V->List (Nat × Option aI)->Option β):Option β:=EE (match a with
  | .nil=>some (.any,[])
  | .own id ver=>match lk bl none id with
   | some (.rows v e size rows)=>if ver = v ∧ z.length = size then some (.any,[(id,some (.rows v e size (List.replicate rows.length z)))]) else none
   | _=>none
  | _=>none) k kw
def aDH (z:List D) (id ver:Nat) (b:Option aI) (kw:V->List (Nat × Option aI)->Option β):Option β:=match b with
 | some (.rows v e size rows)=>if ver = v ∧ z.length = size then kw .any [(id,some (.rows v e size (List.replicate rows.length z)))] else none
 | _=>none
def RR (neg:Bool) (a:V) (bl:List (Nat × Option aI)) (k:V->Option β):Option β:=match K4 (lk bl none) neg a with
 | some d=>k (.d d)
 | none=>none
def IY (neg:Bool) (ver:Nat) (b:Option aI) (k:V->Option β):Option β:=match b with
 | some (.rows v _ _ rows)=>if ver = v ∧ 0 < rows.length then k (.d (.bool neg)) else none
 | some (.froz v rows)=>if ver = v ∧ 0 < rows.length then k (.d (.bool neg)) else none
 | _=>none
theorem VF {α:Type} (c:α->List D) (xs:List α) (neg:Bool) (v e size:Nat):IY neg v (some (.rows v e size (cM c xs))) k = if 0 < xs.length then k (.d (.bool neg)) else none:=by
 unfold IY
 simp only [vS,true_and]
theorem VU {α:Type} (c:α->List D) (xs:List α) (neg:Bool) (v:Nat):IY neg v (some (.froz v (cM c xs))) k = if 0 < xs.length then k (.d (.bool neg)) else none:=by
 unfold IY
 simp only [vS,true_and]
theorem aFu (neg:Bool) (x:bM):rN T d (.isnil neg x) fr bl k kw = bV fr x fun a=>RR neg a bl k:=by
 unfold rN bV RR
 simp only [cJ,J1.v]
 cases K4 (lk bl none) neg (bL (lk fr .any) x) <;> rfl
theorem aCr (neg:Bool):RR neg .nil bl k = k (.d (.bool (!neg))):=rfl
theorem aCX (neg:Bool) (id ver:Nat):RR neg (.own id ver) bl k = bG bl id fun b=>IY neg ver b k:=by
 unfold RR K4 IY bG
 simp only [gG]
 cases lk bl none id with
 | none=>rfl
 | some b =>
  cases b with
  | rows v e size rows =>
   simp only
   by_cases q:ver = v
   ·cases rows <;> simp [q]
   ·simp [q]
  | froz v rows =>
   simp only
   by_cases q:ver = v
   ·cases rows <;> simp [q]
   ·simp [q]
  | _=>rfl
theorem aG7 (z:List D) (x:bM):rN T d (.clear z x) fr bl k kw = bV fr x fun a=>WG z a bl k kw:=by
 rw [jB]
 rfl
theorem aBT (z:List D):WG z .nil bl k kw = k .any:=rfl
theorem aC6 (z:List D) (id ver:Nat):WG z (.own id ver) bl k kw = bG bl id fun b=>aDH z id ver b kw:=by
 unfold WG bG aDH
 simp only
 cases lk bl none id with
 | none=>rfl
 | some b =>
  cases b with
  | rows v e size rows =>
   simp only
   split <;> rfl
  | _=>rfl
def aFP:List bM->Nat->(bM->Option β)->Option β
 | [],_,_=>none
 | x :: _,0,g=>g x
 | _ :: l,n + 1,g=>aFP l n g
theorem aRH (x:bM) (l:List bM) (g:bM->Option β):aFP (x :: l) 0 g = g x:=rfl
theorem aQM (x:bM) (l:List bM) (n:Nat) (g:bM->Option β):aFP (x :: l) (n + 1) g = aFP l n g:=rfl
theorem aDJ (g:bM->Option β):∀ (l:List bM) (n:Nat),aFP l n g = l[n]?.bind g
 | [],_=>rfl
 | _ :: _,0=>rfl
 | _ :: l,n + 1=>aDJ g l n
def V9 (v:V) (g:Nat->Nat->Option β):Option β:=match v with
 | .own id ver=>g id ver
 | _=>none
theorem aRI (id ver:Nat) (g:Nat->Nat->Option β):V9 (.own id ver) g = g id ver:=rfl
def XX (v:V) (bl:List (Nat × Option aI)) (g:D->Option β):Option β:=(M6 (lk bl none) v).bind g
def aBN (ver:Nat) (b:Option aI) (g:D->Option β):Option β:=match b with
 | some (.rows v e size rows)=>if ver = v then g (.own (.ref 0) [(e,size)] [rows]) else none
 | _=>none
theorem aGp (id ver:Nat) (g:D->Option β):XX (.own id ver) bl g = bG bl id fun b=>aBN ver b g:=by
 unfold XX bG aBN M6
 simp only
 cases lk bl none id with
 | none=>rfl
 | some b =>
  cases b with
  | rows v e size rows=>simp only; split <;> rfl
  | _=>rfl
theorem aAk (v e s:Nat) (rows:List (List D)) (g:D->Option β):aBN v (some (.rows v e s rows)) g = g (.own (.ref 0) [(e,s)] [rows]):=if_pos rfl
def F6 (fr:List (Nat × V)) (bl:List (Nat × Option aI)) (t:Nat):Nat->List bM->(List D->List (Nat × Option aI)->Option β)->Option β
 | _,[],g=>g [] []
 | i,x :: l,g=>bV fr x fun v=>if i = t then XX v bl fun y=>F6 fr bl t (i + 1) l fun ds f=>g (y :: ds) f else BD v bl fun y f=>F6 fr bl t (i + 1) l fun ds f'=>g (y :: ds) (f ++ f')
theorem aFz (t i:Nat) (g:List D->List (Nat × Option aI)->Option β):F6 fr bl t i [] g = g [] []:=rfl
theorem aHq (t i:Nat) (x:bM) (l:List bM) (g:List D->List (Nat × Option aI)->Option β) (h:(i == t) = true):F6 fr bl t i (x :: l) g = bV fr x fun v=>XX v bl fun y=>F6 fr bl t (i + 1) l fun ds f=>g (y :: ds) f:=by
 have:i = t:=by simpa using h
 simp only [F6,if_pos this]
theorem aA3 (t i:Nat) (x:bM) (l:List bM) (g:List D->List (Nat × Option aI)->Option β) (h:(i == t) = false):F6 fr bl t i (x :: l) g = bV fr x fun v=>BD v bl fun y f=>F6 fr bl t (i + 1) l fun ds f'=>g (y :: ds) (f ++ f'):=by
 have:¬ i = t:=by simpa using h
 simp only [F6,if_neg this]
theorem RN (t:Nat):∀ (l:List bM) (i:Nat) (g:List D->List (Nat × Option aI)->Option β),F6 fr bl t i l g = (D0 (lk bl none) t i (l.map (bL (lk fr .any)))).bind fun ds=>g ds (tH (lk bl none) t i (l.map (bL (lk fr .any))))
 | [],i,g=>rfl
 | x :: l,i,g=>by
  simp only [F6,List.map_cons,D0,tH,bV]
  by_cases h:i = t
  ·simp only [if_pos h,XX,RN t l (i + 1)]
   cases M6 (lk bl none) (bL (lk fr .any) x) with
   | none=>rfl
   | some y =>
    cases D0 (lk bl none) t (i + 1) (l.map (bL (lk fr .any))) with
    | none=>rfl
    | some ds=>simp
  ·simp only [if_neg h,BD,RN t l (i + 1)]
   cases iY (lk bl none) (bL (lk fr .any) x) with
   | none=>rfl
   | some y=>cases D0 (lk bl none) t (i + 1) (l.map (bL (lk fr .any))) <;> rfl
noncomputable def OW (T:wE) (bl:List (Nat × Option aI)) (f id ver:Nat) (ds:List D) (kw:V->List (Nat × Option aI)->Option β):Option β:=match call T f ds with
 | some (.own y [(e,size)] [rows'])=>match lk bl none id with
  | some (.rows v e' size' _)=>if ver = v ∧ e = e' ∧ size = size' ∧ IA y = true ∧ pE rows' = true then kw (toV y) [(id,some (.rows v e size rows'))] else none
  | _=>none
 | _=>none
theorem aI7 (f:Nat) (args:List bM) (t:Nat):rN T d (.lend f args t) fr bl k kw = aFP args t fun x=>bV fr x fun v=>V9 v fun id ver=>F6 fr bl t 0 args fun ds fz=>fzN id fz (OW T bl f id ver ds kw):=by
 rw [jB,aDJ]
 simp only [cJ,List.getElem?_map]
 cases args[t]? with
 | none=>rfl
 | some x =>
  simp only [Option.map_some,Option.bind_some,bV]
  generalize bL (lk fr .any) x = v
  cases v with
  | own id ver =>
   simp only [V9,RN]
   cases D0 (lk bl none) t 0 (args.map (bL (lk fr .any))) with
   | none=>rfl
   | some ds =>
    simp only [Option.bind_some,fzN]
    split
    ·unfold OW
     generalize call T f ds = r
     generalize lk bl none id = b
     split
     ·split
      ·split
       ·rename_i hq
        exact (if_pos hq).symm
       ·rename_i hq
        exact (if_neg hq).symm
      ·rename_i hq
       cases b with
       | none=>rfl
       | some b=>cases b <;> first | rfl | exact absurd rfl (hq _ _ _ _)
     ·rename_i hq
      split
      ·exact absurd rfl (hq _ _ _ _)
      ·rfl
    ·rfl
  | _=>rfl
def KH (ver e size:Nat) (rows' : List (List D)) (b:Option aI) (g:Option aI->Option β):Option β:=match b with
 | some (.rows v e' s' _)=>if ver = v ∧ e = e' ∧ size = s' then g (some (.rows v e size rows')) else none
 | _=>none
theorem XN (v e s:Nat) (rows rows' : List (List D)) (g:Option aI->Option β):KH v e s rows' (some (.rows v e s rows)) g = g (some (.rows v e s rows')):=if_pos ⟨rfl,rfl,rfl⟩
theorem JH {α:Type} {f e size:Nat} {ds:List D} {o:Option α} {y:α->D} {r:α->List (List D)} (h:call T f ds = o.map fun x=>.own (y x) [(e,size)] [r x]) (hy:∀ x,IA (y x) = true) (hr:∀ x,pE (r x) = true) (id ver:Nat) :
  OW T bl f id ver ds kw = o.bind fun x=>bG bl id fun b=>KH ver e size (r x) b fun b'=>kw (toV (y x)) [(id,b')]:=by
 unfold OW
 rw [h]
 cases o with
 | none=>rfl
 | some x =>
  simp only [Option.map_some,Option.bind_some,bG,KH,hy x,hr x,and_true]
theorem pL {α:Type} (c:α->List D) (hc:∀ x,(c x).all GG = true) (xs:List α):pE (cM c xs) = true:=by
 unfold pE cM
 rw [List.all_eq_true]
 intro row hr
 obtain ⟨x,_,rfl⟩:=List.mem_map.1 hr
 exact hc x
def aNj (res:List j5) (t:Nat):Ex->St->Option D
 | .normal,s=>yF ⟨0,0,res,.skip,true,true⟩ s t
 | .ret,s=>yF ⟨0,0,res,.skip,true,true⟩ s t
 | .exit _,_=>none
def aAt (ver:Nat) (b:Option aI) (g:Nat->Nat->List (List D)->Option D):Option D:=match b with
 | some (.rows v e size rows)=>if ver = v then g e size rows else none
 | _=>none
theorem aCU (v e s:Nat) (rows:List (List D)) (g:Nat->Nat->List (List D)->Option D):aAt v (some (.rows v e s rows)) g = g e s rows:=if_pos rfl
def OB (e s:Nat) (rows:List (List D)) (y:D):Option D:=if IA y = true then some (.own y [(e,s)] [rows]) else none
theorem aJA (e s:Nat) (rows:List (List D)):OB e s rows (.tup []) = some (.own (.tup []) [(e,s)] [rows]):=rfl
theorem aI1 (e s:Nat) (rows:List (List D)) (k:IntKind) (n:Int):OB e s rows (.int k n) = some (.own (.int k n) [(e,s)] [rows]):=rfl
theorem aIq (e s:Nat) (rows:List (List D)) (b:Bool):OB e s rows (.bool b) = some (.own (.bool b) [(e,s)] [rows]):=rfl
theorem aEe (res:List j5) (t:Nat):yF ⟨0,0,res,.skip,true,true⟩ ⟨fr,bl⟩ t = iQ fr t fun v=>V9 v fun id ver=>bG bl id fun b=>aAt ver b fun e s rows=>(JP fr bl res M4).bind (OB e s rows):=by
 unfold yF iQ
 rw [CR]
 cases lk fr .any t with
 | own id ver =>
  simp only [V9,bG,aAt]
  rw [CJ]
  cases lk bl none id with
  | none=>rfl
  | some b =>
   cases b with
   | rows v e size rows =>
    simp only
    split
    ·rw [← V8]
     cases aK (tJ ⟨fr,bl⟩) res with
     | none=>rfl
     | some us =>
      cases us with
      | nil=>rfl
      | cons u us=>cases us with
       | nil=>simp only [CJ]; cases iY (lk bl none) u <;> rfl
       | cons w us=>simp only [CJ]; cases toD (lk bl none) (.tup (u :: w :: us)) <;> rfl
    ·rfl
   | _=>rfl
 | _=>rfl
theorem aRU (res:List j5) (t:Nat):aNj res t .normal ⟨fr,bl⟩ = iQ fr t fun v=>V9 v fun id ver=>bG bl id fun b=>aAt ver b fun e s rows=>(JP fr bl res M4).bind (OB e s rows):=aEe res t
theorem aRo (res:List j5) (t:Nat):aNj res t .ret ⟨fr,bl⟩ = iQ fr t fun v=>V9 v fun id ver=>bG bl id fun b=>aAt ver b fun e s rows=>(JP fr bl res M4).bind (OB e s rows):=aEe res t
theorem aRW (res:List j5) (t i:Nat) (s:St):aNj res t (.exit i) s = none:=rfl
theorem aN5:M4 [] = some (.tup []):=rfl
theorem SK {T:wE} {f np nt t:Nat} {res:List j5} {body:aG} {fs:Bool} (hf:T f = some (.code ⟨np,nt,res,body,fs,true⟩)) (ds:List D) (hl:ds.length = np) (hlt:jH 0 ds = some t) (hnd:zZ t body = true):Vm.call T f ds = b6 T body (BK t ds) (aNj res t):=by
 rw [aGC hf ds hl hlt rfl hnd]
 unfold b6
 cases Vm.ev T body (BK t ds) with
 | none=>rfl
 | some q =>
  obtain ⟨e,s⟩:=q
  cases e <;> rfl
end
section
variable {β:Type} {T:wE}
end
section
variable {β:Type} {T:wE} {fr:List (Nat × V)} {bl:List (Nat × Option aI)}
def BL (fr:List (Nat × V)):List Nat->(List V->Option β)->Option β
 | [],k=>k []
 | t :: l,k=>iQ fr t fun v=>BL fr l fun vs=>k (v :: vs)
theorem N8 (l:List Nat) (k:List V->Option β):BL fr l k = k (l.map (lk fr .any)):=by
 induction l generalizing k with
 | nil=>rfl
 | cons x l ih=>simp only [BL,iQ,ih,List.map_cons]
theorem aB5 (k:List V->Option β):BL fr [] k = k []:=rfl
theorem YL (t:Nat) (l:List Nat) (k:List V->Option β):BL fr (t :: l) k = iQ fr t fun v=>BL fr l fun vs=>k (v :: vs):=rfl
def aTL (args:List bM) (id:Nat) (slots:List Nat) (fr:List (Nat × V)) (bl:List (Nat × Option aI)) (k:List (Nat × V)->List (Nat × Option aI)->Option β):Option β :=
 bG bl id fun b=>gC b (BL fr slots fun cs=>GE fr args fun vs=>k (nO 0 vs) ((id,some (.outer cs)) :: bl))
def inK (args:List bM) (id:Nat) (slots:List Nat) (s:St) (k:List (Nat × V)->List (Nat × Option aI)->Option β):Option β:=aTL args id slots s.fr s.bl k
theorem aSr (args:List bM) (id:Nat) (slots:List Nat) (k:List (Nat × V)->List (Nat × Option aI)->Option β):inK args id slots ⟨fr,bl⟩ k = bG bl id fun b=>gC b (BL fr slots fun cs=>GE fr args fun vs=>k (nO 0 vs) ((id,some (.outer cs)) :: bl)):=rfl
theorem aGr (i:Nat):nO i [] = []:=rfl
theorem aDt (i:Nat) (v:V) (l:List V):nO i (v :: l) = (i,v) :: nO (i + 1) l:=rfl
theorem aN4 (args:List bM) (id:Nat) (slots:List Nat) (k:St->Option β):(UM args id slots ⟨fr,bl⟩).bind k = inK args id slots ⟨fr,bl⟩ fun fr' bl'=>k ⟨fr',bl'⟩:=by
 unfold UM inK aTL bG gC
 rw [NH]
 cases hb:lk bl none id with
 | some b=>rfl
 | none =>
  simp only [Option.isNone_none,if_true,Option.bind_some,N8,MU]
  rfl
def PQ (fr:List (Nat × V)) (bl:List (Nat × Option aI)):List j5->(List V->Option β)->Option β
 | [],k=>k []
 | .tmp t :: r,k=>iQ fr t fun v=>PQ fr bl r fun l=>k (v :: l)
 | .cell t size isAgg :: r,k=>iQ fr t fun p=>yV size isAgg p bl fun v=>PQ fr bl r fun l=>k (v :: l)
theorem aM5 (res:List j5):∀ (k:List V->Option β),PQ fr bl res k = (aK (tJ ⟨fr,bl⟩) res).bind k:=by
 induction res with
 | nil=>intro k; rfl
 | cons r res ih =>
  intro k
  cases r with
  | tmp t =>
   simp only [PQ,iQ,ih,aK,tJ,CR]
   cases aK (tJ ⟨fr,bl⟩) res <;> rfl
  | cell t size isAgg =>
   simp only [PQ,iQ,RG,ih,aK,tJ,H8,CR,CJ]
   cases MJ size isAgg (lk fr .any t) (lk bl none) with
   | none=>rfl
   | some q =>
    obtain ⟨v,wr⟩:=q
    simp only [Option.bind_some]
    cases aK (tJ ⟨fr,bl⟩) res <;> rfl
theorem aKI (k:List V->Option β):PQ fr bl [] k = k []:=rfl
theorem aRa (t:Nat) (r:List j5) (k:List V->Option β):PQ fr bl (.tmp t :: r) k = iQ fr t fun v=>PQ fr bl r fun l=>k (v :: l):=rfl
theorem aRZ (t size:Nat) (isAgg:Bool) (r:List j5) (k:List V->Option β):PQ fr bl (.cell t size isAgg :: r) k = iQ fr t fun p=>yV size isAgg p bl fun v=>PQ fr bl r fun l=>k (v :: l):=rfl
def UI (dst:Option Nat) (slots:List Nat) (cs vs:List V) (k:List (Nat × V)->Option β):Option β :=
 match vs with
 | [v]=>k (OI dst v ++ slots.zip cs)
 | vs=>if vs.all V.noTup = true then k (OI dst (.tup vs) ++ slots.zip cs) else none
theorem aGD (dst:Option Nat) (slots:List Nat) (cs:List V) (v:V) (k:List (Nat × V)->Option β):UI dst slots cs [v] k = k (OI dst v ++ slots.zip cs):=rfl
theorem aHk (dst:Option Nat) (slots:List Nat) (cs:List V) (k:List (Nat × V)->Option β):UI dst slots cs [] k = k (OI dst (.tup []) ++ slots.zip cs):=rfl
theorem R6 (dst:Option Nat) (slots:List Nat) (cs:List V) (v u:V) (l:List V) (k:List (Nat × V)->Option β):UI dst slots cs (v :: u :: l) k = if (v :: u :: l).all V.noTup = true then k (OI dst (.tup (v :: u :: l)) ++ slots.zip cs) else none:=rfl
theorem aFY (d:Nat) (v:V) (l:List (Nat × V)):OI (some d) v ++ l = (d,v) :: l:=rfl
theorem aHe (v:V) (l:List (Nat × V)):OI none v ++ l = l:=rfl
theorem aJR:([]:List Nat).zip ([]:List V) = []:=rfl
theorem aFE (t:Nat) (v:V) (l:List Nat) (r:List V):(t :: l).zip (v :: r) = (t,v) :: l.zip r:=rfl
def ID (b:Option aI) (k:List V->Option β):Option β:=match b with
 | some (.outer cs)=>k cs
 | _=>none
theorem aJn (cs:List V) (k:List V->Option β):ID (some (.outer cs)) k = k cs:=rfl
def aIP (dst:Option Nat) (res:List j5) (id:Nat) (slots:List Nat) (fr:List (Nat × V)) (bl:List (Nat × Option aI)) (k:List (Nat × V)->List (Nat × Option aI)->Option β):Option β :=
 bG bl id fun b=>ID b fun cs=>PQ fr bl res fun vs=>UI dst slots cs vs fun fr'=>k fr' ((id,none) :: bl)
theorem aMU (dst:Option Nat) (res:List j5) (id:Nat) (slots:List Nat) (k:List (Nat × V)->List (Nat × Option aI)->Option β):aIP dst res id slots fr bl k = bG bl id fun b=>ID b fun cs=>PQ fr bl res fun vs=>UI dst slots cs vs fun fr'=>k fr' ((id,none) :: bl):=rfl
theorem Y2 (dst:Option Nat) (res:List j5) (id:Nat) (slots:List Nat) (k:St->Option β):(lG dst res id slots ⟨fr,bl⟩).bind k = aIP dst res id slots fr bl fun fr' bl'=>k ⟨fr',bl'⟩:=by
 unfold lG aIP bG
 rw [NH]
 cases hb:lk bl none id with
 | none=>cases aK (tJ ⟨fr,bl⟩) res <;> rfl
 | some b =>
  cases b with
  | outer cs =>
   simp only [ID,aM5]
   cases aK (tJ ⟨fr,bl⟩) res with
   | none=>rfl
   | some vs =>
    simp only [Option.bind_some]
    cases vs with
    | nil=>rfl
    | cons v vs=>cases vs with
     | nil=>rfl
     | cons u vs =>
      rw [R6]
      show (if (v :: u :: vs).all V.noTup = true then some _ else none).bind k = _
      split <;> rfl
  | _=>cases aK (tJ ⟨fr,bl⟩) res <;> rfl
def Q0 (dst:Option Nat) (res:List j5) (id:Nat) (slots:List Nat) (k:Ex->St->Option β):Ex->St->Option β
 | .normal,s=>(lG dst res id slots s).bind fun s4=>k .normal s4
 | .ret,s=>(lG dst res id slots s).bind fun s4=>k .normal s4
 | .exit _,_=>none
theorem aKT (dst:Option Nat) (res:List j5) (id:Nat) (slots:List Nat) (k:Ex->St->Option β):Q0 dst res id slots k .normal ⟨fr,bl⟩ = aIP dst res id slots fr bl fun fr' bl'=>k .normal ⟨fr',bl'⟩:=Y2 dst res id slots _
theorem aI5 (dst:Option Nat) (res:List j5) (id:Nat) (slots:List Nat) (k:Ex->St->Option β):Q0 dst res id slots k .ret ⟨fr,bl⟩ = aIP dst res id slots fr bl fun fr' bl'=>k .normal ⟨fr',bl'⟩:=Y2 dst res id slots _
theorem aMD {k:Ex->St->Option β} (ops:List aO) (args:List bM) (dst:Option Nat) (f:Nat) (body:aG) (res:List j5) (id:Nat) (slots:List Nat) :
  b6 T (.inl ops args dst f body res id slots) ⟨fr,bl⟩ k = tP T ops ⟨fr,bl⟩ fun s1=>inK args id slots s1 fun fr' bl'=>b6 T body ⟨fr',bl'⟩ (Q0 dst res id slots k):=by
 rw [aMx]
 congr 1
 funext s1
 refine Eq.trans ?_ (aN4 (fr:=s1.fr) (bl:=s1.bl) args id slots fun s=>b6 T body s (Q0 dst res id slots k))
 congr 1
 funext s2
 congr 1
 funext ex s3
 cases ex <;> rfl
def K5 (keep:List Nat) (bl:List (Nat × Option aI)):List V->(List V->Option β)->Option β
 | [],k=>k []
 | v :: cs,k=>pI keep bl v fun v'=>K5 keep bl cs fun l=>k (v' :: l)
theorem aHR (keep:List Nat) (cs:List V):∀ (k:List V->Option β),K5 keep bl cs k = k (cs.map (F3 keep (lk bl none))):=by
 induction cs with
 | nil=>intro k; rfl
 | cons v cs ih=>intro k; simp only [K5,pI,ih,List.map_cons]
theorem aDw (keep:List Nat) (k:List V->Option β):K5 keep bl [] k = k []:=rfl
theorem ZU (keep:List Nat) (v:V) (cs:List V) (k:List V->Option β):K5 keep bl (v :: cs) k = pI keep bl v fun v'=>K5 keep bl cs fun l=>k (v' :: l):=rfl
theorem W2 (keep:List Nat) (cs:List V) (k:Option aI->Option β):xN keep bl (some (.outer cs)) k = K5 keep bl cs fun l=>k (some (.outer l)):=by rw [aHR]; rfl
end
section
variable {β:Type} {T:wE} {d:Nat} {fr:List (Nat × V)} {bl:List (Nat × Option aI)} {k:V->Option β} {kw:V->List (Nat × Option aI)->Option β}
noncomputable def xU (T:wE) (d:Nat) (bl:List (Nat × Option aI)) (f:Nat) (ds:List D) (k:V->Option β) (kw:V->List (Nat × Option aI)->Option β):Option β:=match call T f ds with
 | some (.own x es rs)=>if JE x rs = true then EE (oB d (lk bl none) [] (.own x es rs)) k kw else none
 | _=>none
theorem aEL (f:Nat) (args:List bM):rN T d (.calln f args) fr bl k kw = OU fr bl args fun ds _=>xU T d bl f ds k kw:=by
 rw [jB,YR]
 simp only [cJ]
 cases aK (fun x=>iY (lk bl none) (bL (lk fr .any) x)) args with
 | none=>rfl
 | some ds =>
  simp only [Option.bind_some,xU]
  cases call T f ds with
  | none=>rfl
  | some y =>
   cases y with
   | own x es rs=>simp only; split <;> rfl
   | _=>rfl
theorem aHT (f:Nat) (args:List bM) (k:List Nat->Option β):GC d (.calln f args) fr bl k = C1 fr bl args k:=by
 rw [I4]; rfl
theorem pQ {x:D} {rs:List (List (List D))} (h1:aEn x = true) (h2:rs.all pE = true):JE x rs = true:=by simp only [JE,h1,h2,Bool.and_self]
theorem wJ {r:List (List D)} {rs:List (List (List D))} (h1:pE r = true) (h2:rs.all pE = true):(r :: rs).all pE = true:=by simp only [List.all_cons,h1,h2,Bool.and_self]
theorem sK {α:Type} {f:Nat} {ds:List D} {o:Option α} {y:α->D} {p:Nat × Nat} {es:List (Nat × Nat)} {r:α->List (List D)} {rs:α->List (List (List D))} (h:call T f ds = o.map fun x=>.own (y x) (p :: es) (r x :: rs x)) (hn:∀ x,JE (y x) (r x :: rs x) = true) :
  xU T d bl f ds k kw = o.bind fun x=>aAv bl (fV d 0 (p :: es) (r x :: rs x)) (kw (thaw d (y x)) (fV d 0 (p :: es) (r x :: rs x))):=by
 unfold xU
 rw [h]
 cases o with
 | none=>rfl
 | some x =>
  simp only [Option.map_some,Option.bind_some,oB,SQ,hn x,if_true,List.append_nil]
  split
  ·obtain ⟨e,s⟩:=p; rfl
  ·rfl
end
end Vm
end Go.Proofs.Ytgjcnbgfaimepaa
namespace Go.Proofs.Ytgjcnbgfaimepaa
namespace Vm
open Go.RowKit
section
variable {β:Type} {T:wE} {d:Nat} {fr:List (Nat × V)} {bl:List (Nat × Option aI)} {k:V->Option β} {kw:V->List (Nat × Option aI)->Option β}
def U2 (b:Option aI) (x:Option β):Option β:=match b with
 | some (.box _)=>x
 | some (.fbox _)=>x
 | _=>none
theorem aFx (cs:List V) (x:Option β):U2 (some (.box cs)) x = x:=rfl
theorem aC3 (cs:List D) (x:Option β):U2 (some (.fbox cs)) x = x:=rfl
def aR9:Option aI->Bool
 | some (.box _)=>true
 | some (.fbox _)=>true
 | _=>false
theorem aH4 (b:Option aI) (x:Option β):U2 b x = if aR9 b = true then x else none:=by
 cases b with
 | none=>rfl
 | some b=>cases b <;> rfl
def aKW (v:V) (bl:List (Nat × Option aI)) (k:V->Option β):Option β:=match v with
 | .ptr id off=>bG bl id fun b=>U2 b (k (.ptr id off))
 | _=>none
theorem aJO (id off:Nat):aKW (.ptr id off) bl k = bG bl id fun b=>U2 b (k (.ptr id off)):=rfl
def KM (fr:List (Nat × V)) (bl:List (Nat × Option aI)):List bM->(List V->Option β)->Option β
 | [],k=>k []
 | x :: l,k=>bV fr x fun v=>aKW v bl fun u=>KM fr bl l fun us=>k (u :: us)
theorem aBI (k:List V->Option β):KM fr bl [] k = k []:=rfl
theorem O9 (x:bM) (l:List bM) (k:List V->Option β):KM fr bl (x :: l) k = bV fr x fun v=>aKW v bl fun u=>KM fr bl l fun us=>k (u :: us):=rfl
theorem aNI (v:V):aKW v bl k = if NM (lk bl none) v = true then k v else none:=by
 cases v with
 | ptr id off =>
  show U2 (lk bl none id) (k (.ptr id off)) = if NM (lk bl none) (.ptr id off) = true then _ else _
  have:NM (lk bl none) (.ptr id off) = aR9 (lk bl none id):=by
   show (match lk bl none id with | some (.box _)=>true | some (.fbox _)=>true | _=>false) = aR9 (lk bl none id)
   cases lk bl none id with
   | none=>rfl
   | some b=>cases b <;> rfl
  rw [this]
  exact aH4 _ _
 | _=>rfl
theorem aFm (l:List bM):∀ (k:List V->Option β),KM fr bl l k = if (l.map (bL (lk fr .any))).all (NM (lk bl none)) = true then k (l.map (bL (lk fr .any))) else none:=by
 induction l with
 | nil=>intro k; rfl
 | cons x l ih =>
  intro k
  rw [O9]
  unfold bV
  show aKW (bL (lk fr .any) x) bl (fun u=>KM fr bl l fun us=>k (u :: us)) = _
  rw [aNI,List.map_cons,List.all_cons]
  cases NM (lk bl none) (bL (lk fr .any) x) with
  | false=>rfl
  | true =>
   rw [if_pos rfl,ih,Bool.true_and]
theorem aG5 (f:Nat) (caps:List bM):rN T d (.mkfnv f caps) fr bl k kw = KM fr bl caps fun vs=>k (.fn f vs):=by
 rw [aFm]
 unfold rN
 simp only [cJ]
 split
 ·rename_i h
  split at h
  ·cases h
  ·rename_i hc; rw [if_neg hc]
 ·rename_i v h
  split at h
  ·rename_i hc
   cases h
   rw [if_pos hc]
  ·cases h
 ·rename_i v p wr h
  split at h
  ·cases h
  ·cases h
theorem aE0 (f:Nat) (vs:List V) (k:List V->Option β):uX (.fn f vs) k = k [.fn f vs]:=rfl
def aDu (keep:List Nat) (id:Nat) (b:Option aI) (x y:Option β):Option β:=match b with
 | some (.box _)=>fP keep id x y
 | _=>y
theorem aMk (keep:List Nat) (id:Nat) (cs:List V) (x y:Option β):aDu keep id (some (.box cs)) x y = fP keep id x y:=rfl
theorem aE8 (keep:List Nat) (id:Nat) (cs:List D) (x y:Option β):aDu keep id (some (.fbox cs)) x y = y:=rfl
theorem aFX (keep:List Nat) (id:Nat) (x y:Option β):aDu keep id none x y = y:=rfl
def aOZ (keep:List Nat) (id:Nat):Option aI->Bool
 | some (.box _)=>keep.contains id
 | _=>false
theorem aMM (keep:List Nat) (id:Nat) (b:Option aI) (x y:Option β):aDu keep id b x y = if aOZ keep id b = true then x else y:=by
 cases b with
 | none=>rfl
 | some b=>cases b <;> rfl
def fnK (keep:List Nat) (bl:List (Nat × Option aI)):List V->Option β->Option β->Option β
 | [],x,_=>x
 | .ptr id _ :: l,x,y=>bG bl id fun b=>aDu keep id b (fnK keep bl l x y) y
 | _ :: _,_,y=>y
theorem aOK (keep:List Nat) (x y:Option β):fnK keep bl [] x y = x:=rfl
theorem aEl (keep:List Nat) (id off:Nat) (l:List V) (x y:Option β):fnK keep bl (.ptr id off :: l) x y = bG bl id fun b=>aDu keep id b (fnK keep bl l x y) y:=rfl
theorem aKz (keep:List Nat) (x y:Option β):∀ l:List V,fnK keep bl l x y = if l.all (aDK keep (lk bl none)) = true then x else y
 | []=>rfl
 | v :: l=>by
  rw [List.all_cons]
  cases v with
  | ptr id off =>
   rw [aEl]
   show aDu keep id (lk bl none id) (fnK keep bl l x y) y = _
   have:aDK keep (lk bl none) (.ptr id off) = aOZ keep id (lk bl none id):=by
    show (match lk bl none id with | some (.box _)=>keep.contains id | _=>false) = aOZ keep id (lk bl none id)
    cases lk bl none id with
    | none=>rfl
    | some b=>cases b <;> rfl
   rw [aMM,aKz keep x y l,this]
   cases aOZ keep id (lk bl none id) <;> rfl
  | _=>rfl
theorem aJ3 (keep:List Nat) (f:Nat) (vs:List V):pI keep bl (.fn f vs) k = fnK keep bl vs (k (.fn f vs)) (k .any):=by
 rw [aKz]
 unfold pI
 simp only [F3,PL,sR]
 split <;> rfl
theorem aFR (keep:List Nat) (f:Nat) (vs cs:List V) (k:List V->Option β):rD keep bl (.fn f vs :: cs) k = pI keep bl (.fn f vs) fun v=>rD keep bl cs fun l=>k (v :: l):=by simp only [sP]; rfl
def SG (f nc:Nat) (v:V) (k:List V->Option β):Option β:=(FU f nc v).bind k
theorem aHP (f nc g:Nat) (vs:List V) (k:List V->Option β):SG f nc (.fn g vs) k = if g = f ∧ vs.length = nc then k vs else none:=by
 unfold SG FU
 simp only
 split <;> rfl
def aSH (x:bM) (nc f:Nat) (args:List bM) (id:Nat) (slots:List Nat) (fr:List (Nat × V)) (bl:List (Nat × Option aI)) (k:List (Nat × V)->List (Nat × Option aI)->Option β):Option β :=
 bV fr x fun v=>SG f nc v fun caps=>bG bl id fun b=>gC b (BL fr slots fun cs=>GE fr args fun vs=>k (nO 0 (vs ++ caps)) ((id,some (.outer cs)) :: bl))
def aSI (x:bM) (nc f:Nat) (args:List bM) (id:Nat) (slots:List Nat) (s:St) (k:List (Nat × V)->List (Nat × Option aI)->Option β):Option β:=aSH x nc f args id slots s.fr s.bl k
theorem aD7 (x:bM) (nc f:Nat) (args:List bM) (id:Nat) (slots:List Nat) (k:List (Nat × V)->List (Nat × Option aI)->Option β):aSI x nc f args id slots ⟨fr,bl⟩ k = bV fr x fun v=>SG f nc v fun caps=>bG bl id fun b=>gC b (BL fr slots fun cs=>GE fr args fun vs=>k (nO 0 (vs ++ caps)) ((id,some (.outer cs)) :: bl)):=rfl
theorem aL8 {k:Ex->St->Option β} (ops:List aO) (x:bM) (nc:Nat) (args:List bM) (dst:Option Nat) (f:Nat) (body:aG) (res:List j5) (id:Nat) (slots:List Nat) (s:St) :
  b6 T (.inlv ops x nc args dst f body res id slots) s k = tP T ops s fun s1=>(FU f nc (bL s1.get x)).bind fun caps=>(CO (args.map (bL s1.get) ++ caps) id slots s1).bind fun s2=>b6 T body s2 fun ex s3=>match ex with
   | .exit _=>none
   | _=>(lG dst res id slots s3).bind fun s4=>k .normal s4:=by
 unfold b6 tP
 rw [aPR]
 cases iP (call T) ops s with
 | none=>rfl
 | some s1 =>
  simp only [Option.bind_some]
  cases FU f nc (bL s1.get x) with
  | none=>rfl
  | some caps =>
   simp only [Option.bind_some]
   cases CO (args.map (bL s1.get) ++ caps) id slots s1 with
   | none=>rfl
   | some s2 =>
    simp only [Option.bind_some]
    cases ev T body s2 with
    | none=>rfl
    | some q =>
     obtain ⟨e,s3⟩:=q
     cases e with
     | normal=>simp only [Option.bind_some]; cases lG dst res id slots s3 <;> rfl
     | exit i=>rfl
     | ret=>simp only [Option.bind_some]; cases lG dst res id slots s3 <;> rfl
theorem aJZ {k:Ex->St->Option β} (ops:List aO) (x:bM) (nc:Nat) (args:List bM) (dst:Option Nat) (f:Nat) (body:aG) (res:List j5) (id:Nat) (slots:List Nat) :
  b6 T (.inlv ops x nc args dst f body res id slots) ⟨fr,bl⟩ k = tP T ops ⟨fr,bl⟩ fun s1=>aSI x nc f args id slots s1 fun fr' bl'=>b6 T body ⟨fr',bl'⟩ (Q0 dst res id slots k):=by
 rw [aL8]
 congr 1
 funext s1
 obtain ⟨fr1,bl1⟩:=s1
 rw [aD7]
 unfold bV SG
 show (FU f nc (bL (lk fr1 .any) x)).bind _ = (FU f nc (bL (lk fr1 .any) x)).bind _
 congr 1
 funext caps
 unfold CO bG gC
 rw [NH]
 cases hb:lk bl1 none id with
 | some b=>rfl
 | none =>
  simp only [Option.isNone_none,if_true,Option.bind_some,N8,MU]
  congr 1
  funext ex s3
  cases ex <;> rfl
theorem aPi (f:Nat) (vs:List V) (k:List Nat->Option β):IL (.fn f vs) k = k []:=rfl
theorem aIX (f:Nat) (vs:List V) (k:List Nat->Option β):yG bl (.fn f vs) k = k []:=rfl
theorem aGt (f:Nat) (vs cs:List V) (k:List Nat->Option β):rU bl (.fn f vs :: cs) k = rU bl cs k:=by simp only [vQ]; rfl
theorem aGU (f:Nat) (vs cs:List V) (k:List Nat->Option β):sE (.fn f vs :: cs) k = sE cs k:=by simp only [vT]; rfl
end
end Vm
end Go.Proofs.Ytgjcnbgfaimepaa
namespace Go.Proofs.Ytgjcnbgfaimepaa
namespace Vm
open Go.RowKit Vm
def MY (rows:List (List D)):Bool:=rows.all fun row=>row.all D.atom
def VX (E size bytes:Nat):List D->Option D
 | [.sl rows]=>if sized size rows = true ∧ MY rows = true ∧ rows.length * bytes <= 140737488355328 then some (.own (.ref 0) [(E,size)] [rows]) else none
 | _=>none
theorem aJy {α:Type} (c:α->List D) (xs:List α) (h:∀ x,(c x).all D.atom = true):MY (cM c xs) = true:=by
 unfold MY cM
 rw [List.all_eq_true]
 intro row hr
 obtain ⟨x,_,rfl⟩:=List.mem_map.1 hr
 exact h x
end Vm
end Go.Proofs.Ytgjcnbgfaimepaa
