/- The small machine, read from the front: slices that are laid out, calls, masks, answers. The small machine, read from the front: regions whose order is drawn. The small machine, read from the front: slices that are lent, cut, cleared. The small machine, read from the front: function values that hold boxes. -/
import Derived.Test.YtjjcaapdaldedaaVmE
set_option linter.unusedVariables false
set_option linter.unusedSimpArgs false
namespace Go.Proofs.Ytjjcaapdaldedaa
theorem zA.{u} {α:Type u} {a:α} {l:List α}:(a::l).length = l.length + 1:=rfl
theorem zB.{u} {α:Type u}:([]:List α).length = 0:=rfl
theorem zC:(!true) = false:=rfl
theorem zD:(!false) = true:=rfl
theorem zE.{u} {α:Type u} {n:Nat} {a:α}:List.replicate (n + 1) a = a::List.replicate n a:=rfl
theorem zF.{u} {α:Type u} {a:α}:List.replicate 0 a = []:=rfl
theorem zG.{u,v} {α:Type u} {β:Type v} (a:α) (f:α->Option β):(some a).bind f = f a:=rfl
theorem zH.{u,v} {α:Type u} {β:Type v} (a:α) (f:α->β):(some a).map f = some (f a):=rfl
theorem zI.{u,v} {α:Type u} {β:Type v} (f:α->β):(none:Option α).map f = none:=rfl
theorem zJ.{u,v,w} {α:Type u} {β:Type v} {γ:Sort w} (f:α->γ) (g:β->γ) (x:α):Sum.elim f g (Sum.inl x) = f x:=rfl
theorem zK.{u,v,w} {α:Type u} {β:Type v} {γ:Sort w} (f:α->γ) (g:β->γ) (x:β):Sum.elim f g (Sum.inr x) = g x:=rfl
theorem zL.{u,v,w} {α:Type u} {β:Type v} {γ:Type w} (x:Option α) (f:α->Option β) (g:β->Option γ):(x.bind f).bind g = x.bind fun y=>(f y).bind g:=Option.bind_assoc x f g
theorem zM.{u} {α:Type u} [BEq α] [ReflBEq α] (a:α):(a == a) = true:=beq_self_eq_true a
theorem zN:(¬False) = True:=not_false_eq_true
namespace Vm
open Go.RowKit
section
variable {β:Type} {T:xU} {d:Nat} {fr:List (Nat × V)} {bl:List (Nat × Option aR)} {k:V->Option β} {kw:V->List (Nat × Option aR)->Option β}
def wK (bl:List (Nat × Option aR)):List V->(List D->List (Nat × Option aR)->Option β)->Option β
 | [],k=>k [] []
 | v :: cs,k=>(jT (lk bl none) v).bind fun x=>wK bl cs fun ds f=>k (x :: ds) (xT (lk bl none) v ++ f)
theorem O7 (cs:List V) (k:List D->List (Nat × Option aR)->Option β):wK bl cs k = (cC (jT (lk bl none)) cs).bind fun ds=>k ds (cs.flatMap (xT (lk bl none))):=by
 induction cs generalizing k with
 | nil=>rfl
 | cons v cs ih =>
  simp only [wK,cC,ih,List.flatMap_cons]
  cases jT (lk bl none) v with
  | none=>rfl
  | some x=>cases cC (jT (lk bl none)) cs <;> rfl
def Y7 (v:V) (bl:List (Nat × Option aR)) (k:D->List (Nat × Option aR)->Option β):Option β:=(jT (lk bl none) v).bind fun x=>k x (xT (lk bl none) v)
theorem aHz (x:D) (k:D->List (Nat × Option aR)->Option β):Y7 (.d x) bl k = k x []:=rfl
def d1B (id ver:Nat) (b:Option aR) (k:D->List (Nat × Option aR)->Option β):Option β:=match b with
 | some (.rows v _ _ rows)=>if ver = v then k (.sl rows) [(id,some (.froz v rows))] else none
 | some (.froz v rows)=>if ver = v then k (.sl rows) [] else none
 | _=>none
theorem aCW (id ver:Nat) (k:D->List (Nat × Option aR)->Option β):Y7 (.own id ver) bl k = e8 bl id fun b=>d1B id ver b k:=by
 unfold Y7 e8 d1B
 simp only [jT,xT,pG,FB]
 generalize lk bl none id = b
 cases b with
 | none=>rfl
 | some b=>cases b with
  | rows v e s rows=>simp only; by_cases h:ver = v <;> simp [h]
  | froz v rows=>simp only; by_cases h:ver = v <;> simp [h]
  | _=>rfl
theorem aBI (id v e s:Nat) (rows:List (List D)) (k:D->List (Nat × Option aR)->Option β):d1B id v (some (.rows v e s rows)) k = k (.sl rows) [(id,some (.froz v rows))]:=if_pos rfl
def vM (bl:List (Nat × Option aR)):List V->(List D->List (Nat × Option aR)->Option β)->Option β
 | [],k=>k [] []
 | v :: cs,k=>(pG (lk bl none) v).bind fun x=>vM bl cs fun ds f=>k (x :: ds) (FB (lk bl none) v ++ f)
theorem YU (cs:List V) (k:List D->List (Nat × Option aR)->Option β):vM bl cs k = (cC (pG (lk bl none)) cs).bind fun ds=>k ds (cs.flatMap (FB (lk bl none))):=by
 induction cs generalizing k with
 | nil=>rfl
 | cons v cs ih =>
  simp only [vM,cC,ih,List.flatMap_cons]
  cases pG (lk bl none) v with
  | none=>rfl
  | some x=>cases cC (pG (lk bl none)) cs <;> rfl
theorem SI (k:List D->List (Nat × Option aR)->Option β):vM bl [] k = k [] []:=rfl
theorem aBp (x:D) (cs:List V) (k:List D->List (Nat × Option aR)->Option β):vM bl (.d x :: cs) k = vM bl cs fun ds f=>k (x :: ds) f:=rfl
theorem LU (ds:List D) (k:List D->List (Nat × Option aR)->Option β):vM bl (aD ds) k = k ds []:=by
 have:∀ (ds:List D) (k:List D->List (Nat × Option aR)->Option β),vM bl (aD ds) k = k ds []:=by
  intro ds
  induction ds with
  | nil=>intro k; rfl
  | cons x ds ih=>intro k; show vM bl (aD ds) _ = _; rw [ih]; rfl
 exact this ds k
def d1P (id off:Nat) (b:Option aR) (bl:List (Nat × Option aR)) (k:D->List (Nat × Option aR)->Option β):Option β:=match b with
 | some (.box cs)=>vM bl cs fun ds f=>k (.ptr ds off) ((id,some (.fbox ds)) :: f)
 | some (.fbox ds)=>k (.ptr ds off) []
 | _=>none
theorem aE0 (id off:Nat) (k:D->List (Nat × Option aR)->Option β):Y7 (.ptr id off) bl k = e8 bl id fun b=>d1P id off b bl k:=by
 unfold Y7 e8 d1P
 simp only [jT,xT]
 cases lk bl none id with
 | none=>rfl
 | some b=>cases b with
  | box cs =>
   simp only [YU]
   cases cC (pG (lk bl none)) cs <;> rfl
  | _=>rfl
theorem aCZ (id off:Nat) (c:V) (cs:List V) (k:D->List (Nat × Option aR)->Option β):d1P id off (some (.box (c :: cs))) bl k = vM bl (c :: cs) fun ds f=>k (.ptr ds off) ((id,some (.fbox ds)) :: f):=rfl
theorem TE (id off:Nat) (ds:List D) (k:D->List (Nat × Option aR)->Option β):d1P id off (some (.box (aD ds))) bl k = k (.ptr ds off) [(id,some (.fbox ds))]:=by
 show vM bl (aD ds) _ = _
 rw [LU]
theorem W1 (k:List D->List (Nat × Option aR)->Option β):wK bl [] k = k [] []:=rfl
theorem aDr (x:D) (cs:List V) (k:List D->List (Nat × Option aR)->Option β):wK bl (.d x :: cs) k = wK bl cs fun ds f=>k (x :: ds) f:=rfl
theorem aE9 (cs:List V) (k:List D->List (Nat × Option aR)->Option β):wK bl (.nil :: cs) k = wK bl cs fun ds f=>k (.sl [] :: ds) f:=rfl
theorem V4 (id ver:Nat) (cs:List V) (k:List D->List (Nat × Option aR)->Option β):wK bl (.own id ver :: cs) k = Y7 (.own id ver) bl fun x g=>wK bl cs fun ds f=>k (x :: ds) (g ++ f):=rfl
theorem FI (ds:List D) (k:List D->List (Nat × Option aR)->Option β):wK bl (aD ds) k = k ds []:=by
 have:∀ (ds:List D) (k:List D->List (Nat × Option aR)->Option β),wK bl (aD ds) k = k ds []:=by
  intro ds
  induction ds with
  | nil=>intro k; rfl
  | cons x ds ih=>intro k; show wK bl (aD ds) _ = _; rw [ih]; rfl
 exact this ds k
def B8 (v:V) (bl:List (Nat × Option aR)) (k:D->List (Nat × Option aR)->Option β):Option β:=(jM (lk bl none) v).bind fun x=>k x (sY (lk bl none) v)
theorem aGB (x:D) (k:D->List (Nat × Option aR)->Option β):B8 (.d x) bl k = k x []:=rfl
theorem aBQ (k:D->List (Nat × Option aR)->Option β):B8 .nil bl k = k (.sl []) []:=rfl
theorem aBY (id ver:Nat) (k:D->List (Nat × Option aR)->Option β):B8 (.own id ver) bl k = Y7 (.own id ver) bl k:=rfl
theorem QK (cs:List V) (k:D->List (Nat × Option aR)->Option β):B8 (.agg cs) bl k = wK bl cs fun ds f=>k (.agg ds) f:=by
 rw [O7]
 show ((cC (jT (lk bl none)) cs).map D.agg).bind _ = _
 cases cC (jT (lk bl none)) cs <;> rfl
theorem WP (ds:List D) (k:D->List (Nat × Option aR)->Option β):B8 (iS ds) bl k = k (.agg ds) []:=by
 show B8 (.agg (aD ds)) bl k = _
 rw [QK,FI]
theorem aGc (x:D) (k:List D->List (Nat × Option aR)->Option β):KE (.d x) bl k = k [x] []:=rfl
theorem PN (cs:List V) (k:List D->List (Nat × Option aR)->Option β):KE (.agg cs) bl k = wK bl cs k:=by
 rw [O7]
 show (match cC (jT (lk bl none)) cs with | some row=>k row (cs.flatMap (xT (lk bl none))) | none=>none) = _
 cases cC (jT (lk bl none)) cs <;> rfl
theorem XD (ds:List D) (k:List D->List (Nat × Option aR)->Option β):KE (iS ds) bl k = k ds []:=by
 show KE (.agg (aD ds)) bl k = _
 rw [PN,FI]
theorem aBo (id ver:Nat) (k:List D->List (Nat × Option aR)->Option β):KE (.own id ver) bl k = Y7 (.own id ver) bl fun x f=>k [x] f:=by
 unfold KE Y7
 show (match cC (jT (lk bl none)) [.own id ver] with | some row=>k row (xT (lk bl none) (.own id ver)) | none=>none) = _
 simp only [cC]
 cases jT (lk bl none) (.own id ver) <;> rfl
def P2 (rs:List (List D)) (i:Nat) (row:List D) (k:List (List D)->Option β):Option β:=if i < rs.length then k (rs.set i row) else none
theorem aGS (r:List D) (rs:List (List D)) (row:List D) (k:List (List D)->Option β):P2 (r :: rs) 0 row k = k (row :: rs):=by simp [P2]
theorem aGb (r:List D) (rs:List (List D)) (i:Nat) (row:List D) (k:List (List D)->Option β):P2 (r :: rs) (i + 1) row k = P2 rs i row fun l=>k (r :: l):=by
 unfold P2
 simp only [List.length_cons,List.set_cons_succ]
 by_cases h:i < rs.length
 ·rw [if_pos h,if_pos (by omega)]
 ·rw [if_neg h,if_neg (by omega)]
def bsF (fr:List (Nat × V)) (bl:List (Nat × Option aR)) (size:Nat) (rs:List (List D)):List (Nat × eG)->List (Nat × Option aR)->(List (List D)->List (Nat × Option aR)->Option β)->Option β
 | [],wr,k=>k rs wr
 | (i,x) :: r,wr,k=>fB fr x fun v=>KE v bl fun row f=>qE row size (P2 rs i row fun rs'=>bsF fr bl size rs' r (wr ++ f) k)
theorem aES (size:Nat) (rs:List (List D)) (wr:List (Nat × Option aR)) (k:List (List D)->List (Nat × Option aR)->Option β):bsF fr bl size rs [] wr k = k rs wr:=rfl
theorem aA7 (size:Nat) (rs:List (List D)) (i:Nat) (x:eG) (r:List (Nat × eG)) (wr:List (Nat × Option aR)) (k:List (List D)->List (Nat × Option aR)->Option β):bsF fr bl size rs ((i,x) :: r) wr k = fB fr x fun v=>KE v bl fun row f=>qE row size (P2 rs i row fun rs'=>bsF fr bl size rs' r (wr ++ f) k):=rfl
theorem aGm (size:Nat) (parts:List (Nat × eG)):∀ (rs:List (List D)) (wr:List (Nat × Option aR)) (k:List (List D)->List (Nat × Option aR)->Option β),bsF fr bl size rs parts wr k = (kU (lk bl none) size rs (parts.map fun p=>(p.1,dY (lk fr .any) p.2))).bind fun rs'=>k rs' (wr ++ parts.flatMap fun p=>sY (lk bl none) (dY (lk fr .any) p.2)):=by
 induction parts with
 | nil=>intro rs wr k; simp [bsF,kU]
 | cons p r ih =>
  intro rs wr k
  obtain ⟨i,x⟩:=p
  simp only [bsF,fB,KE,List.map_cons,kU,List.flatMap_cons]
  cases cC (jT (lk bl none)) (dY (lk fr .any) x).cells with
  | none=>rfl
  | some row =>
   simp only [qE,P2]
   by_cases h1:row.length = size
   ·by_cases h2:i < rs.length
    ·rw [if_pos h1,if_pos h2,if_pos ⟨h1,h2⟩,ih,List.append_assoc]
    ·rw [if_pos h1,if_neg h2,if_neg (fun q=>h2 q.2)]; rfl
   ·rw [if_neg h1,if_neg (fun q=>h1 q.1)]; rfl
theorem J6 (e size n:Nat) (z:List D) (parts:List (Nat × eG)):uB T d (.buildSlice e size z n parts) fr bl k kw = e8 bl d fun b=>kW b (bsF fr bl size (List.replicate n z) parts [] fun rows wr=>LN e rows fun rows=>kw (.own d 0) ((d,some (.rows 0 e size rows)) :: wr)):=by
 rw [oJ]
 unfold e8 kW LN
 simp only [eS,aGm,List.nil_append]
 cases lk bl none d with
 | some b=>rfl
 | none =>
  simp only
  have e1:(parts.map fun x=>match x with | (i,x)=>(i,dY (lk fr .any) x)) = parts.map fun p=>(p.1,dY (lk fr .any) p.2):=rfl
  have e2:(parts.flatMap fun x=>match x with | (_,x)=>sY (lk bl none) (dY (lk fr .any) x)) = parts.flatMap fun p=>sY (lk bl none) (dY (lk fr .any) p.2):=rfl
  rw [e1,e2]
  cases kU (lk bl none) size (List.replicate n z) (parts.map fun p=>(p.1,dY (lk fr .any) p.2)) <;> rfl
def HW (fr:List (Nat × V)) (bl:List (Nat × Option aR)):List eG->(List D->List (Nat × Option aR)->Option β)->Option β
 | [],k=>k [] []
 | x :: l,k=>fB fr x fun v=>B8 v bl fun y f=>HW fr bl l fun ds g=>k (y :: ds) (f ++ g)
theorem YF (k:List D->List (Nat × Option aR)->Option β):HW fr bl [] k = k [] []:=rfl
theorem TU (x:eG) (l:List eG) (k:List D->List (Nat × Option aR)->Option β):HW fr bl (x :: l) k = fB fr x fun v=>B8 v bl fun y f=>HW fr bl l fun ds g=>k (y :: ds) (f ++ g):=rfl
theorem O8 (l:List eG) (k:List D->List (Nat × Option aR)->Option β):HW fr bl l k = (cC (fun x=>jM (lk bl none) (dY (lk fr .any) x)) l).bind fun ds=>k ds (l.flatMap fun x=>sY (lk bl none) (dY (lk fr .any) x)):=by
 induction l generalizing k with
 | nil=>rfl
 | cons x l ih =>
  simp only [HW,fB,B8,cC,ih,List.flatMap_cons]
  cases jM (lk bl none) (dY (lk fr .any) x) with
  | none=>rfl
  | some y=>cases cC (fun x=>jM (lk bl none) (dY (lk fr .any) x)) l <;> rfl
def UU (fz:List (Nat × Option aR)) (v:V) (k:V->Option β) (kw:V->List (Nat × Option aR)->Option β):Option β:=match fz with
 | []=>k v
 | p :: w=>kw v (p :: w)
theorem aCL (v:V):UU [] v k kw = k v:=rfl
theorem aGG (l:List (Nat × Option aR)) (v:V):UU ([] ++ l) v k kw = UU l v k kw:=rfl
theorem aGk (p:Nat × Option aR) (w l:List (Nat × Option aR)) (v:V):UU ((p :: w) ++ l) v k kw = kw v ((p :: w) ++ l):=rfl
noncomputable def eK (T:xU) (d:Nat) (bl:List (Nat × Option aR)) (f:Nat) (ds:List D) (fz:List (Nat × Option aR)) (k:V->Option β) (kw:V->List (Nat × Option aR)->Option β):Option β:=match call T f ds with
 | none=>none
 | some r=>GQ (oL d (lk bl none) fz r) k kw
theorem aAw (f:Nat) (args:List eG):uB T d (.call f args) fr bl k kw = HW fr bl args fun ds fz=>eK T d bl f ds fz k kw:=by
 rw [oJ,O8]
 simp only [eS]
 cases cC (fun x=>jM (lk bl none) (dY (lk fr .any) x)) args with
 | none=>rfl
 | some ds =>
  simp only [Option.bind_some,eK]
  cases call T f ds <;> rfl
def D.calm:D->Bool
 | .own _ _ _=>false
 | _=>true
theorem T9 {x:D} (h:x.calm = true):∀ y es rs,x ≠ .own y es rs:=fun y es rs e=>by rw [e] at h; cases h
theorem VN {x:D} (h:IV x = true):x.calm = true:=by cases x <;> first | rfl | cases h
theorem cU {α:Type} {f:Nat} {ds:List D} {o:Option α} {enc:α->D} (h:call T f ds = o.map enc) (hf:∀ x,IV (enc x) = true) (fz:List (Nat × Option aR)):eK T d bl f ds fz k kw = o.bind fun x=>k (toV (enc x)):=by
 unfold eK
 rw [h]
 cases o with
 | none=>rfl
 | some x=>simp only [Option.map_some,Option.bind_some]; rw [BH (T9 (VN (hf x))),if_pos (hf x)]; rfl
theorem uJ {α:Type} {f:Nat} {ds:List D} {o:Option α} {enc:α->D} (h:call T f ds = o.map enc) (hf:∀ x,IV (enc x) = false) (hc:∀ x,(enc x).calm = true) (fz:List (Nat × Option aR)):eK T d bl f ds fz k kw = o.bind fun x=>UU fz (toV (enc x)) k kw:=by
 unfold eK
 rw [h]
 cases o with
 | none=>rfl
 | some x=>simp only [Option.map_some,Option.bind_some]; rw [BH (T9 (hc x)),if_neg (by rw [hf x]; decide)]; cases fz <;> rfl
def T8 (bl:List (Nat × Option aR)):List (Nat × Option aR)->Option β->Option β
 | [],x=>x
 | (i,_) :: l,x=>e8 bl i fun b=>kW b (T8 bl l x)
theorem P5 (bl:List (Nat × Option aR)) (x:Option β):∀ (l:List (Nat × Option aR)),T8 bl l x = if GJ (lk bl none) l = true then x else none
 | []=>rfl
 | (i,b) :: l=>by
  cases h:lk bl none i <;> simp [T8,GJ,e8,kW,P5 bl x l,h]
def JI (fr:List (Nat × V)) (bl:List (Nat × Option aR)):List eG->(List D->List (Nat × Option aR)->Option β)->Option β
 | [],k=>k [] []
 | x :: l,k=>fB fr x fun v=>Y7 v bl fun y f=>JI fr bl l fun ds g=>k (y :: ds) (f ++ g)
theorem XS (k:List D->List (Nat × Option aR)->Option β):JI fr bl [] k = k [] []:=rfl
theorem RY (x:eG) (l:List eG) (k:List D->List (Nat × Option aR)->Option β):JI fr bl (x :: l) k = fB fr x fun v=>Y7 v bl fun y f=>JI fr bl l fun ds g=>k (y :: ds) (f ++ g):=rfl
theorem aAr (l:List eG) (k:List D->List (Nat × Option aR)->Option β):JI fr bl l k = (cC (fun x=>jT (lk bl none) (dY (lk fr .any) x)) l).bind fun ds=>k ds (l.flatMap fun x=>xT (lk bl none) (dY (lk fr .any) x)):=by
 induction l generalizing k with
 | nil=>rfl
 | cons x l ih =>
  simp only [JI,fB,Y7,cC,ih,List.flatMap_cons]
  cases jT (lk bl none) (dY (lk fr .any) x) with
  | none=>rfl
  | some y=>cases cC (fun x=>jT (lk bl none) (dY (lk fr .any) x)) l <;> rfl
theorem aA6 (f:Nat) (caps:List eG):uB T d (.mkfn f caps) fr bl k kw = JI fr bl caps fun ds fz=>UU fz (.d (.fn f ds)) k kw:=by
 rw [oJ,aAr]
 simp only [eS]
 cases cC (fun x=>jT (lk bl none) (dY (lk fr .any) x)) caps with
 | none=>rfl
 | some ds =>
  simp only [Option.bind_some]
  cases caps.flatMap fun x=>xT (lk bl none) (dY (lk fr .any) x) <;> rfl
def IM (fr:List (Nat × V)) (bl:List (Nat × Option aR)) (caps:List D):List eG->(List D->List (Nat × Option aR)->Option β)->Option β
 | [],k=>k caps []
 | x :: l,k=>fB fr x fun v=>B8 v bl fun y f=>IM fr bl caps l fun ds g=>k (y :: ds) (f ++ g)
theorem YO (caps:List D) (k:List D->List (Nat × Option aR)->Option β):IM fr bl caps [] k = k caps []:=rfl
theorem R0 (caps:List D) (x:eG) (l:List eG) (k:List D->List (Nat × Option aR)->Option β):IM fr bl caps (x :: l) k = fB fr x fun v=>B8 v bl fun y f=>IM fr bl caps l fun ds g=>k (y :: ds) (f ++ g):=rfl
theorem ZO (caps:List D) (l:List eG) (k:List D->List (Nat × Option aR)->Option β):IM fr bl caps l k = (cC (fun x=>jM (lk bl none) (dY (lk fr .any) x)) l).bind fun ds=>k (ds ++ caps) (l.flatMap fun x=>sY (lk bl none) (dY (lk fr .any) x)):=by
 induction l generalizing k with
 | nil=>rfl
 | cons x l ih =>
  simp only [IM,fB,B8,cC,ih,List.flatMap_cons]
  cases jM (lk bl none) (dY (lk fr .any) x) with
  | none=>rfl
  | some y=>cases cC (fun x=>jM (lk bl none) (dY (lk fr .any) x)) l <;> rfl
noncomputable def TK (T:xU) (d:Nat) (v:V) (args:List eG) (fr:List (Nat × V)) (bl:List (Nat × Option aR)) (k:V->Option β) (kw:V->List (Nat × Option aR)->Option β):Option β:=match v with
 | .d (.fn f caps)=>IM fr bl caps args fun ds fz=>eK T d bl f ds fz k kw
 | _=>none
theorem ZP (f:Nat) (caps:List D) (args:List eG):TK T d (.d (.fn f caps)) args fr bl k kw = IM fr bl caps args fun ds fz=>eK T d bl f ds fz k kw:=rfl
theorem XK (g:eG) (args:List eG):uB T d (.callv g args) fr bl k kw = fB fr g fun v=>TK T d v args fr bl k kw:=by
 rw [oJ]
 unfold fB
 simp only [eS]
 generalize dY (lk fr .any) g = v
 cases v with
 | d x=>cases x with
  | fn f caps =>
   simp only [TK,ZO]
   cases cC (fun x=>jM (lk bl none) (dY (lk fr .any) x)) args with
   | none=>rfl
   | some ds =>
    simp only [Option.bind_some,eK]
    cases call T f (ds ++ caps) <;> rfl
  | _=>rfl
 | _=>rfl
def aFH (v:V) (i:Nat) (k:V->Option β):Option β:=match v with
 | .tup vs=>AJ vs i k
 | _=>none
theorem PS (x:eG) (i:Nat):uB T d (.extract x i) fr bl k kw = fB fr x fun v=>aFH v i k:=by
 unfold uB fB
 simp only [eS]
 generalize dY (lk fr .any) x = v
 cases v with
 | tup vs=>simp only [aFH,FO]; cases vs[i]? <;> rfl
 | _=>rfl
theorem aFW (vs:List V) (i:Nat):aFH (.tup vs) i k = AJ vs i k:=rfl
def uW (m:vL) (fr:List (Nat × V)) (bl:List (Nat × Option aR)) (k:List (Nat × V)->List (Nat × Option aR)->Option β):Option β:=k (m.app ⟨fr,bl⟩).fr (m.app ⟨fr,bl⟩).bl
theorem aD9 {k:Ex->St->Option β} (m:vL) (a:aZ):eL T (.pre m a) ⟨fr,bl⟩ k = uW m fr bl fun fr' bl'=>eL T a ⟨fr',bl'⟩ k:=by
 rw [aFb]; rfl
theorem aCK {k:Ex->St->Option β} (m:vL):PL m k .normal ⟨fr,bl⟩ = uW m fr bl fun fr' bl'=>k .normal ⟨fr',bl'⟩:=by
 rw [aDh]; rfl
def uR (keep:List Nat) (bl:List (Nat × Option aR)) (v:V) (k:V->Option β):Option β:=k (EB keep (lk bl none) v)
def JV (keep:List Nat) (fr:List (Nat × V)) (bl:List (Nat × Option aR)):List Nat->(List (Nat × V)->Option β)->Option β
 | [],k=>k []
 | t :: r,k=>vO fr t fun v=>uR keep bl v fun v'=>JV keep fr bl r fun l=>k ((t,v') :: l)
theorem aAM (keep l:List Nat):∀ (k:List (Nat × V)->Option β),JV keep fr bl l k = k (l.map fun t=>(t,EB keep (lk bl none) (lk fr .any t))):=by
 induction l with
 | nil=>intro k; rfl
 | cons t l ih=>intro k; simp only [JV,vO,uR,ih,List.map_cons]
def CY (keep:List Nat) (bl:List (Nat × Option aR)) (b:Option aR) (k:Option aR->Option β):Option β:=k (b.bind (yS keep (lk bl none)))
def JG (keep:List Nat) (bl:List (Nat × Option aR)):List Nat->(List (Nat × Option aR)->Option β)->Option β
 | [],k=>k []
 | i :: r,k=>e8 bl i fun b=>CY keep bl b fun b'=>JG keep bl r fun l=>k ((i,b') :: l)
theorem aB5 (keep l:List Nat):∀ (k:List (Nat × Option aR)->Option β),JG keep bl l k = k (l.map fun i=>(i,(lk bl none i).bind (yS keep (lk bl none)))):=by
 induction l with
 | nil=>intro k; rfl
 | cons t l ih=>intro k; simp only [JG,e8,CY,ih,List.map_cons]
theorem WH (keep:List Nat) (k:List (Nat × V)->Option β):JV keep fr bl [] k = k []:=rfl
theorem R7 (keep:List Nat) (t:Nat) (r:List Nat) (k:List (Nat × V)->Option β):JV keep fr bl (t :: r) k = vO fr t fun v=>uR keep bl v fun v'=>JV keep fr bl r fun l=>k ((t,v') :: l):=rfl
theorem WN (keep:List Nat) (k:List (Nat × Option aR)->Option β):JG keep bl [] k = k []:=rfl
theorem TO (keep:List Nat) (i:Nat) (r:List Nat) (k:List (Nat × Option aR)->Option β):JG keep bl (i :: r) k = e8 bl i fun b=>CY keep bl b fun b'=>JG keep bl r fun l=>k ((i,b') :: l):=rfl
theorem aEI (live keep:List Nat) (k:List (Nat × V)->List (Nat × Option aR)->Option β):uW ⟨live,keep,[],[],[],[]⟩ fr bl k = JV keep fr bl live fun fr'=>JG keep bl keep fun bl'=>k fr' bl':=by
 rw [aAM,aB5]; rfl
def lK (keep:List Nat) (i:Nat) (x y:Option β):Option β:=if keep.contains i = true then x else y
theorem LE (i:Nat) (r:List Nat) (x y:Option β):lK (i :: r) i x y = x:=by simp [lK]
theorem KU (a i:Nat) (r:List Nat) (x y:Option β) (h:(i == a) = false):lK (a :: r) i x y = lK r i x y:=by
 unfold lK
 rw [List.contains_cons,h,Bool.false_or]
section
variable (keep:List Nat)
theorem aDy (x:D):uR keep bl (.d x) k = k (.d x):=rfl
theorem XZ:uR keep bl .nil k = k .nil:=rfl
def N9 (keep:List Nat) (id off:Nat) (b:Option aR) (k:V->Option β):Option β:=match b with
 | some (.box _)=>lK keep id (k (.ptr id off)) (k .any)
 | some (.fbox ds)=>k (.d (.ptr ds off))
 | _=>k .any
theorem TD (id off:Nat) (cs:List V):N9 keep id off (some (.box cs)) k = lK keep id (k (.ptr id off)) (k .any):=rfl
theorem PW (id off:Nat) (ds:List D):N9 keep id off (some (.fbox ds)) k = k (.d (.ptr ds off)):=rfl
theorem YA (id off:Nat):uR keep bl (.ptr id off) k = e8 bl id fun b=>N9 keep id off b k:=by
 unfold uR e8 N9
 simp only [EB,L9,sO]
 generalize lk bl none id = b
 cases b with
 | none=>rfl
 | some b=>cases b with
  | box cs=>simp only [lK]; split <;> rfl
  | _=>rfl
def KM (id ver:Nat) (b:Option aR) (k:V->Option β):Option β:=match b with
 | some (.rows v _ _ _)=>if (ver == v) = true then lK keep id (k (.own id 0)) (k .any) else k .any
 | some (.froz v rows)=>if ver = v then k (.d (.sl rows)) else k .any
 | _=>k .any
theorem YH (id ver:Nat):uR keep bl (.own id ver) k = e8 bl id fun b=>KM keep id ver b k:=by
 unfold uR e8 KM lK
 simp only [EB,L9,sO]
 generalize lk bl none id = b
 cases b with
 | none=>rfl
 | some b=>cases b with
  | rows v e s rows=>simp only; cases (ver == v) <;> cases keep.contains id <;> rfl
  | froz v rows=>simp only; split <;> rfl
  | _=>rfl
theorem PB (id v e s:Nat) (rows:List (List D)):KM keep id v (some (.rows v e s rows)) k = lK keep id (k (.own id 0)) (k .any):=by simp [KM]
theorem PU (id v:Nat) (rows:List (List D)):KM keep id v (some (.froz v rows)) k = k (.d (.sl rows)):=if_pos rfl
def wR (keep:List Nat) (bl:List (Nat × Option aR)):List V->(List V->Option β)->Option β
 | [],k=>k []
 | v :: cs,k=>k (sO keep (lk bl none) v :: cs.map (sO keep (lk bl none)))
theorem AP (cs:List V) (k:List V->Option β):wR keep bl cs k = k (cs.map (sO keep (lk bl none))):=by cases cs <;> rfl
theorem SL (k:List V->Option β):wR keep bl [] k = k []:=rfl
theorem aAQ (x:D) (cs:List V) (k:List V->Option β):wR keep bl (.d x :: cs) k = wR keep bl cs fun l=>k (.d x :: l):=by simp only [AP]; rfl
theorem aAC (cs:List V) (k:List V->Option β):wR keep bl (.nil :: cs) k = wR keep bl cs fun l=>k (.nil :: l):=by simp only [AP]; rfl
theorem TF (id ver:Nat) (cs:List V) (k:List V->Option β):wR keep bl (.own id ver :: cs) k = uR keep bl (.own id ver) fun v=>wR keep bl cs fun l=>k (v :: l):=by simp only [AP]; rfl
theorem FK (ds:List D) (b:Nat->Option aR):(aD ds).map (sO keep b) = aD ds:=by
 induction ds with
 | nil=>rfl
 | cons x ds ih=>show sO keep b (.d x) :: (aD ds).map (sO keep b) = _; rw [ih]; rfl
theorem RZ (ds:List D):uR keep bl (iS ds) k = k (iS ds):=by
 show k (.agg ((aD ds).map (sO keep (lk bl none)))) = _
 rw [FK]; rfl
theorem QG (k:Option aR->Option β):CY keep bl none k = k none:=rfl
theorem RF (c:V) (cs:List V) (k:Option aR->Option β):CY keep bl (some (.box (c :: cs))) k = wR keep bl (c :: cs) fun l=>k (some (.box l)):=by rw [AP]; rfl
theorem LR (ds:List D) (k:Option aR->Option β):CY keep bl (some (.box (aD ds))) k = k (some (.box (aD ds))):=by
 show k (some (.box ((aD ds).map (sO keep (lk bl none))))) = _
 rw [FK]
theorem PF (v e s:Nat) (rows:List (List D)) (k:Option aR->Option β):CY keep bl (some (.rows v e s rows)) k = k (some (.rows 0 e s rows)):=rfl
end
def aHD (res:List sI):Ex->St->Option D
 | .normal,s=>match cC (xS s) res with
  | none=>none
  | some [v]=>jM s.blk v
  | some vs=>toD s.blk (.tup vs)
 | .ret,s=>match cC (xS s) res with
  | none=>none
  | some [v]=>jM s.blk v
  | some vs=>toD s.blk (.tup vs)
 | .exit _,_=>none
def IY (fr:List (Nat × V)) (bl:List (Nat × Option aR)):List sI->(List D->Option D)->Option D
 | [],k=>k []
 | .tmp t :: r,k=>vO fr t fun v=>B8 v bl fun x _=>IY fr bl r fun l=>k (x :: l)
 | .cell t size isAgg :: r,k=>vO fr t fun p=>xX size isAgg p bl fun v=>B8 v bl fun x _=>IY fr bl r fun l=>k (x :: l)
def UR:List D->Option D
 | [x]=>some x
 | l=>some (.tup l)
theorem QS (size:Nat) (a:Bool) (p:V):xX size a p bl k = (IR size a p (lk bl none)).bind fun r=>k r.1:=by
 have h:=QY (T:=fun _=>none) (d:=0) (fr:=[]) (bl:=bl) (k:=k) (kw:=fun v _=>k v) size a (.c p)
 have e:fB [] (.c p) (fun v=>xX size a v bl k) = xX size a p bl k:=rfl
 rw [← e,← h,oJ,FU]
 show GQ (IR size a p (lk bl none)) k (fun v _=>k v) = _
 cases IR size a p (lk bl none) with
 | none=>rfl
 | some r=>obtain ⟨v,wr⟩:=r; cases wr <;> rfl
theorem NA (fr:List (Nat × V)) (bl:List (Nat × Option aR)):St.blk ⟨fr,bl⟩ = lk bl none:=rfl
theorem aEe (res:List sI):∀ (k:List D->Option D),IY fr bl res k = (cC (xS ⟨fr,bl⟩) res).bind fun vs=>(cC (jM (lk bl none)) vs).bind k:=by
 induction res with
 | nil=>intro k; rfl
 | cons r res ih =>
  intro k
  cases r with
  | tmp t =>
   simp only [IY,vO,B8,ih,cC,xS,NZ,NA]
   cases h1:cC (xS ⟨fr,bl⟩) res with
   | none =>
    simp only [Option.bind_none]
    cases jM (lk bl none) (lk fr .any t) <;> rfl
   | some vs =>
    simp only [Option.bind_some,cC]
    cases jM (lk bl none) (lk fr .any t) with
    | none=>rfl
    | some x=>cases cC (jM (lk bl none)) vs <;> rfl
  | cell t size isAgg =>
   simp only [IY,vO,QS,B8,ih,cC,xS,FU,NZ,NA]
   cases IR size isAgg (lk fr .any t) (lk bl none) with
   | none=>rfl
   | some q =>
    obtain ⟨v,wr⟩:=q
    simp only [Option.bind_some]
    cases h1:cC (xS ⟨fr,bl⟩) res with
    | none =>
     simp only [Option.bind_none]
     cases jM (lk bl none) v <;> rfl
    | some vs =>
     simp only [Option.bind_some,cC]
     cases jM (lk bl none) v with
     | none=>rfl
     | some x=>cases cC (jM (lk bl none)) vs <;> rfl
theorem aFg (res:List sI):(match cC (xS ⟨fr,bl⟩) res with
  | none=>none
  | some [v]=>jM (lk bl none) v
  | some vs=>toD (lk bl none) (.tup vs)) = IY fr bl res UR:=by
 rw [aEe]
 cases cC (xS ⟨fr,bl⟩) res with
 | none=>rfl
 | some vs =>
  simp only [Option.bind_some]
  cases vs with
  | nil=>rfl
  | cons v vs =>
   cases vs with
   | nil =>
    simp only [cC]
    cases jM (lk bl none) v <;> rfl
   | cons w ws =>
    show (cC (jM (lk bl none)) (v :: w :: ws)).map D.tup = _
    simp only [cC]
    cases jM (lk bl none) v with
    | none=>rfl
    | some x=>cases jM (lk bl none) w with
     | none=>rfl
     | some y=>cases cC (jM (lk bl none)) ws <;> rfl
theorem aFU (res:List sI):aHD res .ret ⟨fr,bl⟩ = IY fr bl res UR:=aFg res
theorem aBa (k:List D->Option D):IY fr bl [] k = k []:=rfl
theorem ZS (t:Nat) (r:List sI) (k:List D->Option D):IY fr bl (.tmp t :: r) k = vO fr t fun v=>B8 v bl fun x _=>IY fr bl r fun l=>k (x :: l):=rfl
theorem W0 (t size:Nat) (isAgg:Bool) (r:List sI) (k:List D->Option D):IY fr bl (.cell t size isAgg :: r) k = vO fr t fun p=>xX size isAgg p bl fun v=>B8 v bl fun x _=>IY fr bl r fun l=>k (x :: l):=rfl
theorem aEQ (x:D):UR [x] = some x:=rfl
theorem aDc (x y:D) (l:List D):UR (x :: y :: l) = some (.tup (x :: y :: l)):=rfl
theorem dQ {T:xU} {f np nt:Nat} {res:List sI} {body:aZ} (hf:T f = some (.code ⟨np,nt,res,body,false,false⟩)) (ds:List D) (hl:ds.length = np) (hlt:kP 0 ds = none):Vm.call T f ds = eL T body ⟨oS 0 ds,[]⟩ (aHD res):=by
 rw [ZL hf ds hl hlt]
 unfold eL
 cases Vm.ev T body ⟨oS 0 ds,[]⟩ with
 | none=>rfl
 | some q =>
  obtain ⟨e,s⟩:=q
  cases e <;> rfl
def T7 (v:V) (b:Option aR) (x y:Option β):Option β:=match v,b with
 | .nil,none=>x
 | _,_=>y
theorem aGu (x y:Option β):T7 .nil none x y = x:=rfl
theorem ZW (i v:Nat) (b:Option aR) (x y:Option β):T7 (.own i v) b x y = y:=rfl
theorem aEa (live keep:List Nat) (t i e s:Nat) (l:List (Nat × Nat × Nat × Nat)) (c:List (Nat × Nat × Nat × Nat × Nat)) (ft:List Nat) (fc:List (Nat × Nat)) (k:List (Nat × V)->List (Nat × Option aR)->Option β) (hs:0 < s) :
  uW ⟨live,keep,(t,i,e,s) :: l,c,ft,fc⟩ fr bl k = vO fr t fun v=>e8 bl i fun b=>T7 v b (LN e [] fun rows=>uW ⟨live,keep,l,c,ft,fc⟩ ((t,.own i 0) :: fr) ((i,some (.rows 0 e s rows)) :: bl) k) (uW ⟨live,keep,l,c,ft,fc⟩ fr bl k):=by
 show uW ⟨live,keep,(t,i,e,s) :: l,c,ft,fc⟩ fr bl k = T7 (lk fr .any t) (lk bl none i) _ _
 unfold uW
 rw [aHq]
 unfold mkT LN
 show k (vL.app ⟨live,keep,l,c,ft,fc⟩ (match lk fr .any t,lk bl none i with | .nil,none=>if 0 < s then _ else _ | _,_=>_)).fr (vL.app ⟨live,keep,l,c,ft,fc⟩ (match lk fr .any t,lk bl none i with | .nil,none=>if 0 < s then _ else _ | _,_=>_)).bl = _
 generalize lk fr .any t = v
 generalize lk bl none i = b
 cases v with
 | nil=>cases b with
  | none=>simp only [T7,if_pos hs]
  | some b=>rfl
 | _=>rfl
def aBD (b0:Option aR) (n:Nat) (b:Option aR) (x:List V->Option β) (y:Option β):Option β:=match b0 with
 | some (.box cs)=>match cs[n]?,b with
  | some .nil,none=>x cs
  | _,_=>y
 | _=>y
theorem aC3 (live keep:List Nat) (i n j e s:Nat) (c:List (Nat × Nat × Nat × Nat × Nat)) (ft:List Nat) (fc:List (Nat × Nat)) (k:List (Nat × V)->List (Nat × Option aR)->Option β) (hs:0 < s) :
  uW ⟨live,keep,[],(i,n,j,e,s) :: c,ft,fc⟩ fr bl k = e8 bl i fun b0=>e8 bl j fun b=>aBD b0 n b (fun cs=>wX cs n (.own j 0) fun cs'=>LN e [] fun rows=>uW ⟨live,keep,[],c,ft,fc⟩ fr ((i,some (.box cs')) :: (j,some (.rows 0 e s rows)) :: bl) k) (uW ⟨live,keep,[],c,ft,fc⟩ fr bl k):=by
 show uW ⟨live,keep,[],(i,n,j,e,s) :: c,ft,fc⟩ fr bl k = aBD (lk bl none i) n (lk bl none j) _ _
 unfold uW
 rw [aGX]
 have hm:∀ b0 b,lk bl none i = b0->lk bl none j = b->mkC (i,n,j,e,s) ⟨fr,bl⟩ = (match b0,b with
  | some (.box cs),none=>match cs[n]? with
   | some .nil=>if 0 < s then ⟨fr,(i,some (.box (cs.set n (.own j 0)))) :: (j,some (.rows 0 e s [])) :: bl⟩ else ⟨fr,bl⟩
   | _=>⟨fr,bl⟩
  | _,_=>⟨fr,bl⟩):=by
  rintro _ _ rfl rfl; rfl
 have hm:=hm _ _ rfl rfl
 rw [hm]
 generalize lk bl none i = b0
 generalize lk bl none j = b
 cases b0 with
 | none=>rfl
 | some b0=>cases b0 with
  | box cs =>
   cases b with
   | none =>
    simp only [aBD]
    cases h:cs[n]? with
    | none=>rfl
    | some v =>
     cases v with
     | nil =>
      have hn:n < cs.length:=by
       rw [List.getElem?_eq_some_iff] at h
       exact h.1
      simp only [if_pos hs,OS,LN]
      rw [if_pos (by omega)]
      have:∀ (cs:List V) (n:Nat),n < cs.length->iR cs n [.own j 0] = cs.set n (.own j 0):=by
       intro cs
       induction cs with
       | nil=>intro n h; simp at h
       | cons c cs ih =>
        intro n h
        cases n with
        | zero=>cases cs <;> rfl
        | succ n=>simp only [iR,List.set_cons_succ]; rw [ih n (by simpa using h)]
      rw [this cs n hn]
     | _=>rfl
   | some b=>simp only [aBD]; cases cs[n]? with
    | none=>rfl
    | some v=>cases v <;> rfl
  | _=>cases b <;> rfl
theorem R8 (k:List (Nat × Nat × V)->Option β):E1 fr [] k = k []:=rfl
theorem PO (o s:Nat) (x:eG) (l:List (Nat × Nat × eG)) (k:List (Nat × Nat × V)->Option β):E1 fr ((o,s,x) :: l) k = fB fr x fun v=>E1 fr l fun vs=>k ((o,s,v) :: vs):=rfl
theorem VR (l:List (Nat × Nat × eG)):∀ (k:List (Nat × Nat × V)->Option β),E1 fr l k = k (l.map fun p=>(p.1,p.2.1,dY (lk fr .any) p.2.2)):=by
 induction l with
 | nil=>intro k; rfl
 | cons p l ih=>intro k; obtain ⟨o,s,x⟩:=p; simp only [E1,fB,ih,List.map_cons]
def K0 (z:List V):List (Nat × Nat × V)->(List V->Option β)->Option β
 | [],k=>k z
 | (off,size,v) :: r,k=>BQ v fun cs=>GM cs size (uG z off cs fun z'=>K0 z' r k)
theorem WI (z:List V) (k:List V->Option β):K0 z [] k = k z:=rfl
theorem ST (z:List V) (off size:Nat) (v:V) (r:List (Nat × Nat × V)) (k:List V->Option β):K0 z ((off,size,v) :: r) k = BQ v fun cs=>GM cs size (uG z off cs fun z'=>K0 z' r k):=rfl
theorem aBN (ps:List (Nat × Nat × V)):∀ (z:List V) (k:List V->Option β),K0 z ps k = (CO z ps).bind k:=by
 induction ps with
 | nil=>intro z k; rfl
 | cons p r ih =>
  intro z k
  obtain ⟨off,size,v⟩:=p
  simp only [K0,CO,BQ,GM,uG,ih]
  by_cases h1:v.known = true
  ·by_cases h2:v.cells.length = size
   ·subst h2
    by_cases h3:off + v.cells.length <= z.length
    ·rw [if_pos h1,if_pos rfl,if_pos h3,if_pos ⟨rfl,h3,h1⟩]
    ·rw [if_pos h1,if_pos rfl,if_neg h3,if_neg (fun q=>h3 q.2.1)]; rfl
   ·rw [if_pos h1,if_neg h2,if_neg (fun q=>h2 q.1)]; rfl
  ·rw [if_neg h1,if_neg (fun q=>h1 q.2.2)]; rfl
theorem Y0 (z:List V) (parts:List (Nat × Nat × eG)):uB T d (.build z parts) fr bl k kw = E1 fr parts fun ps=>K0 z ps fun cs=>k (.agg cs):=by
 rw [oJ,VR,aBN]
 simp only [eS]
 have e1:(parts.map fun x=>match x with | (o,s,x)=>(o,s,dY (lk fr .any) x)) = parts.map fun p=>(p.1,p.2.1,dY (lk fr .any) p.2.2):=rfl
 rw [e1]
 cases CO z (parts.map fun p=>(p.1,p.2.1,dY (lk fr .any) p.2.2)) <;> rfl
theorem aC (ds:List D):(aD ds).length = ds.length:=by simp [aD]
def aII (bytes:Nat) (a b:V) (x:Nat->Option β):Option β:=match a,b with
 | .d (.int _ n),.d (.int _ m)=>if 0 <= n ∧ n <= m ∧ (bytes:Int) * m <= 281474976710656 ∧ m <= 9223372036854775807 then x n.toNat else none
 | _,_=>none
theorem aF3 (bytes:Nat) (i j:IntKind) (n m:Int) (x:Nat->Option β):aII bytes (.d (.int i n)) (.d (.int j m)) x = if 0 <= n ∧ n <= m ∧ (bytes:Int) * m <= 281474976710656 ∧ m <= 9223372036854775807 then x n.toNat else none:=rfl
theorem aAG {k:Ex->St->Option β} (c:eG) (a b:aZ):eL T (.cond c a b) ⟨fr,bl⟩ k = fB fr c fun v=>P9 v (eL T a ⟨fr,bl⟩ k) (eL T b ⟨fr,bl⟩ k):=aAh c a b _
theorem aDx (a b c:List (Nat × Option aR)) (t:Nat) (k:Option aR->Option β):e8 ((a ++ b) ++ c) t k = e8 (a ++ (b ++ c)) t k:=by rw [List.append_assoc]
def PT:List V->Nat->(V->Option β)->Option β->Option β
 | [],_,_,y=>y
 | c :: _,0,x,_=>x c
 | _ :: cs,n + 1,x,y=>PT cs n x y
theorem aGl (c:V) (cs:List V) (x:V->Option β) (y:Option β):PT (c :: cs) 0 x y = x c:=rfl
theorem aF8 (c:V) (cs:List V) (n:Nat) (x:V->Option β) (y:Option β):PT (c :: cs) (n + 1) x y = PT cs n x y:=rfl
theorem ZK (cs:List V) (n:Nat) (b:Option aR) (x:List V->Option β) (y:Option β):aBD (some (.box cs)) n b x y = PT cs n (fun v=>T7 v b (x cs) y) y:=by
 have:∀ (l:List V) (n:Nat),(match l[n]?,b with | some .nil,none=>x cs | _,_=>y) = PT l n (fun v=>T7 v b (x cs) y) y:=by
  intro l
  induction l with
  | nil=>intro n; rfl
  | cons c l ih=>intro n; cases n with
   | zero=>cases c <;> cases b <;> rfl
   | succ n=>exact ih n
 exact this cs n
def aAP (rows:List (List D)) (k:V->Option β):Option β:=k (.d (.int .i64 rows.length))
theorem aE7 {α:Type} (c:α->List D) (xs:List α):aAP (cM c xs) k = k (.d (.int .i64 (xs.length:Int))):=by unfold aAP; rw [aI]
theorem aDi (x:eG):uB T d (.len x) fr bl k kw = fB fr x fun a=>F1 a bl fun rows=>aAP rows k:=aEx x
def PC (v:V) (bl:List (Nat × Option aR)) (k:V->List (Nat × Option aR)->Option β) (y:Option β):Option β:=match jT (lk bl none) v with
 | some x=>k (.d x) (xT (lk bl none) v)
 | none=>y
def aFc (n:Nat) (b:Option aR) (bl:List (Nat × Option aR)) (k:List V->List (Nat × Option aR)->Option β) (y:Option β):Option β:=match b with
 | some (.box cs)=>match cs[n]? with
  | some v=>match jT (lk bl none) v with
   | some d=>k (cs.set n (.d d)) (xT (lk bl none) v)
   | none=>y
  | none=>y
 | _=>y
theorem aAx (live keep:List Nat) (i n:Nat) (fc:List (Nat × Nat)) (k:List (Nat × V)->List (Nat × Option aR)->Option β) :
  uW ⟨live,keep,[],[],[],(i,n) :: fc⟩ fr bl k = e8 bl i fun b=>aFc n b bl (fun cs wr=>uW ⟨live,keep,[],[],[],fc⟩ fr ((i,some (.box cs)) :: (wr ++ bl)) k) (uW ⟨live,keep,[],[],[],fc⟩ fr bl k):=by
 unfold uW
 rw [aF7]
 unfold frC e8 aFc
 rw [NA]
 dsimp only
 cases lk bl none i with
 | none=>rfl
 | some b =>
  cases b with
  | box cs =>
   simp only
   cases cs[n]? with
   | none=>rfl
   | some v =>
    simp only
    cases jT (lk bl none) v <;> rfl
  | _=>rfl
theorem aFO (cs:List V) (n:Nat) (w:V) (k:List V->Option β) (h:n < cs.length):wX cs n w k = k (cs.set n w):=by
 induction cs generalizing n k with
 | nil=>simp at h
 | cons c cs ih=>cases n with
  | zero=>rfl
  | succ n=>simp only [wX,List.set_cons_succ]; rw [ih n _ (by simpa using h)]
theorem aBi (n:Nat) (cs:List V) (k:List V->List (Nat × Option aR)->Option β) (y:Option β):aFc n (some (.box cs)) bl k y = PT cs n (fun v=>PC v bl (fun v' wr=>wX cs n v' fun cs'=>k cs' wr) y) y:=by
 have e:∀ (l:List V) (n:Nat) (x:V->Option β),PT l n x y = match l[n]? with | some v=>x v | none=>y:=by
  intro l
  induction l with
  | nil=>intro n x; rfl
  | cons c l ih=>intro n x; cases n with
   | zero=>rfl
   | succ n=>exact ih n x
 rw [e]
 simp only [aFc,PC]
 cases h:cs[n]? with
 | none=>rfl
 | some v =>
  simp only
  cases jT (lk bl none) v with
  | none=>rfl
  | some d=>simp only; rw [aFO _ _ _ _ (List.getElem?_eq_some_iff.1 h).1]
theorem aCS (x:D) (k:V->List (Nat × Option aR)->Option β) (y:Option β):PC (.d x) bl k y = k (.d x) []:=rfl
def aGA (id off:Nat) (b:Option aR) (bl:List (Nat × Option aR)) (k:V->List (Nat × Option aR)->Option β) (y:Option β):Option β:=match b with
 | some (.box cs)=>match cC (pG (lk bl none)) cs with
  | some ds=>k (.d (.ptr ds off)) ((id,some (.fbox ds)) :: cs.flatMap (FB (lk bl none)))
  | none=>y
 | some (.fbox cs)=>k (.d (.ptr cs off)) []
 | _=>y
theorem WQ (id off:Nat) (k:V->List (Nat × Option aR)->Option β) (y:Option β):PC (.ptr id off) bl k y = e8 bl id fun b=>aGA id off b bl k y:=by
 unfold PC e8 aGA
 simp only [jT,xT]
 generalize lk bl none id = b
 cases b with
 | none=>rfl
 | some b =>
  cases b with
  | box cs =>
   dsimp only
   cases cC (pG (lk bl none)) cs <;> rfl
  | _=>rfl
end
end Vm
end Go.Proofs.Ytjjcaapdaldedaa
namespace Go.Proofs.Ytjjcaapdaldedaa
namespace Vm
open Go.RowKit
section
variable {β:Type} {T:xU}
def GF (d:Nat) (op:iG) (fr:List (Nat × V)) (bl:List (Nat × Option aR)) (k:List Nat->Option β):Option β :=
 k ((if op.new = true then [d] else []) ++ ((op.peeks.flatMap fun x=>(dY (lk fr .any) x).ids) ++ op.deeps.flatMap fun x=>(dY (lk fr .any) x).dids (lk bl none)))
def GH (wr:List (Nat × Option aR)) (k:List Nat->Option β):Option β:=k (wr.map (·.1))
theorem WW (k:List Nat->Option β):GH [] k = k []:=rfl
theorem aEE (i:Nat) (b:Option aR) (w:List (Nat × Option aR)) (k:List Nat->Option β):GH ((i,b) :: w) k = GH w fun l=>k (i :: l):=rfl
theorem aBt (w:List (Nat × Option aR)) (k:List Nat->Option β):GH ([] ++ w) k = GH w k:=rfl
theorem aBn (u v w:List (Nat × Option aR)) (k:List Nat->Option β):GH ((u ++ v) ++ w) k = GH (u ++ (v ++ w)) k:=by rw [List.append_assoc]
theorem T3 (d st:Nat) (op:iG) (l:List c9) (fr:List (Nat × V)) (bl:List (Nat × Option aR)) (fp:List Fp) (k:St->List Fp->Option β) :
  mF T (⟨some d,op,none,st⟩ :: l) ⟨fr,bl⟩ fp k = uB T st op fr bl (fun v=>GF st op fr bl fun f=>mF T l ⟨(d,v) :: fr,bl⟩ ((f,[]) :: fp) k) (fun v wr=>GH wr fun ws=>GF st op fr bl fun f=>mF T l ⟨(d,v) :: fr,wr ++ bl⟩ ((f,ws) :: fp) k):=by
 rw [KI]
 unfold uB CA GF
 show (match eS (call T) st (dY (lk fr .any)) (lk bl none) op with | some (v,wr)=>_ | none=>none) = _
 cases eS (call T) st (dY (lk fr .any)) (lk bl none) op with
 | none=>rfl
 | some r=>obtain ⟨v,wr⟩:=r; cases wr <;> rfl
theorem PY (st:Nat) (op:iG) (l:List c9) (fr:List (Nat × V)) (bl:List (Nat × Option aR)) (fp:List Fp) (k:St->List Fp->Option β) :
  mF T (⟨none,op,none,st⟩ :: l) ⟨fr,bl⟩ fp k = uB T st op fr bl (fun _=>GF st op fr bl fun f=>mF T l ⟨fr,bl⟩ ((f,[]) :: fp) k) (fun _ wr=>GH wr fun ws=>GF st op fr bl fun f=>mF T l ⟨fr,wr ++ bl⟩ ((f,ws) :: fp) k):=by
 rw [KI]
 unfold uB CA GF
 show (match eS (call T) st (dY (lk fr .any)) (lk bl none) op with | some (v,wr)=>_ | none=>none) = _
 cases eS (call T) st (dY (lk fr .any)) (lk bl none) op with
 | none=>rfl
 | some r=>obtain ⟨v,wr⟩:=r; cases wr <;> rfl
theorem XA (fr:List (Nat × V)) (bl:List (Nat × Option aR)) (fp:List Fp) (k:St->List Fp->Option β):mF T [] ⟨fr,bl⟩ fp k = k ⟨fr,bl⟩ fp:=rfl
theorem aCX {l:List c9} {ps:List (Nat × Nat)} {s:St} {fp:List Fp} (k:St->Option β) (h:F9 l fp.reverse ps = true):aCU l ps k s fp = k s:=if_pos h
theorem zW {d:Option Nat} {st:Nat} {g g' : Option (Nat × Bool)} {fr:Nat->V} {bl:Nat->Option aR} {wr:List (Nat × Option aR)} (t:Nat) (b:Bool) (op:iG):uN ⟨d,dE t b op,g,st⟩ fr bl wr = uN ⟨d,op,g',st⟩ fr bl wr:=by
 cases op with
 | pick c x y =>
  cases c with
  | t t' =>
   simp only [dE]
   split <;> rfl
  | c v=>rfl
 | _=>rfl
theorem RN {C:Nat->List D->Option D} {s:St} {t:Nat} {b:Bool} (h:s.get t = .d (.bool b)) (o:c9):jP C (dF t b o) s = jP C o s:=by
 obtain ⟨d,op,g,st⟩:=o
 cases g with
 | some g =>
  obtain ⟨t',w⟩:=g
  simp only [dF]
  split
  ·rename_i e
   subst e
   split
   ·rename_i e
    subst e
    simp only [jP,c9.wants,h,wJ h]
    cases w <;> simp only [vC] <;> cases eS C st (dY s.get) s.blk op <;> first | rfl | (simp [zW (g':=some (t',false)),zW (g':=some (t',true))]; done) | (simp [zW (g':=some (t',false)),zW (g':=some (t',true))]; rfl)
   ·rename_i e
    simp only [jP,c9.wants,h,eS,dY]
    cases w <;> cases b <;> simp_all [vC,uN,iG.new,iG.peeks,iG.deeps]
  ·simp only [jP,c9.wants,wJ h]
   cases vC (s.get t') w <;> simp only [] <;> cases eS C st (dY s.get) s.blk op <;> simp [zW (g':=some (t',w))]
 | none =>
  simp only [dF,jP,c9.wants,wJ h]
  cases eS C st (dY s.get) s.blk op <;> simp [zW (g':=none)]
theorem RT {C:Nat->List D->Option D} {o:c9} {s s' : St} {p:Fp} {t:Nat} (h:¬ o.dst = some t) (e:jP C o s = some (s',p)):s'.get t = s.get t:=by
 unfold jP at e
 split at e
 ·split at e
  ·cases e; exact A7 h
  ·cases e
 ·cases e; exact A7 h
 ·cases e
theorem E7 {t:Nat} {b:Bool}:∀ (l:List c9) {s:St} (fp:List Fp) (k:St->List Fp->Option β) (h:s.get t = .d (.bool b)),mF T (dA t b l) s fp k = mF T l s fp k
 | [],s,fp,k,h=>rfl
 | o :: l,s,fp,k,h=>by
  simp only [dA,mF,RN h]
  cases e:jP (call T) o s with
  | none=>rfl
  | some q =>
   obtain ⟨s',p⟩:=q
   simp only
   split
   ·rfl
   ·rename_i hd
    exact E7 l _ k (by rw [RT hd e]; exact h)
noncomputable def GN (T:xU) (v:V) (t:Nat) (l:List c9) (s:St) (fp:List Fp) (k:St->List Fp->Option β):Option β:=match v with
 | .d (.bool b)=>if b = true then mF T (dA t true l) s fp k else mF T (dA t false l) s fp k
 | .tup []=>match l with
  | o :: r=>mF T r (s.put o.dst (.tup []) []) (([],[]) :: fp) k
  | []=>none
 | _=>none
theorem Q8 (d:Option Nat) (op:iG) (t:Nat) (w:Bool) (st:Nat) (l:List c9) (fr:List (Nat × V)) (bl:List (Nat × Option aR)) (fp:List Fp) (k:St->List Fp->Option β) :
  mF T (⟨d,op,some (t,w),st⟩ :: l) ⟨fr,bl⟩ fp k = vO fr t fun v=>GN T v t (⟨d,op,some (t,w),st⟩ :: l) ⟨fr,bl⟩ fp k:=by
 show _ = GN T (lk fr .any t) t _ _ fp k
 generalize hv:lk fr .any t = v
 have bad:∀ (q:vC v w = .bad),mF T (⟨d,op,some (t,w),st⟩ :: l) ⟨fr,bl⟩ fp k = none:=by
  intro q
  simp only [mF,jP,c9.wants]
  rw [show (St.get ⟨fr,bl⟩ t) = v from hv,q]
 cases v with
 | d x =>
  cases x with
  | bool b =>
   simp only [GN]
   cases b with
   | true=>rw [if_pos rfl,E7 (t:=t) (b:=true) (s:=⟨fr,bl⟩) _ _ _ hv]
   | false=>rw [if_neg (by decide),E7 (t:=t) (b:=false) (s:=⟨fr,bl⟩) _ _ _ hv]
  | _=>exact bad rfl
 | tup vs =>
  cases vs with
  | nil =>
   simp only [GN,mF,jP,c9.wants]
   rw [show (St.get ⟨fr,bl⟩ t) = _ from hv]
   rfl
  | cons x l=>exact bad rfl
 | _=>exact bad rfl
theorem YC (b:Bool) (t:Nat) (l:List c9) (s:St) (fp:List Fp) (k:St->List Fp->Option β):GN T (.d (.bool b)) t l s fp k = if b = true then mF T (dA t true l) s fp k else mF T (dA t false l) s fp k:=rfl
theorem vD {l l' : List c9} {s:St} {fp:List Fp} {k:St->List Fp->Option β} (h:l = l'):mF T l s fp k = mF T l' s fp k:=by rw [h]
theorem aDY (x:D) (ds:List D) (k:D->Option β):fK (x :: ds) 0 k = k x:=rfl
section
variable {d:Nat} {fr:List (Nat × V)} {bl:List (Nat × Option aR)} {k:List Nat->Option β}
def DK (v:V) (k:List Nat->Option β):Option β:=k v.ids
theorem aGw (x:D):DK (.d x) k = k []:=rfl
theorem aB7 (i o:Nat):DK (.ptr i o) k = k [i]:=rfl
theorem ZJ (i o:Nat):DK (.own i o) k = k [i]:=rfl
theorem WV (i v j o:Nat):DK (.orow i v j o) k = k [i]:=rfl
def A9 (bl:List (Nat × Option aR)):List V->(List Nat->Option β)->Option β
 | [],k=>k []
 | c :: cs,k=>k (c.dids1 (lk bl none) ++ cs.flatMap (V.dids1 (lk bl none)))
def CM (bl:List (Nat × Option aR)) (v:V) (k:List Nat->Option β):Option β:=k (v.dids (lk bl none))
theorem C9 (cs:List V):A9 bl cs k = k (cs.flatMap (V.dids1 (lk bl none))):=by cases cs <;> rfl
theorem SE:A9 bl [] k = k []:=rfl
theorem ZE (x:D) (cs:List V):A9 bl (.d x :: cs) k = A9 bl cs k:=by simp only [C9]; rfl
theorem aAS (cs:List V):A9 bl (.nil :: cs) k = A9 bl cs k:=by simp only [C9]; rfl
theorem TM (i o:Nat) (cs:List V):A9 bl (.own i o :: cs) k = A9 bl cs fun l=>k (i :: l):=by simp only [C9]; rfl
theorem aFd (x:D):CM bl (.d x) k = k []:=rfl
theorem YX (i o:Nat):CM bl (.own i o) k = k [i]:=rfl
theorem YV (cs:List V):CM bl (.agg cs) k = A9 bl cs k:=by rw [C9]; rfl
theorem O0 (ds:List D):(aD ds).flatMap (V.dids1 (lk bl none)) = []:=by
 induction ds with
 | nil=>rfl
 | cons x ds ih=>exact ih
theorem T2 (ds:List D):CM bl (iS ds) k = k []:=by
 show k ((aD ds).flatMap (V.dids1 (lk bl none))) = _
 rw [O0]
theorem ZR (x:eG):GF d (.move x) fr bl k = k []:=rfl
theorem XT (z:List V):GF d (.alloc z) fr bl k = k [d]:=rfl
theorem XL (z:List V) (ps:List (Nat × Nat × eG)):GF d (.build z ps) fr bl k = k []:=rfl
theorem fp1 (l:List Nat):([]:List Nat) ++ ((l ++ []) ++ []) = l:=by simp
theorem ZD (s:Nat) (a:Bool) (x:eG):GF d (.load s a x) fr bl k = fB fr x fun v=>DK v k:=by
 show k ([] ++ (((dY (lk fr .any) x).ids ++ []) ++ [])) = _
 rw [fp1]; rfl
theorem N2 (x:eG):GF d (.nilCheck x) fr bl k = fB fr x fun v=>DK v k:=by
 show k ([] ++ (((dY (lk fr .any) x).ids ++ []) ++ [])) = _
 rw [fp1]; rfl
theorem LL (o:Nat) (x:eG):GF d (.fieldAddr o x) fr bl k = fB fr x fun v=>DK v k:=by
 show k ([] ++ (((dY (lk fr .any) x).ids ++ []) ++ [])) = _
 rw [fp1]; rfl
theorem aDq (x:eG):GF d (.len x) fr bl k = fB fr x fun v=>DK v k:=by
 show k ([] ++ (((dY (lk fr .any) x).ids ++ []) ++ [])) = _
 rw [fp1]; rfl
theorem VP (s:Nat) (x:eG) (lo hi:Option eG):GF d (.slice s x lo hi) fr bl k = fB fr x fun v=>DK v k:=by
 show k ([] ++ (((dY (lk fr .any) x).ids ++ []) ++ [])) = _
 rw [fp1]; rfl
theorem K7 (s:Nat) (x i:eG):GF d (.indexAddr s x i) fr bl k = fB fr x fun v=>DK v k:=by
 show k ([] ++ (((dY (lk fr .any) x).ids ++ []) ++ [])) = _
 rw [fp1]; rfl
theorem V2 (s:Nat) (x v:eG):GF d (.store s x v) fr bl k = fB fr x fun a=>DK a fun l=>fB fr v fun b=>CM bl b fun m=>k (l ++ m):=by
 show k ([] ++ (((dY (lk fr .any) x).ids ++ []) ++ ((dY (lk fr .any) v).dids (lk bl none) ++ []))) = _
 rw [List.nil_append,List.append_nil,List.append_nil]; rfl
theorem R9 (e s b:Nat) (x y:eG):GF d (.append e s b x y) fr bl k = fB fr x fun u=>DK u fun l=>fB fr y fun v=>DK v fun m=>k (d :: (l ++ m)):=by
 show k ([d] ++ (((dY (lk fr .any) x).ids ++ ((dY (lk fr .any) y).ids ++ [])) ++ [])) = _
 rw [List.append_nil,List.append_nil]; rfl
def CK (fr:List (Nat × V)) (bl:List (Nat × Option aR)):List eG->(List Nat->Option β)->Option β
 | [],k=>k []
 | x :: l,k=>fB fr x fun v=>CM bl v fun m=>CK fr bl l fun n=>k (m ++ n)
theorem MR (l:List eG):∀ (k:List Nat->Option β),CK fr bl l k = k (l.flatMap fun x=>(dY (lk fr .any) x).dids (lk bl none)):=by
 induction l with
 | nil=>intro k; rfl
 | cons x l ih=>intro k; simp only [CK,fB,CM,ih,List.flatMap_cons]
theorem RR (k:List Nat->Option β):CK fr bl [] k = k []:=rfl
theorem QP (x:eG) (l:List eG) (k:List Nat->Option β):CK fr bl (x :: l) k = fB fr x fun v=>CM bl v fun m=>CK fr bl l fun n=>k (m ++ n):=rfl
theorem aBz (f:Nat) (args:List eG):GF d (.call f args) fr bl k = CK fr bl args k:=by
 rw [MR]; rfl
def E6 (fr:List (Nat × V)) (bl:List (Nat × Option aR)):List (Nat × eG)->(List Nat->Option β)->Option β
 | [],k=>k []
 | (_,x) :: l,k=>fB fr x fun v=>CM bl v fun m=>E6 fr bl l fun n=>k (m ++ n)
theorem YB (l:List (Nat × eG)):∀ (k:List Nat->Option β),E6 fr bl l k = k ((l.map fun p=>p.2).flatMap fun x=>(dY (lk fr .any) x).dids (lk bl none)):=by
 induction l with
 | nil=>intro k; rfl
 | cons x l ih=>intro k; obtain ⟨i,x⟩:=x; simp only [E6,fB,CM,ih,List.map_cons,List.flatMap_cons]
theorem SC (k:List Nat->Option β):E6 fr bl [] k = k []:=rfl
theorem QV (i:Nat) (x:eG) (l:List (Nat × eG)) (k:List Nat->Option β):E6 fr bl ((i,x) :: l) k = fB fr x fun v=>CM bl v fun m=>E6 fr bl l fun n=>k (m ++ n):=rfl
theorem KA (e s n:Nat) (z:List D) (ps:List (Nat × eG)):GF d (.buildSlice e s z n ps) fr bl k = E6 fr bl ps fun l=>k (d :: l):=by
 rw [YB]; rfl
theorem aEZ (c:Nat) (op:BinOp) (x y:eG):GF d (.bin c op x y) fr bl k = k []:=rfl
theorem aFP (op:UnOp) (x:eG):GF d (.un op x) fr bl k = k []:=rfl
theorem YL (o s:Nat) (a:Bool) (x:eG):GF d (.field o s a x) fr bl k = k []:=rfl
theorem aCV (l:List eG):GF d (.max l) fr bl k = k []:=rfl
theorem O1 (x:eG) (i:Nat):GF d (.extract x i) fr bl k = k []:=rfl
theorem ZI {k:Ex->St->Option β} (l:List c9) (ps:List (Nat × Nat)):eL T (.region l (some ps)) ⟨fr,bl⟩ k = mF T l ⟨fr,bl⟩ [] (aCU l ps (k .normal)):=by
 rw [aBq,aDb]
end
section
variable {d:Nat} {fr:List (Nat × V)} {bl:List (Nat × Option aR)} {k:V->Option β} {kw:V->List (Nat × Option aR)->Option β}
theorem aGE (a b c:List (Nat × Option aR)) (v:V):UU ((a ++ b) ++ c) v k kw = UU (a ++ (b ++ c)) v k kw:=by rw [List.append_assoc]
def fzN (id:Nat) (f:List (Nat × Option aR)) (x:Option β):Option β:=if EE id f = true then x else none
theorem aEl (id:Nat) (x:Option β):fzN id [] x = x:=rfl
theorem aHw (id i:Nat) (b:Option aR) (w:List (Nat × Option aR)) (x:Option β) (h:(i == id) = false):fzN id ((i,b) :: w) x = fzN id w x:=by
 have h:¬ i = id:=by simpa using h
 simp only [fzN,EE,if_neg h]
def nB (row:List D) (off:Nat) (ds:List D) (size:Nat) (k:List D->Option β):Option β:=if ds.length = size ∧ off + size <= row.length then k (iR row off ds) else none
theorem N6 (c:D) (cs:List D) (off:Nat) (e:D) (ds:List D) (n:Nat) (k:List D->Option β):nB (c :: cs) (off + 1) (e :: ds) n k = nB cs off (e :: ds) n fun l=>k (c :: l):=by
 unfold nB
 simp only [List.length_cons,iR]
 by_cases h:ds.length + 1 = n ∧ off + n <= cs.length
 ·exact (if_pos (by omega)).trans (if_pos h).symm
 ·exact (if_neg (by omega)).trans (if_neg h).symm
theorem O3 (c:D) (cs:List D) (e:D) (ds:List D) (n:Nat) (k:List D->Option β):nB (c :: cs) 0 (e :: ds) (n + 1) k = nB cs 0 ds n fun l=>k (e :: l):=by
 unfold nB
 simp only [List.length_cons,iR]
 by_cases h:ds.length = n ∧ 0 + n <= cs.length
 ·exact (if_pos (by omega)).trans (if_pos h).symm
 ·exact (if_neg (by omega)).trans (if_neg h).symm
theorem Q0 (cs:List D) (k:List D->Option β):nB cs 0 [] 0 k = k cs:=by
 unfold nB
 rw [if_pos ⟨rfl,by omega⟩,MJ]
def CL (e:Nat) (rows:List (List D)) (i:Nat) (row:List D) (k:List (List D)->Option β):Option β:=k (rows.set i row)
theorem R6 {α:Type} (e:Nat) (c:α->List D) (xs:List α) (i:Nat) (x:α) (k:List (List D)->Option β):CL e (cM c xs) i (c x) k = k (cM c (xs.set i x)):=by
 unfold CL
 rw [aGd]
theorem aDX {α:Type} (size v i off id e sz:Nat) (w:V) (c:α->List D) (xs:List α):F8 size v i off id w bl (some (.rows v e sz (cM c xs))) kw = KE w bl fun ds f=>fzN id f (xs[i]?.bind fun x=>nB (c x) off ds size fun row=>CL e (cM c xs) i row fun rows=>kw .any ((id,some (.rows v e sz rows)) :: f)):=by
 unfold F8 KE
 simp only [KX,if_true,cM,List.getElem?_map]
 cases xs[i]? with
 | none =>
  simp only [Option.map_none,Option.bind_none]
  cases cC (jT (lk bl none)) w.cells with
  | none=>rfl
  | some ds=>simp only [fzN]; split <;> rfl
 | some x =>
  simp only [Option.map_some,Option.bind_some]
  cases cC (jT (lk bl none)) w.cells with
  | none=>rfl
  | some ds =>
   simp only [nB,CL,fzN]
   by_cases h1:EE id (sY (lk bl none) w) = true
   ·rw [if_pos h1]
    by_cases h2:ds.length = size ∧ off + size <= (c x).length
    ·rw [if_pos h2,if_pos ⟨h2.1,h2.2,h1⟩]; rfl
    ·rw [if_neg h2,if_neg (fun q=>h2 ⟨q.1,q.2.1⟩)]; rfl
   ·rw [if_neg h1,if_neg (fun q=>h1 q.2.2)]; rfl
end
end
section
variable {β:Type} {T:xU} {bl:List (Nat × Option aR)} {k:V->Option β} {kw:V->List (Nat × Option aR)->Option β}
def I8 (size id ver:Nat) (lo hi:Option V) (b:Option aR) (k:V->Option β) (kw:V->List (Nat × Option aR)->Option β):Option β:=GQ (xF (fun _=>b) size (.own id ver) lo hi) k kw
theorem RH (size id ver:Nat) (lo hi:Option V):HI size (.own id ver) lo hi bl k kw = e8 bl id fun b=>I8 size id ver lo hi b k kw:=by
 unfold HI e8 I8
 congr 1
 cases lo with
 | none=>cases hi with
  | none=>rfl
  | some h=>cases h with
   | d x=>cases x <;> rfl
   | _=>rfl
 | some l=>rfl
section
variable {α:Type} (size id v:Nat) (c:α->List D) (xs:List α) (hs:sized size (cM c xs) = true)
include hs
end
theorem SB {α:Type} (size id v e s:Nat) (c:α->List D) (xs:List α) (kd:IntKind) (h:Int):I8 size id v none (some (.d (.int kd h))) (some (.rows v e s (cM c xs))) k kw = if 0 <= h ∧ h.toNat <= xs.length then kw (.own id (v + 1)) [(id,some (.rows (v + 1) e s (cM c (xs.take h.toNat))))] else none:=by
 unfold I8 xF
 simp only [cM,List.length_map,true_and,List.map_take]
 split <;> rfl
end
end Vm
end Go.Proofs.Ytjjcaapdaldedaa
namespace Go.Proofs.Ytjjcaapdaldedaa
namespace Vm
open Go.RowKit
section
variable {β:Type} {T:xU} {d:Nat} {fr:List (Nat × V)} {bl:List (Nat × Option aR)} {k:V->Option β} {kw:V->List (Nat × Option aR)->Option β}
theorem lX {α:Type} (c:α->List D) (hc:∀ x,(c x).all B0 = true) (xs:List α):qG (cM c xs) = true:=by
 unfold qG cM
 rw [List.all_eq_true]
 intro row hr
 obtain ⟨x,_,rfl⟩:=List.mem_map.1 hr
 exact hc x
def AY (ver:Nat) (b:Option aR) (g:Nat->Nat->List (List D)->Option D):Option D:=match b with
 | some (.rows v e size rows)=>if ver = v then g e size rows else none
 | _=>none
end
section
variable {β:Type} {T:xU}
end
section
variable {β:Type} {T:xU} {fr:List (Nat × V)} {bl:List (Nat × Option aR)}
def CC (fr:List (Nat × V)):List Nat->(List V->Option β)->Option β
 | [],k=>k []
 | t :: l,k=>vO fr t fun v=>CC fr l fun vs=>k (v :: vs)
theorem Y2 (l:List Nat) (k:List V->Option β):CC fr l k = k (l.map (lk fr .any)):=by
 induction l generalizing k with
 | nil=>rfl
 | cons x l ih=>simp only [CC,vO,ih,List.map_cons]
theorem SH (k:List V->Option β):CC fr [] k = k []:=rfl
theorem P8 (t:Nat) (l:List Nat) (k:List V->Option β):CC fr (t :: l) k = vO fr t fun v=>CC fr l fun vs=>k (v :: vs):=rfl
theorem Y6 (i:Nat):rZ i [] = []:=rfl
theorem RO (i:Nat) (v:V) (l:List V):rZ i (v :: l) = (i,v) :: rZ (i + 1) l:=rfl
def P4 (fr:List (Nat × V)) (bl:List (Nat × Option aR)):List sI->(List V->Option β)->Option β
 | [],k=>k []
 | .tmp t :: r,k=>vO fr t fun v=>P4 fr bl r fun l=>k (v :: l)
 | .cell t size isAgg :: r,k=>vO fr t fun p=>xX size isAgg p bl fun v=>P4 fr bl r fun l=>k (v :: l)
theorem aEs (res:List sI):∀ (k:List V->Option β),P4 fr bl res k = (cC (xS ⟨fr,bl⟩) res).bind k:=by
 induction res with
 | nil=>intro k; rfl
 | cons r res ih =>
  intro k
  cases r with
  | tmp t =>
   simp only [P4,vO,ih,cC,xS,NZ]
   cases cC (xS ⟨fr,bl⟩) res <;> rfl
  | cell t size isAgg =>
   simp only [P4,vO,QS,ih,cC,xS,FU,NZ,NA]
   cases IR size isAgg (lk fr .any t) (lk bl none) with
   | none=>rfl
   | some q =>
    obtain ⟨v,wr⟩:=q
    simp only [Option.bind_some]
    cases cC (xS ⟨fr,bl⟩) res <;> rfl
theorem aB1 (k:List V->Option β):P4 fr bl [] k = k []:=rfl
def UK (dst:Option Nat) (slots:List Nat) (cs vs:List V) (k:List (Nat × V)->Option β):Option β :=
 match vs with
 | [v]=>k (LV dst v ++ slots.zip cs)
 | vs=>if vs.all V.noTup = true then k (LV dst (.tup vs) ++ slots.zip cs) else none
theorem XG (dst:Option Nat) (slots:List Nat) (cs:List V) (k:List (Nat × V)->Option β):UK dst slots cs [] k = k (LV dst (.tup []) ++ slots.zip cs):=rfl
theorem SV (dst:Option Nat) (slots:List Nat) (cs:List V) (v u:V) (l:List V) (k:List (Nat × V)->Option β):UK dst slots cs (v :: u :: l) k = if (v :: u :: l).all V.noTup = true then k (LV dst (.tup (v :: u :: l)) ++ slots.zip cs) else none:=rfl
theorem W2 (d:Nat) (v:V) (l:List (Nat × V)):LV (some d) v ++ l = (d,v) :: l:=rfl
theorem Z9:([]:List Nat).zip ([]:List V) = []:=rfl
theorem WO (t:Nat) (v:V) (l:List Nat) (r:List V):(t :: l).zip (v :: r) = (t,v) :: l.zip r:=rfl
def M1 (b:Option aR) (k:List V->Option β):Option β:=match b with
 | some (.outer cs)=>k cs
 | _=>none
theorem aAX (cs:List V) (k:List V->Option β):M1 (some (.outer cs)) k = k cs:=rfl
def aB8 (dst:Option Nat) (res:List sI) (id:Nat) (slots:List Nat) (fr:List (Nat × V)) (bl:List (Nat × Option aR)) (k:List (Nat × V)->List (Nat × Option aR)->Option β):Option β :=
 e8 bl id fun b=>M1 b fun cs=>P4 fr bl res fun vs=>UK dst slots cs vs fun fr'=>k fr' ((id,none) :: bl)
theorem aCN (dst:Option Nat) (res:List sI) (id:Nat) (slots:List Nat) (k:List (Nat × V)->List (Nat × Option aR)->Option β):aB8 dst res id slots fr bl k = e8 bl id fun b=>M1 b fun cs=>P4 fr bl res fun vs=>UK dst slots cs vs fun fr'=>k fr' ((id,none) :: bl):=rfl
theorem O9 (dst:Option Nat) (res:List sI) (id:Nat) (slots:List Nat) (k:St->Option β):(pJ dst res id slots ⟨fr,bl⟩).bind k = aB8 dst res id slots fr bl fun fr' bl'=>k ⟨fr',bl'⟩:=by
 unfold pJ aB8 e8
 rw [aAH]
 cases hb:lk bl none id with
 | none=>cases cC (xS ⟨fr,bl⟩) res <;> rfl
 | some b =>
  cases b with
  | outer cs =>
   simp only [M1,aEs]
   cases cC (xS ⟨fr,bl⟩) res with
   | none=>rfl
   | some vs =>
    simp only [Option.bind_some]
    cases vs with
    | nil=>rfl
    | cons v vs=>cases vs with
     | nil=>rfl
     | cons u vs =>
      rw [SV]
      show (if (v :: u :: vs).all V.noTup = true then some _ else none).bind k = _
      split <;> rfl
  | _=>cases cC (xS ⟨fr,bl⟩) res <;> rfl
def RU (dst:Option Nat) (res:List sI) (id:Nat) (slots:List Nat) (k:Ex->St->Option β):Ex->St->Option β
 | .normal,s=>(pJ dst res id slots s).bind fun s4=>k .normal s4
 | .ret,s=>(pJ dst res id slots s).bind fun s4=>k .normal s4
 | .exit _,_=>none
theorem aCd (dst:Option Nat) (res:List sI) (id:Nat) (slots:List Nat) (k:Ex->St->Option β):RU dst res id slots k .normal ⟨fr,bl⟩ = aB8 dst res id slots fr bl fun fr' bl'=>k .normal ⟨fr',bl'⟩:=O9 dst res id slots _
theorem aBd (dst:Option Nat) (res:List sI) (id:Nat) (slots:List Nat) (k:Ex->St->Option β):RU dst res id slots k .ret ⟨fr,bl⟩ = aB8 dst res id slots fr bl fun fr' bl'=>k .normal ⟨fr',bl'⟩:=O9 dst res id slots _
def EJ (keep:List Nat) (bl:List (Nat × Option aR)):List V->(List V->Option β)->Option β
 | [],k=>k []
 | v :: cs,k=>uR keep bl v fun v'=>EJ keep bl cs fun l=>k (v' :: l)
theorem V6 (keep:List Nat) (cs:List V):∀ (k:List V->Option β),EJ keep bl cs k = k (cs.map (EB keep (lk bl none))):=by
 induction cs with
 | nil=>intro k; rfl
 | cons v cs ih=>intro k; simp only [EJ,uR,ih,List.map_cons]
theorem T5 (keep:List Nat) (k:List V->Option β):EJ keep bl [] k = k []:=rfl
theorem Q5 (keep:List Nat) (v:V) (cs:List V) (k:List V->Option β):EJ keep bl (v :: cs) k = uR keep bl v fun v'=>EJ keep bl cs fun l=>k (v' :: l):=rfl
theorem M7 (keep:List Nat) (cs:List V) (k:Option aR->Option β):CY keep bl (some (.outer cs)) k = EJ keep bl cs fun l=>k (some (.outer l)):=by rw [V6]; rfl
end
section
variable {β:Type} {T:xU} {d:Nat} {fr:List (Nat × V)} {bl:List (Nat × Option aR)} {k:V->Option β} {kw:V->List (Nat × Option aR)->Option β}
noncomputable def l9 (T:xU) (d:Nat) (bl:List (Nat × Option aR)) (f:Nat) (ds:List D) (k:V->Option β) (kw:V->List (Nat × Option aR)->Option β):Option β:=match call T f ds with
 | some (.own x es rs)=>if C3 x rs = true then GQ (oL d (lk bl none) [] (.own x es rs)) k kw else none
 | _=>none
theorem X0 (f:Nat) (args:List eG):uB T d (.calln f args) fr bl k kw = HW fr bl args fun ds _=>l9 T d bl f ds k kw:=by
 rw [oJ,O8]
 simp only [eS]
 cases cC (fun x=>jM (lk bl none) (dY (lk fr .any) x)) args with
 | none=>rfl
 | some ds =>
  simp only [Option.bind_some,l9]
  cases call T f ds with
  | none=>rfl
  | some y =>
   cases y with
   | own x es rs=>simp only; split <;> rfl
   | _=>rfl
theorem WG (f:Nat) (args:List eG) (k:List Nat->Option β):GF d (.calln f args) fr bl k = CK fr bl args k:=by
 rw [MR]; rfl
theorem gH {x:D} {rs:List (List (List D))} (h1:VH x = true) (h2:rs.all qG = true):C3 x rs = true:=by simp only [C3,h1,h2,Bool.and_self]
theorem lW {r:List (List D)} {rs:List (List (List D))} (h1:qG r = true) (h2:rs.all qG = true):(r :: rs).all qG = true:=by simp only [List.all_cons,h1,h2,Bool.and_self]
theorem iC {α:Type} {f:Nat} {ds:List D} {o:Option α} {y:α->D} {p:Nat × Nat} {es:List (Nat × Nat)} {r:α->List (List D)} {rs:α->List (List (List D))} (h:call T f ds = o.map fun x=>.own (y x) (p :: es) (r x :: rs x)) (hn:∀ x,C3 (y x) (r x :: rs x) = true) :
  l9 T d bl f ds k kw = o.bind fun x=>T8 bl (hZ d 0 (p :: es) (r x :: rs x)) (kw (thaw d (y x)) (hZ d 0 (p :: es) (r x :: rs x))):=by
 unfold l9
 rw [h]
 cases o with
 | none=>rfl
 | some x =>
  simp only [Option.map_some,Option.bind_some,oL,P5,hn x,if_true,List.append_nil]
  split
  ·obtain ⟨e,s⟩:=p; rfl
  ·rfl
end
end Vm
end Go.Proofs.Ytjjcaapdaldedaa
namespace Go.Proofs.Ytjjcaapdaldedaa
namespace Vm
open Go.RowKit
section
variable {β:Type} {T:xU} {d:Nat} {fr:List (Nat × V)} {bl:List (Nat × Option aR)} {k:V->Option β} {kw:V->List (Nat × Option aR)->Option β}
def PM (b:Option aR) (x:Option β):Option β:=match b with
 | some (.box _)=>x
 | some (.fbox _)=>x
 | _=>none
theorem YR (cs:List V) (x:Option β):PM (some (.box cs)) x = x:=rfl
def aGf:Option aR->Bool
 | some (.box _)=>true
 | some (.fbox _)=>true
 | _=>false
theorem aBj (b:Option aR) (x:Option β):PM b x = if aGf b = true then x else none:=by
 cases b with
 | none=>rfl
 | some b=>cases b <;> rfl
def aB9 (v:V) (bl:List (Nat × Option aR)) (k:V->Option β):Option β:=match v with
 | .ptr id off=>e8 bl id fun b=>PM b (k (.ptr id off))
 | _=>none
theorem aCo (id off:Nat):aB9 (.ptr id off) bl k = e8 bl id fun b=>PM b (k (.ptr id off)):=rfl
def EN (fr:List (Nat × V)) (bl:List (Nat × Option aR)):List eG->(List V->Option β)->Option β
 | [],k=>k []
 | x :: l,k=>fB fr x fun v=>aB9 v bl fun u=>EN fr bl l fun us=>k (u :: us)
theorem SW (k:List V->Option β):EN fr bl [] k = k []:=rfl
theorem IL (x:eG) (l:List eG) (k:List V->Option β):EN fr bl (x :: l) k = fB fr x fun v=>aB9 v bl fun u=>EN fr bl l fun us=>k (u :: us):=rfl
theorem aE2 (v:V):aB9 v bl k = if HP (lk bl none) v = true then k v else none:=by
 cases v with
 | ptr id off =>
  show PM (lk bl none id) (k (.ptr id off)) = if HP (lk bl none) (.ptr id off) = true then _ else _
  have:HP (lk bl none) (.ptr id off) = aGf (lk bl none id):=by
   show (match lk bl none id with | some (.box _)=>true | some (.fbox _)=>true | _=>false) = aGf (lk bl none id)
   cases lk bl none id with
   | none=>rfl
   | some b=>cases b <;> rfl
  rw [this]
  exact aBj _ _
 | _=>rfl
theorem VO (l:List eG):∀ (k:List V->Option β),EN fr bl l k = if (l.map (dY (lk fr .any))).all (HP (lk bl none)) = true then k (l.map (dY (lk fr .any))) else none:=by
 induction l with
 | nil=>intro k; rfl
 | cons x l ih =>
  intro k
  rw [IL]
  unfold fB
  show aB9 (dY (lk fr .any) x) bl (fun u=>EN fr bl l fun us=>k (u :: us)) = _
  rw [aE2,List.map_cons,List.all_cons]
  cases HP (lk bl none) (dY (lk fr .any) x) with
  | false=>rfl
  | true =>
   rw [if_pos rfl,ih,Bool.true_and]
theorem VW (f:Nat) (caps:List eG):uB T d (.mkfnv f caps) fr bl k kw = EN fr bl caps fun vs=>k (.fn f vs):=by
 rw [VO]
 unfold uB
 simp only [eS]
 split
 ·rename_i h
  split at h
  ·cases h
  ·rename_i hc; rw [if_neg hc]
 ·rename_i v h
  split at h
  ·rename_i hc
   cases h
   rw [if_pos hc]
  ·cases h
 ·rename_i v p wr h
  split at h
  ·cases h
  ·cases h
def aBe (keep:List Nat) (id:Nat) (b:Option aR) (x y:Option β):Option β:=match b with
 | some (.box _)=>lK keep id x y
 | _=>y
theorem Z2 (keep:List Nat) (id:Nat) (cs:List V) (x y:Option β):aBe keep id (some (.box cs)) x y = lK keep id x y:=rfl
def aEL (keep:List Nat) (id:Nat):Option aR->Bool
 | some (.box _)=>keep.contains id
 | _=>false
theorem aEU (keep:List Nat) (id:Nat) (b:Option aR) (x y:Option β):aBe keep id b x y = if aEL keep id b = true then x else y:=by
 cases b with
 | none=>rfl
 | some b=>cases b <;> rfl
def fnK (keep:List Nat) (bl:List (Nat × Option aR)):List V->Option β->Option β->Option β
 | [],x,_=>x
 | .ptr id _ :: l,x,y=>e8 bl id fun b=>aBe keep id b (fnK keep bl l x y) y
 | _ :: _,_,y=>y
theorem aDs (keep:List Nat) (x y:Option β):fnK keep bl [] x y = x:=rfl
theorem UL (keep:List Nat) (id off:Nat) (l:List V) (x y:Option β):fnK keep bl (.ptr id off :: l) x y = e8 bl id fun b=>aBe keep id b (fnK keep bl l x y) y:=rfl
theorem aCg (keep:List Nat) (x y:Option β):∀ l:List V,fnK keep bl l x y = if l.all (U3 keep (lk bl none)) = true then x else y
 | []=>rfl
 | v :: l=>by
  rw [List.all_cons]
  cases v with
  | ptr id off =>
   rw [UL]
   show aBe keep id (lk bl none id) (fnK keep bl l x y) y = _
   have:U3 keep (lk bl none) (.ptr id off) = aEL keep id (lk bl none id):=by
    show (match lk bl none id with | some (.box _)=>keep.contains id | _=>false) = aEL keep id (lk bl none id)
    cases lk bl none id with
    | none=>rfl
    | some b=>cases b <;> rfl
   rw [aEU,aCg keep x y l,this]
   cases aEL keep id (lk bl none id) <;> rfl
  | _=>rfl
theorem aBF (keep:List Nat) (f:Nat) (vs:List V):uR keep bl (.fn f vs) k = fnK keep bl vs (k (.fn f vs)) (k .any):=by
 rw [aCg]
 unfold uR
 simp only [EB,L9,sO]
 split <;> rfl
theorem XN (keep:List Nat) (f:Nat) (vs cs:List V) (k:List V->Option β):wR keep bl (.fn f vs :: cs) k = uR keep bl (.fn f vs) fun v=>wR keep bl cs fun l=>k (v :: l):=by simp only [AP]; rfl
def KR (f nc:Nat) (v:V) (k:List V->Option β):Option β:=(zT f nc v).bind k
theorem WC (f nc g:Nat) (vs:List V) (k:List V->Option β):KR f nc (.fn g vs) k = if g = f ∧ vs.length = nc then k vs else none:=by
 unfold KR zT
 simp only
 split <;> rfl
def aHW (x:eG) (nc f:Nat) (args:List eG) (id:Nat) (slots:List Nat) (fr:List (Nat × V)) (bl:List (Nat × Option aR)) (k:List (Nat × V)->List (Nat × Option aR)->Option β):Option β :=
 fB fr x fun v=>KR f nc v fun caps=>e8 bl id fun b=>kW b (CC fr slots fun cs=>FS fr args fun vs=>k (rZ 0 (vs ++ caps)) ((id,some (.outer cs)) :: bl))
def aHP (x:eG) (nc f:Nat) (args:List eG) (id:Nat) (slots:List Nat) (s:St) (k:List (Nat × V)->List (Nat × Option aR)->Option β):Option β:=aHW x nc f args id slots s.fr s.bl k
theorem UA (x:eG) (nc f:Nat) (args:List eG) (id:Nat) (slots:List Nat) (k:List (Nat × V)->List (Nat × Option aR)->Option β):aHP x nc f args id slots ⟨fr,bl⟩ k = fB fr x fun v=>KR f nc v fun caps=>e8 bl id fun b=>kW b (CC fr slots fun cs=>FS fr args fun vs=>k (rZ 0 (vs ++ caps)) ((id,some (.outer cs)) :: bl)):=rfl
theorem aBE {k:Ex->St->Option β} (ops:List c9) (x:eG) (nc:Nat) (args:List eG) (dst:Option Nat) (f:Nat) (body:aZ) (res:List sI) (id:Nat) (slots:List Nat) (s:St) :
  eL T (.inlv ops x nc args dst f body res id slots) s k = tK T ops s fun s1=>(zT f nc (dY s1.get x)).bind fun caps=>(A4 (args.map (dY s1.get) ++ caps) id slots s1).bind fun s2=>eL T body s2 fun ex s3=>match ex with
   | .exit _=>none
   | _=>(pJ dst res id slots s3).bind fun s4=>k .normal s4:=by
 unfold eL tK
 rw [aEq]
 cases lD (call T) ops s with
 | none=>rfl
 | some s1 =>
  simp only [Option.bind_some]
  cases zT f nc (dY s1.get x) with
  | none=>rfl
  | some caps =>
   simp only [Option.bind_some]
   cases A4 (args.map (dY s1.get) ++ caps) id slots s1 with
   | none=>rfl
   | some s2 =>
    simp only [Option.bind_some]
    cases ev T body s2 with
    | none=>rfl
    | some q =>
     obtain ⟨e,s3⟩:=q
     cases e with
     | normal=>simp only [Option.bind_some]; cases pJ dst res id slots s3 <;> rfl
     | exit i=>rfl
     | ret=>simp only [Option.bind_some]; cases pJ dst res id slots s3 <;> rfl
theorem aAD {k:Ex->St->Option β} (ops:List c9) (x:eG) (nc:Nat) (args:List eG) (dst:Option Nat) (f:Nat) (body:aZ) (res:List sI) (id:Nat) (slots:List Nat) :
  eL T (.inlv ops x nc args dst f body res id slots) ⟨fr,bl⟩ k = tK T ops ⟨fr,bl⟩ fun s1=>aHP x nc f args id slots s1 fun fr' bl'=>eL T body ⟨fr',bl'⟩ (RU dst res id slots k):=by
 rw [aBE]
 congr 1
 funext s1
 obtain ⟨fr1,bl1⟩:=s1
 rw [UA]
 unfold fB KR
 show (zT f nc (dY (lk fr1 .any) x)).bind _ = (zT f nc (dY (lk fr1 .any) x)).bind _
 congr 1
 funext caps
 unfold A4 e8 kW
 rw [aAH]
 cases hb:lk bl1 none id with
 | some b=>rfl
 | none =>
  simp only [Option.isNone_none,if_true,Option.bind_some,Y2,OK]
  congr 1
  funext ex s3
  cases ex <;> rfl
end
end Vm
end Go.Proofs.Ytjjcaapdaldedaa
