/- The small machine, read from the front: slices that are laid out, calls, masks, answers. The small machine, read from the front: regions whose order is drawn. The small machine, read from the front: slices that are lent, cut, cleared. The small machine, read from the front: function values that hold boxes. -/
import Derived.Test.YtiimibimkpimbaaVmE
set_option linter.unusedVariables false
set_option linter.unusedSimpArgs false
namespace Go.Proofs.Ytiimibimkpimbaa
theorem zA.{u} {α:Type u} {a:α} {l:List α}:(a::l).length = l.length + 1:=rfl
theorem zB.{u} {α:Type u}:([]:List α).length = 0:=rfl
theorem zC:(!true) = false:=rfl
theorem zD:(!false) = true:=rfl
theorem zE.{u} {α:Type u} {n:Nat} {a:α}:List.replicate (n + 1) a = a::List.replicate n a:=rfl
theorem zF.{u} {α:Type u} {a:α}:List.replicate 0 a = []:=rfl
theorem zG.{u,v} {α:Type u} {β:Type v} (a:α) (f:α→Option β):(some a).bind f = f a:=rfl
theorem zH.{u,v} {α:Type u} {β:Type v} (a:α) (f:α→β):(some a).map f = some (f a):=rfl
theorem zI.{u,v} {α:Type u} {β:Type v} (f:α→β):(none:Option α).map f = none:=rfl
theorem zJ.{u,v,w} {α:Type u} {β:Type v} {γ:Sort w} (f:α→γ) (g:β→γ) (x:α):Sum.elim f g (Sum.inl x) = f x:=rfl
theorem zK.{u,v,w} {α:Type u} {β:Type v} {γ:Sort w} (f:α→γ) (g:β→γ) (x:β):Sum.elim f g (Sum.inr x) = g x:=rfl
theorem zL.{u,v,w} {α:Type u} {β:Type v} {γ:Type w} (x:Option α) (f:α→Option β) (g:β→Option γ):(x.bind f).bind g = x.bind fun y=>(f y).bind g:=Option.bind_assoc x f g
theorem zM.{u} {α:Type u} [BEq α] [ReflBEq α] (a:α):(a == a) = true:=beq_self_eq_true a
theorem zN:(¬False) = True:=not_false_eq_true
namespace Vm
open Go.RowKit
section
variable {β:Type} {T:u5} {d:Nat} {fr:List (Nat × V)} {bl:List (Nat × Option aK)} {k:V→Option β} {kw:V→List (Nat × Option aK)→Option β}
def B8 (bl:List (Nat × Option aK)):List V→(List D→List (Nat × Option aK)→Option β)→Option β
 | [],k=>k [] []
 | v :: cs,k=>(lQ (lk bl none) v).bind fun x=>B8 bl cs fun ds f=>k (x :: ds) (B4 (lk bl none) v ++ f)
theorem TE (cs:List V) (k:List D→List (Nat × Option aK)→Option β):B8 bl cs k = (bB (lQ (lk bl none)) cs).bind fun ds=>k ds (cs.flatMap (B4 (lk bl none))):=by
 induction cs generalizing k with
 | nil=>rfl
 | cons v cs ih =>
  simp only [B8,bB,ih,List.flatMap_cons]
  cases lQ (lk bl none) v with
  | none=>rfl
  | some x=>cases bB (lQ (lk bl none)) cs <;> rfl
def d1K (v:V) (bl:List (Nat × Option aK)) (k:D→List (Nat × Option aK)→Option β):Option β:=(lQ (lk bl none) v).bind fun x=>k x (B4 (lk bl none) v)
def d1B (id ver:Nat) (b:Option aK) (k:D→List (Nat × Option aK)→Option β):Option β:=match b with
 | some (.rows v _ _ rows)=>if ver = v then k (.sl rows) [(id,some (.froz v rows))] else none
 | some (.froz v rows)=>if ver = v then k (.sl rows) [] else none
 | _=>none
theorem aGw (id ver:Nat) (k:D→List (Nat × Option aK)→Option β):d1K (.own id ver) bl k = dG bl id fun b=>d1B id ver b k:=by
 unfold d1K dG d1B
 simp only [lQ,B4,rZ,DM]
 generalize lk bl none id = b
 cases b with
 | none=>rfl
 | some b=>cases b with
  | rows v e s rows=>simp only; by_cases h:ver = v <;> simp [h]
  | froz v rows=>simp only; by_cases h:ver = v <;> simp [h]
  | _=>rfl
theorem aDg (id v e s:Nat) (rows:List (List D)) (k:D→List (Nat × Option aK)→Option β):d1B id v (some (.rows v e s rows)) k = k (.sl rows) [(id,some (.froz v rows))]:=if_pos rfl
theorem aED (id v:Nat) (rows:List (List D)) (k:D→List (Nat × Option aK)→Option β):d1B id v (some (.froz v rows)) k = k (.sl rows) []:=if_pos rfl
def qS (bl:List (Nat × Option aK)):List V→(List D→List (Nat × Option aK)→Option β)→Option β
 | [],k=>k [] []
 | v :: cs,k=>(rZ (lk bl none) v).bind fun x=>qS bl cs fun ds f=>k (x :: ds) (DM (lk bl none) v ++ f)
theorem aAU (cs:List V) (k:List D→List (Nat × Option aK)→Option β):qS bl cs k = (bB (rZ (lk bl none)) cs).bind fun ds=>k ds (cs.flatMap (DM (lk bl none))):=by
 induction cs generalizing k with
 | nil=>rfl
 | cons v cs ih =>
  simp only [qS,bB,ih,List.flatMap_cons]
  cases rZ (lk bl none) v with
  | none=>rfl
  | some x=>cases bB (rZ (lk bl none)) cs <;> rfl
theorem VQ (k:List D→List (Nat × Option aK)→Option β):qS bl [] k = k [] []:=rfl
theorem aEb (x:D) (cs:List V) (k:List D→List (Nat × Option aK)→Option β):qS bl (.d x :: cs) k = qS bl cs fun ds f=>k (x :: ds) f:=rfl
theorem UV (id ver:Nat) (cs:List V) (k:List D→List (Nat × Option aK)→Option β):qS bl (.own id ver :: cs) k = d1K (.own id ver) bl fun x g=>qS bl cs fun ds f=>k (x :: ds) (g ++ f):=rfl
theorem MQ (ds:List D) (k:List D→List (Nat × Option aK)→Option β):qS bl (bQ ds) k = k ds []:=by
 have:∀ (ds:List D) (k:List D→List (Nat × Option aK)→Option β),qS bl (bQ ds) k = k ds []:=by
  intro ds
  induction ds with
  | nil=>intro k; rfl
  | cons x ds ih=>intro k; show qS bl (bQ ds) _ = _; rw [ih]; rfl
 exact this ds k
def d1P (id off:Nat) (b:Option aK) (bl:List (Nat × Option aK)) (k:D→List (Nat × Option aK)→Option β):Option β:=match b with
 | some (.box cs)=>qS bl cs fun ds f=>k (.ptr ds off) ((id,some (.fbox ds)) :: f)
 | some (.fbox ds)=>k (.ptr ds off) []
 | _=>none
theorem aFy (id off:Nat) (k:D→List (Nat × Option aK)→Option β):d1K (.ptr id off) bl k = dG bl id fun b=>d1P id off b bl k:=by
 unfold d1K dG d1P
 simp only [lQ,B4]
 cases lk bl none id with
 | none=>rfl
 | some b=>cases b with
  | box cs =>
   simp only [aAU]
   cases bB (rZ (lk bl none)) cs <;> rfl
  | _=>rfl
theorem aHX (id off:Nat) (c:V) (cs:List V) (k:D→List (Nat × Option aK)→Option β):d1P id off (some (.box (c :: cs))) bl k = qS bl (c :: cs) fun ds f=>k (.ptr ds off) ((id,some (.fbox ds)) :: f):=rfl
theorem W1 (id off:Nat) (ds:List D) (k:D→List (Nat × Option aK)→Option β):d1P id off (some (.box (bQ ds))) bl k = k (.ptr ds off) [(id,some (.fbox ds))]:=by
 show qS bl (bQ ds) _ = _
 rw [MQ]
theorem ZO (k:List D→List (Nat × Option aK)→Option β):B8 bl [] k = k [] []:=rfl
theorem aGA (x:D) (cs:List V) (k:List D→List (Nat × Option aK)→Option β):B8 bl (.d x :: cs) k = B8 bl cs fun ds f=>k (x :: ds) f:=rfl
theorem FQ (ds:List D) (k:List D→List (Nat × Option aK)→Option β):B8 bl (bQ ds) k = k ds []:=by
 have:∀ (ds:List D) (k:List D→List (Nat × Option aK)→Option β),B8 bl (bQ ds) k = k ds []:=by
  intro ds
  induction ds with
  | nil=>intro k; rfl
  | cons x ds ih=>intro k; show B8 bl (bQ ds) _ = _; rw [ih]; rfl
 exact this ds k
def xY (v:V) (bl:List (Nat × Option aK)) (k:D→List (Nat × Option aK)→Option β):Option β:=(i9 (lk bl none) v).bind fun x=>k x (sB (lk bl none) v)
theorem aI3 (x:D) (k:D→List (Nat × Option aK)→Option β):xY (.d x) bl k = k x []:=rfl
theorem aDK (k:D→List (Nat × Option aK)→Option β):xY .nil bl k = k (.sl []) []:=rfl
theorem aCT (id ver:Nat) (k:D→List (Nat × Option aK)→Option β):xY (.own id ver) bl k = d1K (.own id ver) bl k:=rfl
theorem RA (cs:List V) (k:D→List (Nat × Option aK)→Option β):xY (.agg cs) bl k = B8 bl cs fun ds f=>k (.agg ds) f:=by
 rw [TE]
 show ((bB (lQ (lk bl none)) cs).map D.agg).bind _ = _
 cases bB (lQ (lk bl none)) cs <;> rfl
theorem aBe (ds:List D) (k:D→List (Nat × Option aK)→Option β):xY (nS ds) bl k = k (.agg ds) []:=by
 show xY (.agg (bQ ds)) bl k = _
 rw [RA,FQ]
theorem aIB (x:D) (k:List D→List (Nat × Option aK)→Option β):O7 (.d x) bl k = k [x] []:=rfl
theorem SG (cs:List V) (k:List D→List (Nat × Option aK)→Option β):O7 (.agg cs) bl k = B8 bl cs k:=by
 rw [TE]
 show (match bB (lQ (lk bl none)) cs with | some row=>k row (cs.flatMap (B4 (lk bl none))) | none=>none) = _
 cases bB (lQ (lk bl none)) cs <;> rfl
theorem aAa (ds:List D) (k:List D→List (Nat × Option aK)→Option β):O7 (nS ds) bl k = k ds []:=by
 show O7 (.agg (bQ ds)) bl k = _
 rw [SG,FQ]
def R5 (rs:List (List D)) (i:Nat) (row:List D) (k:List (List D)→Option β):Option β:=if i < rs.length then k (rs.set i row) else none
theorem aIJ (r:List D) (rs:List (List D)) (row:List D) (k:List (List D)→Option β):R5 (r :: rs) 0 row k = k (row :: rs):=by simp [R5]
theorem aI4 (r:List D) (rs:List (List D)) (i:Nat) (row:List D) (k:List (List D)→Option β):R5 (r :: rs) (i + 1) row k = R5 rs i row fun l=>k (r :: l):=by
 unfold R5
 simp only [List.length_cons,List.set_cons_succ]
 by_cases h:i < rs.length
 ·rw [if_pos h,if_pos (by omega)]
 ·rw [if_neg h,if_neg (by omega)]
def bsF (fr:List (Nat × V)) (bl:List (Nat × Option aK)) (size:Nat) (rs:List (List D)):List (Nat × dH)→List (Nat × Option aK)→(List (List D)→List (Nat × Option aK)→Option β)→Option β
 | [],wr,k=>k rs wr
 | (i,x) :: r,wr,k=>dW fr x fun v=>O7 v bl fun row f=>sL row size (R5 rs i row fun rs'=>bsF fr bl size rs' r (wr ++ f) k)
theorem aFW (size:Nat) (rs:List (List D)) (wr:List (Nat × Option aK)) (k:List (List D)→List (Nat × Option aK)→Option β):bsF fr bl size rs [] wr k = k rs wr:=rfl
theorem aD2 (size:Nat) (rs:List (List D)) (i:Nat) (x:dH) (r:List (Nat × dH)) (wr:List (Nat × Option aK)) (k:List (List D)→List (Nat × Option aK)→Option β):bsF fr bl size rs ((i,x) :: r) wr k = dW fr x fun v=>O7 v bl fun row f=>sL row size (R5 rs i row fun rs'=>bsF fr bl size rs' r (wr ++ f) k):=rfl
theorem aIv (size:Nat) (parts:List (Nat × dH)):∀ (rs:List (List D)) (wr:List (Nat × Option aK)) (k:List (List D)→List (Nat × Option aK)→Option β),bsF fr bl size rs parts wr k = (kZ (lk bl none) size rs (parts.map fun p=>(p.1,cX (lk fr .any) p.2))).bind fun rs'=>k rs' (wr ++ parts.flatMap fun p=>sB (lk bl none) (cX (lk fr .any) p.2)):=by
 induction parts with
 | nil=>intro rs wr k; simp [bsF,kZ]
 | cons p r ih =>
  intro rs wr k
  obtain ⟨i,x⟩:=p
  simp only [bsF,dW,O7,List.map_cons,kZ,List.flatMap_cons]
  cases bB (lQ (lk bl none)) (cX (lk fr .any) x).cells with
  | none=>rfl
  | some row =>
   simp only [sL,R5]
   by_cases h1:row.length = size
   ·by_cases h2:i < rs.length
    ·rw [if_pos h1,if_pos h2,if_pos ⟨h1,h2⟩,ih,List.append_assoc]
    ·rw [if_pos h1,if_neg h2,if_neg (fun q=>h2 q.2)]; rfl
   ·rw [if_neg h1,if_neg (fun q=>h1 q.1)]; rfl
theorem J3 (e size n:Nat) (z:List D) (parts:List (Nat × dH)):tK T d (.buildSlice e size z n parts) fr bl k kw = dG bl d fun b=>i8 b (bsF fr bl size (List.replicate n z) parts [] fun rows wr=>NJ e rows fun rows=>kw (.own d 0) ((d,some (.rows 0 e size rows)) :: wr)):=by
 rw [kM]
 unfold dG i8 NJ
 simp only [eC,aIv,List.nil_append]
 cases lk bl none d with
 | some b=>rfl
 | none =>
  simp only
  have e1:(parts.map fun x=>match x with | (i,x)=>(i,cX (lk fr .any) x)) = parts.map fun p=>(p.1,cX (lk fr .any) p.2):=rfl
  have e2:(parts.flatMap fun x=>match x with | (_,x)=>sB (lk bl none) (cX (lk fr .any) x)) = parts.flatMap fun p=>sB (lk bl none) (cX (lk fr .any) p.2):=rfl
  rw [e1,e2]
  cases kZ (lk bl none) size (List.replicate n z) (parts.map fun p=>(p.1,cX (lk fr .any) p.2)) <;> rfl
theorem MR {α:Type} (e size bytes:Nat) (z:List D) (c:α→List D) (x:α) (hz:z = c x) (l cp:dH):tK T d (.makeSlice e size bytes z l cp) fr bl k kw = dG bl d fun b=>i8 b (dW fr l fun a=>dW fr cp fun b=>match a,b with
   | .d (.int _ n),.d (.int _ m)=>if 0 ≤ n ∧ n ≤ m ∧ (bytes:Int) * m ≤ 281474976710656 ∧ m ≤ 9223372036854775807 then kw (.own d 0) [(d,some (.rows 0 e size (cM c (List.replicate n.toNat x))))] else none
   | _,_=>none):=by
 subst hz
 rw [kM]
 unfold dG i8 dW
 simp only [eC,P9]
 generalize cX (lk fr .any) l = a
 generalize cX (lk fr .any) cp = b
 cases lk bl none d with
 | some b=>rfl
 | none =>
  simp only
  split
  ·rename_i n _ m
   simp only
   by_cases h:0 ≤ n ∧ n ≤ m ∧ (bytes:Int) * m ≤ 281474976710656 ∧ m ≤ 9223372036854775807
   ·rw [if_pos h,if_pos h]; rfl
   ·rw [if_neg h,if_neg h]; rfl
  ·rename_i h
   split
   ·rename_i n _ m
    exact absurd rfl (h _ _ _ _ rfl)
   ·rfl
def H6 (fr:List (Nat × V)) (bl:List (Nat × Option aK)):List dH→(List D→List (Nat × Option aK)→Option β)→Option β
 | [],k=>k [] []
 | x :: l,k=>dW fr x fun v=>xY v bl fun y f=>H6 fr bl l fun ds g=>k (y :: ds) (f ++ g)
theorem aAr (k:List D→List (Nat × Option aK)→Option β):H6 fr bl [] k = k [] []:=rfl
theorem VR (x:dH) (l:List dH) (k:List D→List (Nat × Option aK)→Option β):H6 fr bl (x :: l) k = dW fr x fun v=>xY v bl fun y f=>H6 fr bl l fun ds g=>k (y :: ds) (f ++ g):=rfl
theorem Q1 (l:List dH) (k:List D→List (Nat × Option aK)→Option β):H6 fr bl l k = (bB (fun x=>i9 (lk bl none) (cX (lk fr .any) x)) l).bind fun ds=>k ds (l.flatMap fun x=>sB (lk bl none) (cX (lk fr .any) x)):=by
 induction l generalizing k with
 | nil=>rfl
 | cons x l ih =>
  simp only [H6,dW,xY,bB,ih,List.flatMap_cons]
  cases i9 (lk bl none) (cX (lk fr .any) x) with
  | none=>rfl
  | some y=>cases bB (fun x=>i9 (lk bl none) (cX (lk fr .any) x)) l <;> rfl
def fzK (fz:List (Nat × Option aK)) (v:V) (k:V→Option β) (kw:V→List (Nat × Option aK)→Option β):Option β:=match fz with
 | []=>k v
 | p :: w=>kw v (p :: w)
theorem aFs (v:V):fzK [] v k kw = k v:=rfl
theorem aJt (l:List (Nat × Option aK)) (v:V):fzK ([] ++ l) v k kw = fzK l v k kw:=rfl
theorem aJp (p:Nat × Option aK) (w l:List (Nat × Option aK)) (v:V):fzK ((p :: w) ++ l) v k kw = kw v ((p :: w) ++ l):=rfl
noncomputable def fP (T:u5) (d:Nat) (bl:List (Nat × Option aK)) (f:Nat) (ds:List D) (fz:List (Nat × Option aK)) (k:V→Option β) (kw:V→List (Nat × Option aK)→Option β):Option β:=match call T f ds with
 | none=>none
 | some r=>zW (oF d (lk bl none) fz r) k kw
theorem aDi (f:Nat) (args:List dH):tK T d (.call f args) fr bl k kw = H6 fr bl args fun ds fz=>fP T d bl f ds fz k kw:=by
 rw [kM,Q1]
 simp only [eC]
 cases bB (fun x=>i9 (lk bl none) (cX (lk fr .any) x)) args with
 | none=>rfl
 | some ds =>
  simp only [Option.bind_some,fP]
  cases call T f ds <;> rfl
def D.calm:D→Bool
 | .own _ _ _=>false
 | _=>true
theorem YE {x:D} (h:x.calm = true):∀ y es rs,x ≠ .own y es rs:=fun y es rs e=>by rw [e] at h; cases h
theorem aAs {x:D} (h:EM x = true):x.calm = true:=by cases x <;> first | rfl | cases h
theorem cZ {α:Type} {f:Nat} {ds:List D} {o:Option α} {enc:α→D} (h:call T f ds = o.map enc) (hf:∀ x,EM (enc x) = true) (fz:List (Nat × Option aK)):fP T d bl f ds fz k kw = o.bind fun x=>k (toV (enc x)):=by
 unfold fP
 rw [h]
 cases o with
 | none=>rfl
 | some x=>simp only [Option.map_some,Option.bind_some]; rw [AK (YE (aAs (hf x))),if_pos (hf x)]; rfl
theorem A6 {α:Type} {f:Nat} {ds:List D} {o:Option α} {enc:α→D} (h:call T f ds = o.map enc) (hf:∀ x,EM (enc x) = false) (hc:∀ x,(enc x).calm = true) (fz:List (Nat × Option aK)):fP T d bl f ds fz k kw = o.bind fun x=>fzK fz (toV (enc x)) k kw:=by
 unfold fP
 rw [h]
 cases o with
 | none=>rfl
 | some x=>simp only [Option.map_some,Option.bind_some]; rw [AK (YE (hc x)),if_neg (by rw [hf x]; decide)]; cases fz <;> rfl
def SY (bl:List (Nat × Option aK)):List (Nat × Option aK)→Option β→Option β
 | [],x=>x
 | (i,_) :: l,x=>dG bl i fun b=>i8 b (SY bl l x)
theorem L2 (bl:List (Nat × Option aK)) (x:Option β):∀ (l:List (Nat × Option aK)),SY bl l x = if FH (lk bl none) l = true then x else none
 | []=>rfl
 | (i,b) :: l=>by
  cases h:lk bl none i <;> simp [SY,FH,dG,i8,L2 bl x l,h]
theorem rV {α:Type} {f:Nat} {ds:List D} {o:Option α} {y:α→D} {p:Nat × Nat} {es:List (Nat × Nat)} {r:α→List (List D)} {rs:α→List (List (List D))} (h:call T f ds = o.map fun x=>.own (y x) (p :: es) (r x :: rs x)) (fz:List (Nat × Option aK)) :
  fP T d bl f ds fz k kw = o.bind fun x=>SY bl (gJ d 0 (p :: es) (r x :: rs x)) (kw (thaw d (y x)) (gJ d 0 (p :: es) (r x :: rs x) ++ fz)):=by
 unfold fP
 rw [h]
 cases o with
 | none=>rfl
 | some x =>
  simp only [Option.map_some,Option.bind_some,oF,L2]
  split
  ·obtain ⟨e,s⟩:=p; rfl
  ·rfl
def JW (fr:List (Nat × V)) (bl:List (Nat × Option aK)):List dH→(List D→List (Nat × Option aK)→Option β)→Option β
 | [],k=>k [] []
 | x :: l,k=>dW fr x fun v=>d1K v bl fun y f=>JW fr bl l fun ds g=>k (y :: ds) (f ++ g)
theorem aAS (k:List D→List (Nat × Option aK)→Option β):JW fr bl [] k = k [] []:=rfl
theorem WF (x:dH) (l:List dH) (k:List D→List (Nat × Option aK)→Option β):JW fr bl (x :: l) k = dW fr x fun v=>d1K v bl fun y f=>JW fr bl l fun ds g=>k (y :: ds) (f ++ g):=rfl
theorem aEp (l:List dH) (k:List D→List (Nat × Option aK)→Option β):JW fr bl l k = (bB (fun x=>lQ (lk bl none) (cX (lk fr .any) x)) l).bind fun ds=>k ds (l.flatMap fun x=>B4 (lk bl none) (cX (lk fr .any) x)):=by
 induction l generalizing k with
 | nil=>rfl
 | cons x l ih =>
  simp only [JW,dW,d1K,bB,ih,List.flatMap_cons]
  cases lQ (lk bl none) (cX (lk fr .any) x) with
  | none=>rfl
  | some y=>cases bB (fun x=>lQ (lk bl none) (cX (lk fr .any) x)) l <;> rfl
theorem aCW (f:Nat) (caps:List dH):tK T d (.mkfn f caps) fr bl k kw = JW fr bl caps fun ds fz=>fzK fz (.d (.fn f ds)) k kw:=by
 rw [kM,aEp]
 simp only [eC]
 cases bB (fun x=>lQ (lk bl none) (cX (lk fr .any) x)) caps with
 | none=>rfl
 | some ds =>
  simp only [Option.bind_some]
  cases caps.flatMap fun x=>B4 (lk bl none) (cX (lk fr .any) x) <;> rfl
def IA (fr:List (Nat × V)) (bl:List (Nat × Option aK)) (caps:List D):List dH→(List D→List (Nat × Option aK)→Option β)→Option β
 | [],k=>k caps []
 | x :: l,k=>dW fr x fun v=>xY v bl fun y f=>IA fr bl caps l fun ds g=>k (y :: ds) (f ++ g)
theorem Y2 (caps:List D) (k:List D→List (Nat × Option aK)→Option β):IA fr bl caps [] k = k caps []:=rfl
theorem WD (caps:List D) (x:dH) (l:List dH) (k:List D→List (Nat × Option aK)→Option β):IA fr bl caps (x :: l) k = dW fr x fun v=>xY v bl fun y f=>IA fr bl caps l fun ds g=>k (y :: ds) (f ++ g):=rfl
theorem aCx (caps:List D) (l:List dH) (k:List D→List (Nat × Option aK)→Option β):IA fr bl caps l k = (bB (fun x=>i9 (lk bl none) (cX (lk fr .any) x)) l).bind fun ds=>k (ds ++ caps) (l.flatMap fun x=>sB (lk bl none) (cX (lk fr .any) x)):=by
 induction l generalizing k with
 | nil=>rfl
 | cons x l ih =>
  simp only [IA,dW,xY,bB,ih,List.flatMap_cons]
  cases i9 (lk bl none) (cX (lk fr .any) x) with
  | none=>rfl
  | some y=>cases bB (fun x=>i9 (lk bl none) (cX (lk fr .any) x)) l <;> rfl
noncomputable def XD (T:u5) (d:Nat) (v:V) (args:List dH) (fr:List (Nat × V)) (bl:List (Nat × Option aK)) (k:V→Option β) (kw:V→List (Nat × Option aK)→Option β):Option β:=match v with
 | .d (.fn f caps)=>IA fr bl caps args fun ds fz=>fP T d bl f ds fz k kw
 | _=>none
theorem aEj (f:Nat) (caps:List D) (args:List dH):XD T d (.d (.fn f caps)) args fr bl k kw = IA fr bl caps args fun ds fz=>fP T d bl f ds fz k kw:=rfl
theorem aBm (g:dH) (args:List dH):tK T d (.callv g args) fr bl k kw = dW fr g fun v=>XD T d v args fr bl k kw:=by
 rw [kM]
 unfold dW
 simp only [eC]
 generalize cX (lk fr .any) g = v
 cases v with
 | d x=>cases x with
  | fn f caps =>
   simp only [XD,aCx]
   cases bB (fun x=>i9 (lk bl none) (cX (lk fr .any) x)) args with
   | none=>rfl
   | some ds =>
    simp only [Option.bind_some,fP]
    cases call T f (ds ++ caps) <;> rfl
  | _=>rfl
 | _=>rfl
def aI2 (v:V) (i:Nat) (k:V→Option β):Option β:=match v with
 | .tup vs=>B7 vs i k
 | _=>none
theorem TJ (x:dH) (i:Nat):tK T d (.extract x i) fr bl k kw = dW fr x fun v=>aI2 v i k:=by
 unfold tK dW
 simp only [eC]
 generalize cX (lk fr .any) x = v
 cases v with
 | tup vs=>simp only [aI2,LB]; cases vs[i]? <;> rfl
 | _=>rfl
theorem aIr (vs:List V) (i:Nat):aI2 (.tup vs) i k = B7 vs i k:=rfl
def HJ (m:xS) (fr:List (Nat × V)) (bl:List (Nat × Option aK)) (k:List (Nat × V)→List (Nat × Option aK)→Option β):Option β:=k (m.app ⟨fr,bl⟩).fr (m.app ⟨fr,bl⟩).bl
theorem aFH {k:Ex→St→Option β} (m:xS) (a:aT):eG T (.pre m a) ⟨fr,bl⟩ k = HJ m fr bl fun fr' bl'=>eG T a ⟨fr',bl'⟩ k:=by
 rw [aF4]; rfl
theorem aHa {k:Ex→St→Option β} (m:xS):RN m k .normal ⟨fr,bl⟩ = HJ m fr bl fun fr' bl'=>k .normal ⟨fr',bl'⟩:=by
 rw [aFR]; rfl
def vR (keep:List Nat) (bl:List (Nat × Option aK)) (v:V) (k:V→Option β):Option β:=k (EF keep (lk bl none) v)
def J1 (keep:List Nat) (fr:List (Nat × V)) (bl:List (Nat × Option aK)):List Nat→(List (Nat × V)→Option β)→Option β
 | [],k=>k []
 | t :: r,k=>pM fr t fun v=>vR keep bl v fun v'=>J1 keep fr bl r fun l=>k ((t,v') :: l)
theorem aD7 (keep:List Nat) (l:List Nat):∀ (k:List (Nat × V)→Option β),J1 keep fr bl l k = k (l.map fun t=>(t,EF keep (lk bl none) (lk fr .any t))):=by
 induction l with
 | nil=>intro k; rfl
 | cons t l ih=>intro k; simp only [J1,pM,vR,ih,List.map_cons]
def AM (keep:List Nat) (bl:List (Nat × Option aK)) (b:Option aK) (k:Option aK→Option β):Option β:=k (b.bind (xN keep (lk bl none)))
def J2 (keep:List Nat) (bl:List (Nat × Option aK)):List Nat→(List (Nat × Option aK)→Option β)→Option β
 | [],k=>k []
 | i :: r,k=>dG bl i fun b=>AM keep bl b fun b'=>J2 keep bl r fun l=>k ((i,b') :: l)
theorem aB8 (keep:List Nat) (l:List Nat):∀ (k:List (Nat × Option aK)→Option β),J2 keep bl l k = k (l.map fun i=>(i,(lk bl none i).bind (xN keep (lk bl none)))):=by
 induction l with
 | nil=>intro k; rfl
 | cons t l ih=>intro k; simp only [J2,dG,AM,ih,List.map_cons]
theorem ZW (keep:List Nat) (k:List (Nat × V)→Option β):J1 keep fr bl [] k = k []:=rfl
theorem VD (keep:List Nat) (t:Nat) (r:List Nat) (k:List (Nat × V)→Option β):J1 keep fr bl (t :: r) k = pM fr t fun v=>vR keep bl v fun v'=>J1 keep fr bl r fun l=>k ((t,v') :: l):=rfl
theorem aBw (keep:List Nat) (k:List (Nat × Option aK)→Option β):J2 keep bl [] k = k []:=rfl
theorem U7 (keep:List Nat) (i:Nat) (r:List Nat) (k:List (Nat × Option aK)→Option β):J2 keep bl (i :: r) k = dG bl i fun b=>AM keep bl b fun b'=>J2 keep bl r fun l=>k ((i,b') :: l):=rfl
theorem aGx (live keep:List Nat) (k:List (Nat × V)→List (Nat × Option aK)→Option β):HJ ⟨live,keep,[],[],[],[]⟩ fr bl k = J1 keep fr bl live fun fr'=>J2 keep bl keep fun bl'=>k fr' bl':=by
 rw [aD7,aB8]; rfl
def kO (keep:List Nat) (i:Nat) (x y:Option β):Option β:=if keep.contains i = true then x else y
theorem M0 (i:Nat) (r:List Nat) (x y:Option β):kO (i :: r) i x y = x:=by simp [kO]
theorem LY (a i:Nat) (r:List Nat) (x y:Option β) (h:(i == a) = false):kO (a :: r) i x y = kO r i x y:=by
 unfold kO
 rw [List.contains_cons,h,Bool.false_or]
section
variable (keep:List Nat)
theorem aE9 (x:D):vR keep bl (.d x) k = k (.d x):=rfl
theorem aA4:vR keep bl .nil k = k .nil:=rfl
def O4 (keep:List Nat) (id off:Nat) (b:Option aK) (k:V→Option β):Option β:=match b with
 | some (.box _)=>kO keep id (k (.ptr id off)) (k .any)
 | some (.fbox ds)=>k (.d (.ptr ds off))
 | _=>k .any
theorem W9 (id off:Nat) (cs:List V):O4 keep id off (some (.box cs)) k = kO keep id (k (.ptr id off)) (k .any):=rfl
theorem S0 (id off:Nat) (ds:List D):O4 keep id off (some (.fbox ds)) k = k (.d (.ptr ds off)):=rfl
theorem aAT (id off:Nat):vR keep bl (.ptr id off) k = dG bl id fun b=>O4 keep id off b k:=by
 unfold vR dG O4
 simp only [EF,OJ,s8]
 generalize lk bl none id = b
 cases b with
 | none=>rfl
 | some b=>cases b with
  | box cs=>simp only [kO]; split <;> rfl
  | _=>rfl
def L3 (id ver:Nat) (b:Option aK) (k:V→Option β):Option β:=match b with
 | some (.rows v _ _ _)=>if (ver == v) = true then kO keep id (k (.own id 0)) (k .any) else k .any
 | some (.froz v rows)=>if ver = v then k (.d (.sl rows)) else k .any
 | _=>k .any
theorem Y9 (id ver:Nat):vR keep bl (.own id ver) k = dG bl id fun b=>L3 keep id ver b k:=by
 unfold vR dG L3 kO
 simp only [EF,OJ,s8]
 generalize lk bl none id = b
 cases b with
 | none=>rfl
 | some b=>cases b with
  | rows v e s rows=>simp only; cases (ver == v) <;> cases keep.contains id <;> rfl
  | froz v rows=>simp only; split <;> rfl
  | _=>rfl
theorem RV (id v e s:Nat) (rows:List (List D)):L3 keep id v (some (.rows v e s rows)) k = kO keep id (k (.own id 0)) (k .any):=by simp [L3]
theorem Q4 (id v:Nat) (rows:List (List D)):L3 keep id v (some (.froz v rows)) k = k (.d (.sl rows)):=if_pos rfl
def wK (keep:List Nat) (bl:List (Nat × Option aK)):List V→(List V→Option β)→Option β
 | [],k=>k []
 | v :: cs,k=>k (s8 keep (lk bl none) v :: cs.map (s8 keep (lk bl none)))
theorem yL (cs:List V) (k:List V→Option β):wK keep bl cs k = k (cs.map (s8 keep (lk bl none))):=by cases cs <;> rfl
theorem UP (k:List V→Option β):wK keep bl [] k = k []:=rfl
theorem aEH (x:D) (cs:List V) (k:List V→Option β):wK keep bl (.d x :: cs) k = wK keep bl cs fun l=>k (.d x :: l):=by simp only [yL]; rfl
theorem aDs (cs:List V) (k:List V→Option β):wK keep bl (.nil :: cs) k = wK keep bl cs fun l=>k (.nil :: l):=by simp only [yL]; rfl
theorem UZ (id ver:Nat) (cs:List V) (k:List V→Option β):wK keep bl (.own id ver :: cs) k = vR keep bl (.own id ver) fun v=>wK keep bl cs fun l=>k (v :: l):=by simp only [yL]; rfl
theorem P7 (ds:List D) (b:Nat→Option aK):(bQ ds).map (s8 keep b) = bQ ds:=by
 induction ds with
 | nil=>rfl
 | cons x ds ih=>show s8 keep b (.d x) :: (bQ ds).map (s8 keep b) = _; rw [ih]; rfl
theorem SB (k:Option aK→Option β):AM keep bl none k = k none:=rfl
theorem U0 (c:V) (cs:List V) (k:Option aK→Option β):AM keep bl (some (.box (c :: cs))) k = wK keep bl (c :: cs) fun l=>k (some (.box l)):=by rw [yL]; rfl
theorem MM (ds:List D) (k:Option aK→Option β):AM keep bl (some (.box (bQ ds))) k = k (some (.box (bQ ds))):=by
 show k (some (.box ((bQ ds).map (s8 keep (lk bl none))))) = _
 rw [P7]
theorem Q9 (v e s:Nat) (rows:List (List D)) (k:Option aK→Option β):AM keep bl (some (.rows v e s rows)) k = k (some (.rows 0 e s rows)):=rfl
end
def aKL (res:List mS):Ex→St→Option D
 | .normal,s=>match bB (qT s) res with
  | none=>none
  | some [v]=>i9 s.blk v
  | some vs=>toD s.blk (.tup vs)
 | .ret,s=>match bB (qT s) res with
  | none=>none
  | some [v]=>i9 s.blk v
  | some vs=>toD s.blk (.tup vs)
 | .exit _,_=>none
def ET (fr:List (Nat × V)) (bl:List (Nat × Option aK)):List mS→(List D→Option D)→Option D
 | [],k=>k []
 | .tmp t :: r,k=>pM fr t fun v=>xY v bl fun x _=>ET fr bl r fun l=>k (x :: l)
 | .cell t size isAgg :: r,k=>pM fr t fun p=>wE size isAgg p bl fun v=>xY v bl fun x _=>ET fr bl r fun l=>k (x :: l)
def HK:List D→Option D
 | [x]=>some x
 | l=>some (.tup l)
theorem LJ (size:Nat) (a:Bool) (p:V):wE size a p bl k = (FT size a p (lk bl none)).bind fun r=>k r.1:=by
 have h:=TS (T:=fun _=>none) (d:=0) (fr:=[]) (bl:=bl) (k:=k) (kw:=fun v _=>k v) size a (.c p)
 have e:dW [] (.c p) (fun v=>wE size a v bl k) = wE size a p bl k:=rfl
 rw [← e,← h,kM,BX]
 show zW (FT size a p (lk bl none)) k (fun v _=>k v) = _
 cases FT size a p (lk bl none) with
 | none=>rfl
 | some r=>obtain ⟨v,wr⟩:=r; cases wr <;> rfl
theorem EO (fr:List (Nat × V)) (bl:List (Nat × Option aK)):St.blk ⟨fr,bl⟩ = lk bl none:=rfl
theorem aFl (res:List mS):∀ (k:List D→Option D),ET fr bl res k = (bB (qT ⟨fr,bl⟩) res).bind fun vs=>(bB (i9 (lk bl none)) vs).bind k:=by
 induction res with
 | nil=>intro k; rfl
 | cons r res ih =>
  intro k
  cases r with
  | tmp t =>
   simp only [ET,pM,xY,ih,bB,qT,EU,EO]
   cases h1:bB (qT ⟨fr,bl⟩) res with
   | none =>
    simp only [Option.bind_none]
    cases i9 (lk bl none) (lk fr .any t) <;> rfl
   | some vs =>
    simp only [Option.bind_some,bB]
    cases i9 (lk bl none) (lk fr .any t) with
    | none=>rfl
    | some x=>cases bB (i9 (lk bl none)) vs <;> rfl
  | cell t size isAgg =>
   simp only [ET,pM,LJ,xY,ih,bB,qT,BX,EU,EO]
   cases FT size isAgg (lk fr .any t) (lk bl none) with
   | none=>rfl
   | some q =>
    obtain ⟨v,wr⟩:=q
    simp only [Option.bind_some]
    cases h1:bB (qT ⟨fr,bl⟩) res with
    | none =>
     simp only [Option.bind_none]
     cases i9 (lk bl none) v <;> rfl
    | some vs =>
     simp only [Option.bind_some,bB]
     cases i9 (lk bl none) v with
     | none=>rfl
     | some x=>cases bB (i9 (lk bl none)) vs <;> rfl
theorem YL (res:List mS):(match bB (qT ⟨fr,bl⟩) res with
  | none=>none
  | some [v]=>i9 (lk bl none) v
  | some vs=>toD (lk bl none) (.tup vs)) = ET fr bl res HK:=by
 rw [aFl]
 cases bB (qT ⟨fr,bl⟩) res with
 | none=>rfl
 | some vs =>
  simp only [Option.bind_some]
  cases vs with
  | nil=>rfl
  | cons v vs =>
   cases vs with
   | nil =>
    simp only [bB]
    cases i9 (lk bl none) v <;> rfl
   | cons w ws =>
    show (bB (i9 (lk bl none)) (v :: w :: ws)).map D.tup = _
    simp only [bB]
    cases i9 (lk bl none) v with
    | none=>rfl
    | some x=>cases i9 (lk bl none) w with
     | none=>rfl
     | some y=>cases bB (i9 (lk bl none)) ws <;> rfl
theorem aIR (res:List mS):aKL res .ret ⟨fr,bl⟩ = ET fr bl res HK:=YL res
theorem aEW (k:List D→Option D):ET fr bl [] k = k []:=rfl
theorem aD6 (t:Nat) (r:List mS) (k:List D→Option D):ET fr bl (.tmp t :: r) k = pM fr t fun v=>xY v bl fun x _=>ET fr bl r fun l=>k (x :: l):=rfl
theorem aAY (t size:Nat) (isAgg:Bool) (r:List mS) (k:List D→Option D):ET fr bl (.cell t size isAgg :: r) k = pM fr t fun p=>wE size isAgg p bl fun v=>xY v bl fun x _=>ET fr bl r fun l=>k (x :: l):=rfl
theorem aGy (x:D):HK [x] = some x:=rfl
theorem aFi (x y:D) (l:List D):HK (x :: y :: l) = some (.tup (x :: y :: l)):=rfl
theorem dZ {T:u5} {f np nt:Nat} {res:List mS} {body:aT} (hf:T f = some (.code ⟨np,nt,res,body,false,false⟩)) (ds:List D) (hl:ds.length = np) (hlt:hZ 0 ds = none):Vm.call T f ds = eG T body ⟨nT 0 ds,[]⟩ (aKL res):=by
 rw [TM hf ds hl hlt]
 unfold eG
 cases Vm.ev T body ⟨nT 0 ds,[]⟩ with
 | none=>rfl
 | some q =>
  obtain ⟨e,s⟩:=q
  cases e <;> rfl
def X1:List V→V
 | [v]=>v
 | vs=>.tup vs
def MH (fr:List (Nat × V)) (bl:List (Nat × Option aK)):List mS→(List V→Option D)→Option D
 | [],k=>k []
 | .tmp t :: r,k=>pM fr t fun v=>MH fr bl r fun l=>k (v :: l)
 | .cell t size isAgg :: r,k=>pM fr t fun p=>wE size isAgg p bl fun v=>MH fr bl r fun l=>k (v :: l)
theorem aHB (res:List mS):∀ (k:List V→Option D),MH fr bl res k = (bB (qT ⟨fr,bl⟩) res).bind k:=by
 induction res with
 | nil=>intro k; rfl
 | cons r res ih =>
  intro k
  cases r with
  | tmp t =>
   simp only [MH,pM,ih,bB,qT,EU]
   cases bB (qT ⟨fr,bl⟩) res <;> rfl
  | cell t size isAgg =>
   simp only [MH,pM,LJ,ih,bB,qT,BX,EU,EO]
   cases FT size isAgg (lk fr .any t) (lk bl none) with
   | none=>rfl
   | some q =>
    obtain ⟨v,wr⟩:=q
    simp only [Option.bind_some]
    cases bB (qT ⟨fr,bl⟩) res <;> rfl
def aKF (res:List mS):Ex→St→Option D
 | .normal,s=>match bB (qT s) res with
  | none=>none
  | some [v]=>tD s.blk v
  | some vs=>tD s.blk (.tup vs)
 | .ret,s=>match bB (qT s) res with
  | none=>none
  | some [v]=>tD s.blk v
  | some vs=>tD s.blk (.tup vs)
 | .exit _,_=>none
theorem aFL (res:List mS):(match bB (qT ⟨fr,bl⟩) res with
  | none=>none
  | some [v]=>tD (lk bl none) v
  | some vs=>tD (lk bl none) (.tup vs)) = MH fr bl res fun vs=>tD (lk bl none) (X1 vs):=by
 rw [aHB]
 cases bB (qT ⟨fr,bl⟩) res with
 | none=>rfl
 | some vs =>
  cases vs with
  | nil=>rfl
  | cons v vs=>cases vs <;> rfl
theorem aJq (res:List mS):aKF res .ret ⟨fr,bl⟩ = MH fr bl res fun vs=>tD (lk bl none) (X1 vs):=aFL res
theorem aC1 (k:List V→Option D):MH fr bl [] k = k []:=rfl
theorem aC3 (t:Nat) (r:List mS) (k:List V→Option D):MH fr bl (.tmp t :: r) k = pM fr t fun v=>MH fr bl r fun l=>k (v :: l):=rfl
theorem aFw (x:V):X1 [x] = x:=rfl
theorem aHy (x y:V) (l:List V):X1 (x :: y :: l) = .tup (x :: y :: l):=rfl
theorem F6 {T:u5} {f np nt:Nat} {res:List mS} {body:aT} (hf:T f = some (.code ⟨np,nt,res,body,true,false⟩)) (ds:List D) (hl:ds.length = np) (hlt:hZ 0 ds = none):Vm.call T f ds = eG T body ⟨nT 0 ds,[]⟩ (aKF res):=by
 rw [TM hf ds hl hlt]
 unfold eG
 cases Vm.ev T body ⟨nT 0 ds,[]⟩ with
 | none=>rfl
 | some q =>
  obtain ⟨e,s⟩:=q
  cases e <;> rfl
def aDh (v:V) (b:Option aK) (x y:Option β):Option β:=match v,b with
 | .nil,none=>x
 | _,_=>y
theorem aID (x y:Option β):aDh .nil none x y = x:=rfl
theorem aER (i v:Nat) (b:Option aK) (x y:Option β):aDh (.own i v) b x y = y:=rfl
theorem aHT (live keep:List Nat) (t i e s:Nat) (l:List (Nat × Nat × Nat × Nat)) (c:List (Nat × Nat × Nat × Nat × Nat)) (ft:List Nat) (fc:List (Nat × Nat)) (k:List (Nat × V)→List (Nat × Option aK)→Option β) (hs:0 < s) :
  HJ ⟨live,keep,(t,i,e,s) :: l,c,ft,fc⟩ fr bl k = pM fr t fun v=>dG bl i fun b=>aDh v b (NJ e [] fun rows=>HJ ⟨live,keep,l,c,ft,fc⟩ ((t,.own i 0) :: fr) ((i,some (.rows 0 e s rows)) :: bl) k) (HJ ⟨live,keep,l,c,ft,fc⟩ fr bl k):=by
 show HJ ⟨live,keep,(t,i,e,s) :: l,c,ft,fc⟩ fr bl k = aDh (lk fr .any t) (lk bl none i) _ _
 unfold HJ
 rw [aLb]
 unfold mkT NJ
 show k (xS.app ⟨live,keep,l,c,ft,fc⟩ (match lk fr .any t,lk bl none i with | .nil,none=>if 0 < s then _ else _ | _,_=>_)).fr (xS.app ⟨live,keep,l,c,ft,fc⟩ (match lk fr .any t,lk bl none i with | .nil,none=>if 0 < s then _ else _ | _,_=>_)).bl = _
 generalize lk fr .any t = v
 generalize lk bl none i = b
 cases v with
 | nil=>cases b with
  | none=>simp only [aDh,if_pos hs]
  | some b=>rfl
 | _=>rfl
theorem US (k:List (Nat × Nat × V)→Option β):EW fr [] k = k []:=rfl
theorem SE (o s:Nat) (x:dH) (l:List (Nat × Nat × dH)) (k:List (Nat × Nat × V)→Option β):EW fr ((o,s,x) :: l) k = dW fr x fun v=>EW fr l fun vs=>k ((o,s,v) :: vs):=rfl
theorem ZF (l:List (Nat × Nat × dH)):∀ (k:List (Nat × Nat × V)→Option β),EW fr l k = k (l.map fun p=>(p.1,p.2.1,cX (lk fr .any) p.2.2)):=by
 induction l with
 | nil=>intro k; rfl
 | cons p l ih=>intro k; obtain ⟨o,s,x⟩:=p; simp only [EW,dW,ih,List.map_cons]
def LU (z:List V):List (Nat × Nat × V)→(List V→Option β)→Option β
 | [],k=>k z
 | (off,size,v) :: r,k=>AY v fun cs=>F8 cs size (tR z off cs fun z'=>LU z' r k)
theorem aAt (z:List V) (k:List V→Option β):LU z [] k = k z:=rfl
theorem WR (z:List V) (off size:Nat) (v:V) (r:List (Nat × Nat × V)) (k:List V→Option β):LU z ((off,size,v) :: r) k = AY v fun cs=>F8 cs size (tR z off cs fun z'=>LU z' r k):=rfl
theorem aD4 (ps:List (Nat × Nat × V)):∀ (z:List V) (k:List V→Option β),LU z ps k = (CI z ps).bind k:=by
 induction ps with
 | nil=>intro z k; rfl
 | cons p r ih =>
  intro z k
  obtain ⟨off,size,v⟩:=p
  simp only [LU,CI,AY,F8,tR,ih]
  by_cases h1:v.known = true
  ·by_cases h2:v.cells.length = size
   ·subst h2
    by_cases h3:off + v.cells.length ≤ z.length
    ·rw [if_pos h1,if_pos rfl,if_pos h3,if_pos ⟨rfl,h3,h1⟩]
    ·rw [if_pos h1,if_pos rfl,if_neg h3,if_neg (fun q=>h3 q.2.1)]; rfl
   ·rw [if_pos h1,if_neg h2,if_neg (fun q=>h2 q.1)]; rfl
  ·rw [if_neg h1,if_neg (fun q=>h1 q.2.2)]; rfl
theorem Z8 (z:List V) (parts:List (Nat × Nat × dH)):tK T d (.build z parts) fr bl k kw = EW fr parts fun ps=>LU z ps fun cs=>k (.agg cs):=by
 rw [kM,ZF,aD4]
 simp only [eC]
 have e1:(parts.map fun x=>match x with | (o,s,x)=>(o,s,cX (lk fr .any) x)) = parts.map fun p=>(p.1,p.2.1,cX (lk fr .any) p.2.2):=rfl
 rw [e1]
 cases CI z (parts.map fun p=>(p.1,p.2.1,cX (lk fr .any) p.2.2)) <;> rfl
theorem aJ (ds:List D):(bQ ds).length = ds.length:=by simp [bQ]
def aFg (bytes:Nat) (a b:V) (x:Nat→Option β):Option β:=match a,b with
 | .d (.int _ n),.d (.int _ m)=>if 0 ≤ n ∧ n ≤ m ∧ (bytes:Int) * m ≤ 281474976710656 ∧ m ≤ 9223372036854775807 then x n.toNat else none
 | _,_=>none
theorem aIx (bytes:Nat) (i j:IntKind) (n m:Int) (x:Nat→Option β):aFg bytes (.d (.int i n)) (.d (.int j m)) x = if 0 ≤ n ∧ n ≤ m ∧ (bytes:Int) * m ≤ 281474976710656 ∧ m ≤ 9223372036854775807 then x n.toNat else none:=rfl
theorem aIf {α:Type} (e size bytes:Nat) (z:List D) (c:α→List D) (x:α) (hz:z = c x) (l cp:dH):tK T d (.makeSlice e size bytes z l cp) fr bl k kw = dG bl d fun b=>i8 b (dW fr l fun a=>dW fr cp fun b=>aFg bytes a b fun n=>kw (.own d 0) [(d,some (.rows 0 e size (cM c (List.replicate n x))))]):=MR e size bytes z c x hz l cp
theorem aCu {k:Ex→St→Option β} (c:dH) (a b:aT):eG T (.cond c a b) ⟨fr,bl⟩ k = dW fr c fun v=>QU v (eG T a ⟨fr,bl⟩ k) (eG T b ⟨fr,bl⟩ k):=aDm c a b _
theorem aHP (a b c:List (Nat × Option aK)) (t:Nat) (k:Option aK→Option β):dG ((a ++ b) ++ c) t k = dG (a ++ (b ++ c)) t k:=by rw [List.append_assoc]
def YA (rows:List (List D)) (k:V→Option β):Option β:=k (.d (.int .i64 rows.length))
theorem aHO {α:Type} (c:α→List D) (xs:List α):YA (cM c xs) k = k (.d (.int .i64 (xs.length:Int))):=by unfold YA; rw [aL]
theorem aHr:YA [] k = k (.d (.int .i64 0)):=rfl
theorem aF2 (x:dH):tK T d (.len x) fr bl k kw = dW fr x fun a=>EH a bl fun rows=>YA rows k:=aGt x
end
end Vm
end Go.Proofs.Ytiimibimkpimbaa
set_option linter.unusedVariables false
set_option linter.unusedSimpArgs false
namespace Go.Proofs.Ytiimibimkpimbaa
namespace Vm
open Go.RowKit
section
variable {β:Type} {T:u5}
def GN (d:Nat) (op:i7) (fr:List (Nat × V)) (bl:List (Nat × Option aK)) (k:List Nat→Option β):Option β :=
 k ((if op.new = true then [d] else []) ++ ((op.peeks.flatMap fun x=>(cX (lk fr .any) x).ids) ++ op.deeps.flatMap fun x=>(cX (lk fr .any) x).dids (lk bl none)))
def FV (wr:List (Nat × Option aK)) (k:List Nat→Option β):Option β:=k (wr.map (·.1))
theorem aAy (k:List Nat→Option β):FV [] k = k []:=rfl
theorem aFK (i:Nat) (b:Option aK) (w:List (Nat × Option aK)) (k:List Nat→Option β):FV ((i,b) :: w) k = FV w fun l=>k (i :: l):=rfl
theorem aEK (w:List (Nat × Option aK)) (k:List Nat→Option β):FV ([] ++ w) k = FV w k:=rfl
theorem aEi (p:Nat × Option aK) (v w:List (Nat × Option aK)) (k:List Nat→Option β):FV ((p :: v) ++ w) k = FV (p :: (v ++ w)) k:=rfl
theorem VO (d st:Nat) (op:i7) (l:List bK) (fr:List (Nat × V)) (bl:List (Nat × Option aK)) (fp:List Fp) (k:St→List Fp→Option β) :
  mN T (⟨some d,op,none,st⟩ :: l) ⟨fr,bl⟩ fp k = tK T st op fr bl (fun v=>GN st op fr bl fun f=>mN T l ⟨(d,v) :: fr,bl⟩ ((f,[]) :: fp) k) (fun v wr=>FV wr fun ws=>GN st op fr bl fun f=>mN T l ⟨(d,v) :: fr,wr ++ bl⟩ ((f,ws) :: fp) k):=by
 rw [KR]
 unfold tK E8 GN
 show (match eC (call T) st (cX (lk fr .any)) (lk bl none) op with | some (v,wr)=>_ | none=>none) = _
 cases eC (call T) st (cX (lk fr .any)) (lk bl none) op with
 | none=>rfl
 | some r=>obtain ⟨v,wr⟩:=r; cases wr <;> rfl
theorem SM (st:Nat) (op:i7) (l:List bK) (fr:List (Nat × V)) (bl:List (Nat × Option aK)) (fp:List Fp) (k:St→List Fp→Option β) :
  mN T (⟨none,op,none,st⟩ :: l) ⟨fr,bl⟩ fp k = tK T st op fr bl (fun _=>GN st op fr bl fun f=>mN T l ⟨fr,bl⟩ ((f,[]) :: fp) k) (fun _ wr=>FV wr fun ws=>GN st op fr bl fun f=>mN T l ⟨fr,wr ++ bl⟩ ((f,ws) :: fp) k):=by
 rw [KR]
 unfold tK E8 GN
 show (match eC (call T) st (cX (lk fr .any)) (lk bl none) op with | some (v,wr)=>_ | none=>none) = _
 cases eC (call T) st (cX (lk fr .any)) (lk bl none) op with
 | none=>rfl
 | some r=>obtain ⟨v,wr⟩:=r; cases wr <;> rfl
theorem aBD (fr:List (Nat × V)) (bl:List (Nat × Option aK)) (fp:List Fp) (k:St→List Fp→Option β):mN T [] ⟨fr,bl⟩ fp k = k ⟨fr,bl⟩ fp:=rfl
theorem aHm {l:List bK} {ps:List (Nat × Nat)} {s:St} {fp:List Fp} (k:St→Option β) (h:FI l fp.reverse ps = true):aFu l ps k s fp = k s:=if_pos h
theorem z8 {d:Option Nat} {st:Nat} {g g' : Option (Nat × Bool)} {fr:Nat→V} {bl:Nat→Option aK} {wr:List (Nat × Option aK)} (t:Nat) (b:Bool) (op:i7):tT ⟨d,b8 t b op,g,st⟩ fr bl wr = tT ⟨d,op,g',st⟩ fr bl wr:=by
 cases op with
 | pick c x y =>
  cases c with
  | t t' =>
   simp only [b8]
   split <;> rfl
  | c v=>rfl
 | _=>rfl
theorem XI {C:Nat→List D→Option D} {s:St} {t:Nat} {b:Bool} (h:s.get t = .d (.bool b)) (o:bK):jN C (b7 t b o) s = jN C o s:=by
 obtain ⟨d,op,g,st⟩:=o
 cases g with
 | some g =>
  obtain ⟨t',w⟩:=g
  simp only [b7]
  split
  ·rename_i e
   subst e
   split
   ·rename_i e
    subst e
    simp only [jN,bK.wants,h,v8 h]
    cases w <;> simp only [uX] <;> cases eC C st (cX s.get) s.blk op <;> first | rfl | (simp [z8 (g':=some (t',false)),z8 (g':=some (t',true))]; done) | (simp [z8 (g':=some (t',false)),z8 (g':=some (t',true))]; rfl)
   ·rename_i e
    simp only [jN,bK.wants,h,eC,cX]
    cases w <;> cases b <;> simp_all [uX,tT,i7.new,i7.peeks,i7.deeps]
  ·simp only [jN,bK.wants,v8 h]
   cases uX (s.get t') w <;> simp only [] <;> cases eC C st (cX s.get) s.blk op <;> simp [z8 (g':=some (t',w))]
 | none =>
  simp only [b7,jN,bK.wants,v8 h]
  cases eC C st (cX s.get) s.blk op <;> simp [z8 (g':=none)]
theorem VC {C:Nat→List D→Option D} {o:bK} {s s' : St} {p:Fp} {t:Nat} (h:¬ o.dst = some t) (e:jN C o s = some (s',p)):s'.get t = s.get t:=by
 unfold jN at e
 split at e
 ·split at e
  ·cases e; exact A0 h
  ·cases e
 ·cases e; exact A0 h
 ·cases e
theorem EL {t:Nat} {b:Bool}:∀ (l:List bK) {s:St} (fp:List Fp) (k:St→List Fp→Option β) (h:s.get t = .d (.bool b)),mN T (bY t b l) s fp k = mN T l s fp k
 | [],s,fp,k,h=>rfl
 | o :: l,s,fp,k,h=>by
  simp only [bY,mN,XI h]
  cases e:jN (call T) o s with
  | none=>rfl
  | some q =>
   obtain ⟨s',p⟩:=q
   simp only
   split
   ·rfl
   ·rename_i hd
    exact EL l _ k (by rw [VC hd e]; exact h)
noncomputable def DK (T:u5) (v:V) (t:Nat) (l:List bK) (s:St) (fp:List Fp) (k:St→List Fp→Option β):Option β:=match v with
 | .d (.bool b)=>if b = true then mN T (bY t true l) s fp k else mN T (bY t false l) s fp k
 | .tup []=>match l with
  | o :: r=>mN T r (s.put o.dst (.tup []) []) (([],[]) :: fp) k
  | []=>none
 | _=>none
theorem S3 (d:Option Nat) (op:i7) (t:Nat) (w:Bool) (st:Nat) (l:List bK) (fr:List (Nat × V)) (bl:List (Nat × Option aK)) (fp:List Fp) (k:St→List Fp→Option β) :
  mN T (⟨d,op,some (t,w),st⟩ :: l) ⟨fr,bl⟩ fp k = pM fr t fun v=>DK T v t (⟨d,op,some (t,w),st⟩ :: l) ⟨fr,bl⟩ fp k:=by
 show _ = DK T (lk fr .any t) t _ _ fp k
 generalize hv:lk fr .any t = v
 have bad:∀ (q:uX v w = .bad),mN T (⟨d,op,some (t,w),st⟩ :: l) ⟨fr,bl⟩ fp k = none:=by
  intro q
  simp only [mN,jN,bK.wants]
  rw [show (St.get ⟨fr,bl⟩ t) = v from hv,q]
 cases v with
 | d x =>
  cases x with
  | bool b =>
   simp only [DK]
   cases b with
   | true=>rw [if_pos rfl,EL (t:=t) (b:=true) (s:=⟨fr,bl⟩) _ _ _ hv]
   | false=>rw [if_neg (by decide),EL (t:=t) (b:=false) (s:=⟨fr,bl⟩) _ _ _ hv]
  | _=>exact bad rfl
 | tup vs =>
  cases vs with
  | nil =>
   simp only [DK,mN,jN,bK.wants]
   rw [show (St.get ⟨fr,bl⟩ t) = _ from hv]
   rfl
  | cons x l=>exact bad rfl
 | _=>exact bad rfl
theorem ZY (b:Bool) (t:Nat) (l:List bK) (s:St) (fp:List Fp) (k:St→List Fp→Option β):DK T (.d (.bool b)) t l s fp k = if b = true then mN T (bY t true l) s fp k else mN T (bY t false l) s fp k:=rfl
theorem aAp (t d st:Nat) (op:i7) (g:Option (Nat × Bool)) (l:List bK) (fr:List (Nat × V)) (bl:List (Nat × Option aK)) (fp:List Fp) (k:St→List Fp→Option β):DK T (.tup []) t (⟨some d,op,g,st⟩ :: l) ⟨fr,bl⟩ fp k = mN T l ⟨(d,.tup []) :: fr,bl⟩ (([],[]) :: fp) k:=rfl
theorem xD {l l' : List bK} {s:St} {fp:List Fp} {k:St→List Fp→Option β} (h:l = l'):mN T l s fp k = mN T l' s fp k:=by rw [h]
theorem aHF (x:D) (ds:List D) (k:D→Option β):hU (x :: ds) 0 k = k x:=rfl
section
variable {d:Nat} {fr:List (Nat × V)} {bl:List (Nat × Option aK)} {k:List Nat→Option β}
def CF (v:V) (k:List Nat→Option β):Option β:=k v.ids
theorem aJz (x:D):CF (.d x) k = k []:=rfl
theorem aDy (i o:Nat):CF (.ptr i o) k = k [i]:=rfl
theorem aDw (i o:Nat):CF (.own i o) k = k [i]:=rfl
theorem aBu (i v j o:Nat):CF (.orow i v j o) k = k [i]:=rfl
def KS (bl:List (Nat × Option aK)):List V→(List Nat→Option β)→Option β
 | [],k=>k []
 | c :: cs,k=>k (c.dids1 (lk bl none) ++ cs.flatMap (V.dids1 (lk bl none)))
def C0 (bl:List (Nat × Option aK)) (v:V) (k:List Nat→Option β):Option β:=k (v.dids (lk bl none))
theorem OS (cs:List V):KS bl cs k = k (cs.flatMap (V.dids1 (lk bl none))):=by cases cs <;> rfl
theorem VE:KS bl [] k = k []:=rfl
theorem aCU (x:D) (cs:List V):KS bl (.d x :: cs) k = KS bl cs k:=by simp only [OS]; rfl
theorem aGM (x:D):C0 bl (.d x) k = k []:=rfl
theorem ZP (i o:Nat):C0 bl (.own i o) k = k [i]:=rfl
theorem aAj (cs:List V):C0 bl (.agg cs) k = KS bl cs k:=by rw [OS]; rfl
theorem TK (ds:List D):(bQ ds).flatMap (V.dids1 (lk bl none)) = []:=by
 induction ds with
 | nil=>rfl
 | cons x ds ih=>exact ih
theorem V9 (ds:List D):C0 bl (nS ds) k = k []:=by
 show k ((bQ ds).flatMap (V.dids1 (lk bl none))) = _
 rw [TK]
theorem aBT (x:dH):GN d (.move x) fr bl k = k []:=rfl
theorem aBC (z:List V):GN d (.alloc z) fr bl k = k [d]:=rfl
theorem aAC (z:List V) (ps:List (Nat × Nat × dH)):GN d (.build z ps) fr bl k = k []:=rfl
theorem fp1 (l:List Nat):([]:List Nat) ++ ((l ++ []) ++ []) = l:=by simp
theorem aDA (s:Nat) (a:Bool) (x:dH):GN d (.load s a x) fr bl k = dW fr x fun v=>CF v k:=by
 show k ([] ++ (((cX (lk fr .any) x).ids ++ []) ++ [])) = _
 rw [fp1]; rfl
theorem QK (x:dH):GN d (.nilCheck x) fr bl k = dW fr x fun v=>CF v k:=by
 show k ([] ++ (((cX (lk fr .any) x).ids ++ []) ++ [])) = _
 rw [fp1]; rfl
theorem M5 (o:Nat) (x:dH):GN d (.fieldAddr o x) fr bl k = dW fr x fun v=>CF v k:=by
 show k ([] ++ (((cX (lk fr .any) x).ids ++ []) ++ [])) = _
 rw [fp1]; rfl
theorem aBa (s:Nat) (x:dH) (lo hi:Option dH):GN d (.slice s x lo hi) fr bl k = dW fr x fun v=>CF v k:=by
 show k ([] ++ (((cX (lk fr .any) x).ids ++ []) ++ [])) = _
 rw [fp1]; rfl
theorem MV (s:Nat) (x i:dH):GN d (.indexAddr s x i) fr bl k = dW fr x fun v=>CF v k:=by
 show k ([] ++ (((cX (lk fr .any) x).ids ++ []) ++ [])) = _
 rw [fp1]; rfl
theorem aAB (s:Nat) (x v:dH):GN d (.store s x v) fr bl k = dW fr x fun a=>CF a fun l=>dW fr v fun b=>C0 bl b fun m=>k (l ++ m):=by
 show k ([] ++ (((cX (lk fr .any) x).ids ++ []) ++ ((cX (lk fr .any) v).dids (lk bl none) ++ []))) = _
 rw [List.nil_append,List.append_nil,List.append_nil]; rfl
theorem WE (e s b:Nat) (x y:dH):GN d (.append e s b x y) fr bl k = dW fr x fun u=>CF u fun l=>dW fr y fun v=>CF v fun m=>k (d :: (l ++ m)):=by
 show k ([d] ++ (((cX (lk fr .any) x).ids ++ ((cX (lk fr .any) y).ids ++ [])) ++ [])) = _
 rw [List.append_nil,List.append_nil]; rfl
def CL (fr:List (Nat × V)) (bl:List (Nat × Option aK)):List dH→(List Nat→Option β)→Option β
 | [],k=>k []
 | x :: l,k=>dW fr x fun v=>C0 bl v fun m=>CL fr bl l fun n=>k (m ++ n)
theorem OV (l:List dH):∀ (k:List Nat→Option β),CL fr bl l k = k (l.flatMap fun x=>(cX (lk fr .any) x).dids (lk bl none)):=by
 induction l with
 | nil=>intro k; rfl
 | cons x l ih=>intro k; simp only [CL,dW,C0,ih,List.flatMap_cons]
theorem U9 (k:List Nat→Option β):CL fr bl [] k = k []:=rfl
theorem RK (x:dH) (l:List dH) (k:List Nat→Option β):CL fr bl (x :: l) k = dW fr x fun v=>C0 bl v fun m=>CL fr bl l fun n=>k (m ++ n):=rfl
theorem aCm (f:Nat) (args:List dH):GN d (.call f args) fr bl k = CL fr bl args k:=by
 rw [OV]; rfl
theorem Z1 (g:dH) (args:List dH):GN d (.callv g args) fr bl k = CL fr bl args k:=by
 rw [OV]; rfl
def EY (fr:List (Nat × V)) (bl:List (Nat × Option aK)):List (Nat × dH)→(List Nat→Option β)→Option β
 | [],k=>k []
 | (_,x) :: l,k=>dW fr x fun v=>C0 bl v fun m=>EY fr bl l fun n=>k (m ++ n)
theorem aA2 (l:List (Nat × dH)):∀ (k:List Nat→Option β),EY fr bl l k = k ((l.map fun p=>p.2).flatMap fun x=>(cX (lk fr .any) x).dids (lk bl none)):=by
 induction l with
 | nil=>intro k; rfl
 | cons x l ih=>intro k; obtain ⟨i,x⟩:=x; simp only [EY,dW,C0,ih,List.map_cons,List.flatMap_cons]
theorem VZ (k:List Nat→Option β):EY fr bl [] k = k []:=rfl
theorem Q0 (i:Nat) (x:dH) (l:List (Nat × dH)) (k:List Nat→Option β):EY fr bl ((i,x) :: l) k = dW fr x fun v=>C0 bl v fun m=>EY fr bl l fun n=>k (m ++ n):=rfl
theorem LM (e s n:Nat) (z:List D) (ps:List (Nat × dH)):GN d (.buildSlice e s z n ps) fr bl k = EY fr bl ps fun l=>k (d :: l):=by
 rw [aA2]; rfl
theorem aHV (c:Nat) (op:BinOp) (x y:dH):GN d (.bin c op x y) fr bl k = k []:=rfl
theorem aHx (ks:List Nat) (n:Bool) (x y:dH):GN d (.eqS ks n x y) fr bl k = k []:=rfl
theorem aJd (op:UnOp) (x:dH):GN d (.un op x) fr bl k = k []:=rfl
theorem TA (x:dH) (i:Nat):GN d (.extract x i) fr bl k = k []:=rfl
theorem aDf {k:Ex→St→Option β} (l:List bK) (ps:List (Nat × Nat)):eG T (.region l (some ps)) ⟨fr,bl⟩ k = mN T l ⟨fr,bl⟩ [] (aFu l ps (k .normal)):=by
 rw [aB4,aHC]
end
section
variable {d:Nat} {fr:List (Nat × V)} {bl:List (Nat × Option aK)} {k:V→Option β} {kw:V→List (Nat × Option aK)→Option β}
def ZG (id:Nat) (f:List (Nat × Option aK)) (x:Option β):Option β:=if wC id f = true then x else none
theorem M7 (id:Nat) (b:List (Nat × Option aK)):∀ a:List (Nat × Option aK),wC id (a ++ b) = if wC id a = true then wC id b else false
 | []=>rfl
 | (i,x) :: a=>by
  simp only [List.cons_append,wC]
  by_cases h:i = id
  ·simp [h]
  ·simp only [if_neg h]; exact M7 id b a
theorem aGN (id:Nat) (x:Option β):ZG id [] x = x:=rfl
theorem aKw (id i:Nat) (b:Option aK) (w:List (Nat × Option aK)) (x:Option β) (h:(i == id) = false):ZG id ((i,b) :: w) x = ZG id w x:=by
 have h:¬ i = id:=by simpa using h
 simp only [ZG,wC,if_neg h]
theorem aHn (id:Nat) (a b:List (Nat × Option aK)) (x:Option β):ZG id (a ++ b) x = ZG id a (ZG id b x):=by
 unfold ZG
 rw [M7]
 by_cases h:wC id a = true
 ·rw [if_pos h,if_pos h]
 ·rw [if_neg h,if_neg h]; rfl
def jO (row:List D) (off:Nat) (ds:List D) (size:Nat) (k:List D→Option β):Option β:=if ds.length = size ∧ off + size ≤ row.length then k (jK row off ds) else none
theorem QL (c:D) (cs:List D) (off:Nat) (e:D) (ds:List D) (n:Nat) (k:List D→Option β):jO (c :: cs) (off + 1) (e :: ds) n k = jO cs off (e :: ds) n fun l=>k (c :: l):=by
 unfold jO
 simp only [List.length_cons,jK]
 by_cases h:ds.length + 1 = n ∧ off + n ≤ cs.length
 ·exact (if_pos (by omega)).trans (if_pos h).symm
 ·exact (if_neg (by omega)).trans (if_neg h).symm
theorem TQ (c:D) (cs:List D) (e:D) (ds:List D) (n:Nat) (k:List D→Option β):jO (c :: cs) 0 (e :: ds) (n + 1) k = jO cs 0 ds n fun l=>k (e :: l):=by
 unfold jO
 simp only [List.length_cons,jK]
 by_cases h:ds.length = n ∧ 0 + n ≤ cs.length
 ·exact (if_pos (by omega)).trans (if_pos h).symm
 ·exact (if_neg (by omega)).trans (if_neg h).symm
theorem Q5 (cs:List D) (k:List D→Option β):jO cs 0 [] 0 k = k cs:=by
 unfold jO
 rw [if_pos ⟨rfl,by omega⟩,N2]
def uV (e:Nat) (rows:List (List D)) (i:Nat) (row:List D) (k:List (List D)→Option β):Option β:=k (rows.set i row)
theorem wO {α:Type} (e:Nat) (c:α→List D) (xs:List α) (i:Nat) (x:α) (k:List (List D)→Option β):uV e (cM c xs) i (c x) k = k (cM c (xs.set i x)):=by
 unfold uV
 rw [aJi]
theorem aG7 {α:Type} (size v i off id e sz:Nat) (w:V) (c:α→List D) (xs:List α):F2 size v i off id w bl (some (.rows v e sz (cM c xs))) kw = O7 w bl fun ds f=>ZG id f (xs[i]?.bind fun x=>jO (c x) off ds size fun row=>uV e (cM c xs) i row fun rows=>kw .any ((id,some (.rows v e sz rows)) :: f)):=by
 unfold F2 O7
 simp only [K1,if_true,cM,List.getElem?_map]
 cases xs[i]? with
 | none =>
  simp only [Option.map_none,Option.bind_none]
  cases bB (lQ (lk bl none)) w.cells with
  | none=>rfl
  | some ds=>simp only [ZG]; split <;> rfl
 | some x =>
  simp only [Option.map_some,Option.bind_some]
  cases bB (lQ (lk bl none)) w.cells with
  | none=>rfl
  | some ds =>
   simp only [jO,uV,ZG]
   by_cases h1:wC id (sB (lk bl none) w) = true
   ·rw [if_pos h1]
    by_cases h2:ds.length = size ∧ off + size ≤ (c x).length
    ·rw [if_pos h2,if_pos ⟨h2.1,h2.2,h1⟩]; rfl
    ·rw [if_neg h2,if_neg (fun q=>h2 ⟨q.1,q.2.1⟩)]; rfl
   ·rw [if_neg h1,if_neg (fun q=>h1 q.2.2)]; rfl
end
end
section
variable {β:Type} {T:u5} {bl:List (Nat × Option aK)} {k:V→Option β} {kw:V→List (Nat × Option aK)→Option β}
section
variable {α:Type} (size id v:Nat) (c:α→List D) (xs:List α) (hs:sized size (cM c xs) = true)
include hs
end
end
end Vm
end Go.Proofs.Ytiimibimkpimbaa
set_option linter.unusedVariables false
set_option linter.unusedSimpArgs false
namespace Go.Proofs.Ytiimibimkpimbaa
namespace Vm
open Go.RowKit
section
variable {β:Type} {T:u5} {d:Nat} {fr:List (Nat × V)} {bl:List (Nat × Option aK)} {k:V→Option β} {kw:V→List (Nat × Option aK)→Option β}
def aBo:List dH→Nat→(dH→Option β)→Option β
 | [],_,_=>none
 | x :: _,0,g=>g x
 | _ :: l,n + 1,g=>aBo l n g
theorem aI0 (x:dH) (l:List dH) (g:dH→Option β):aBo (x :: l) 0 g = g x:=rfl
theorem aJf (x:dH) (l:List dH) (n:Nat) (g:dH→Option β):aBo (x :: l) (n + 1) g = aBo l n g:=rfl
theorem YI (g:dH→Option β):∀ (l:List dH) (n:Nat),aBo l n g = l[n]?.bind g
 | [],_=>rfl
 | _ :: _,0=>rfl
 | _ :: l,n + 1=>YI g l n
def VP (v:V) (g:Nat→Nat→Option β):Option β:=match v with
 | .own id ver=>g id ver
 | _=>none
theorem aJg (id ver:Nat) (g:Nat→Nat→Option β):VP (.own id ver) g = g id ver:=rfl
def S9 (v:V) (bl:List (Nat × Option aK)) (g:D→Option β):Option β:=(E7 (lk bl none) v).bind g
def WJ (ver:Nat) (b:Option aK) (g:D→Option β):Option β:=match b with
 | some (.rows v e size rows)=>if ver = v then g (.own (.ref 0) [(e,size)] [rows]) else none
 | _=>none
theorem aA3 (id ver:Nat) (g:D→Option β):S9 (.own id ver) bl g = dG bl id fun b=>WJ ver b g:=by
 unfold S9 dG WJ E7
 simp only
 cases lk bl none id with
 | none=>rfl
 | some b =>
  cases b with
  | rows v e size rows=>simp only; split <;> rfl
  | _=>rfl
theorem R6 (v e s:Nat) (rows:List (List D)) (g:D→Option β):WJ v (some (.rows v e s rows)) g = g (.own (.ref 0) [(e,s)] [rows]):=if_pos rfl
def BM (fr:List (Nat × V)) (bl:List (Nat × Option aK)) (t:Nat):Nat→List dH→(List D→List (Nat × Option aK)→Option β)→Option β
 | _,[],g=>g [] []
 | i,x :: l,g=>dW fr x fun v=>if i = t then S9 v bl fun y=>BM fr bl t (i + 1) l fun ds f=>g (y :: ds) f else xY v bl fun y f=>BM fr bl t (i + 1) l fun ds f'=>g (y :: ds) (f ++ f')
theorem aAd (t i:Nat) (g:List D→List (Nat × Option aK)→Option β):BM fr bl t i [] g = g [] []:=rfl
theorem aAQ (t i:Nat) (x:dH) (l:List dH) (g:List D→List (Nat × Option aK)→Option β) (h:(i == t) = true):BM fr bl t i (x :: l) g = dW fr x fun v=>S9 v bl fun y=>BM fr bl t (i + 1) l fun ds f=>g (y :: ds) f:=by
 have:i = t:=by simpa using h
 simp only [BM,if_pos this]
theorem XP (t i:Nat) (x:dH) (l:List dH) (g:List D→List (Nat × Option aK)→Option β) (h:(i == t) = false):BM fr bl t i (x :: l) g = dW fr x fun v=>xY v bl fun y f=>BM fr bl t (i + 1) l fun ds f'=>g (y :: ds) (f ++ f'):=by
 have:¬ i = t:=by simpa using h
 simp only [BM,if_neg this]
theorem JQ (t:Nat):∀ (l:List dH) (i:Nat) (g:List D→List (Nat × Option aK)→Option β),BM fr bl t i l g = (yU (lk bl none) t i (l.map (cX (lk fr .any)))).bind fun ds=>g ds (qP (lk bl none) t i (l.map (cX (lk fr .any))))
 | [],i,g=>rfl
 | x :: l,i,g=>by
  simp only [BM,List.map_cons,yU,qP,dW]
  by_cases h:i = t
  ·simp only [if_pos h,S9,JQ t l (i + 1)]
   cases E7 (lk bl none) (cX (lk fr .any) x) with
   | none=>rfl
   | some y =>
    cases yU (lk bl none) t (i + 1) (l.map (cX (lk fr .any))) with
    | none=>rfl
    | some ds=>simp
  ·simp only [if_neg h,xY,JQ t l (i + 1)]
   cases i9 (lk bl none) (cX (lk fr .any) x) with
   | none=>rfl
   | some y=>cases yU (lk bl none) t (i + 1) (l.map (cX (lk fr .any))) <;> rfl
noncomputable def E9 (T:u5) (bl:List (Nat × Option aK)) (f id ver:Nat) (ds:List D) (kw:V→List (Nat × Option aK)→Option β):Option β:=match call T f ds with
 | some (.own y [(e,size)] [rows'])=>match lk bl none id with
  | some (.rows v e' size' _)=>if ver = v ∧ e = e' ∧ size = size' ∧ EM y = true ∧ oG rows' = true then kw (toV y) [(id,some (.rows v e size rows'))] else none
  | _=>none
 | _=>none
theorem aCX (f:Nat) (args:List dH) (t:Nat):tK T d (.lend f args t) fr bl k kw = aBo args t fun x=>dW fr x fun v=>VP v fun id ver=>BM fr bl t 0 args fun ds fz=>ZG id fz (E9 T bl f id ver ds kw):=by
 rw [kM,YI]
 simp only [eC,List.getElem?_map]
 cases args[t]? with
 | none=>rfl
 | some x =>
  simp only [Option.map_some,Option.bind_some,dW]
  generalize cX (lk fr .any) x = v
  cases v with
  | own id ver =>
   simp only [VP,JQ]
   cases yU (lk bl none) t 0 (args.map (cX (lk fr .any))) with
   | none=>rfl
   | some ds =>
    simp only [Option.bind_some,ZG]
    split
    ·unfold E9
     generalize call T f ds = r
     generalize lk bl none id = b
     split
     ·split
      ·split
       ·rename_i hq
        exact (if_pos hq).symm
       ·rename_i hq
        exact (if_neg hq).symm
      ·rename_i hq
       cases b with
       | none=>rfl
       | some b=>cases b <;> first | rfl | exact absurd rfl (hq _ _ _ _)
     ·rename_i hq
      split
      ·exact absurd rfl (hq _ _ _ _)
      ·rfl
    ·rfl
  | _=>rfl
def B6 (ver e size:Nat) (rows' : List (List D)) (b:Option aK) (g:Option aK→Option β):Option β:=match b with
 | some (.rows v e' s' _)=>if ver = v ∧ e = e' ∧ size = s' then g (some (.rows v e size rows')) else none
 | _=>none
theorem TC (v e s:Nat) (rows rows' : List (List D)) (g:Option aK→Option β):B6 v e s rows' (some (.rows v e s rows)) g = g (some (.rows v e s rows')):=if_pos ⟨rfl,rfl,rfl⟩
theorem zU {α:Type} {f e size:Nat} {ds:List D} {o:Option α} {y:α→D} {r:α→List (List D)} (h:call T f ds = o.map fun x=>.own (y x) [(e,size)] [r x]) (hy:∀ x,EM (y x) = true) (hr:∀ x,oG (r x) = true) (id ver:Nat) :
  E9 T bl f id ver ds kw = o.bind fun x=>dG bl id fun b=>B6 ver e size (r x) b fun b'=>kw (toV (y x)) [(id,b')]:=by
 unfold E9
 rw [h]
 cases o with
 | none=>rfl
 | some x =>
  simp only [Option.map_some,Option.bind_some,dG,B6,hy x,hr x,and_true]
theorem pJ {α:Type} (c:α→List D) (hc:∀ x,(c x).all BL = true) (xs:List α):oG (cM c xs) = true:=by
 unfold oG cM
 rw [List.all_eq_true]
 intro row hr
 obtain ⟨x,_,rfl⟩:=List.mem_map.1 hr
 exact hc x
def aJx (res:List mS) (t:Nat):Ex→St→Option D
 | .normal,s=>uG ⟨0,0,res,.skip,true,true⟩ s t
 | .ret,s=>uG ⟨0,0,res,.skip,true,true⟩ s t
 | .exit _,_=>none
def TZ (ver:Nat) (b:Option aK) (g:Nat→Nat→List (List D)→Option D):Option D:=match b with
 | some (.rows v e size rows)=>if ver = v then g e size rows else none
 | _=>none
theorem VU (v e s:Nat) (rows:List (List D)) (g:Nat→Nat→List (List D)→Option D):TZ v (some (.rows v e s rows)) g = g e s rows:=if_pos rfl
def PD (e s:Nat) (rows:List (List D)) (y:D):Option D:=if EM y = true then some (.own y [(e,s)] [rows]) else none
theorem aDD (e s:Nat) (rows:List (List D)):PD e s rows (.tup []) = some (.own (.tup []) [(e,s)] [rows]):=rfl
theorem YW (res:List mS) (t:Nat):uG ⟨0,0,res,.skip,true,true⟩ ⟨fr,bl⟩ t = pM fr t fun v=>VP v fun id ver=>dG bl id fun b=>TZ ver b fun e s rows=>(ET fr bl res HK).bind (PD e s rows):=by
 unfold uG pM
 rw [EU]
 cases lk fr .any t with
 | own id ver =>
  simp only [VP,dG,TZ]
  rw [EO]
  cases lk bl none id with
  | none=>rfl
  | some b =>
   cases b with
   | rows v e size rows =>
    simp only
    split
    ·rw [← YL]
     cases bB (qT ⟨fr,bl⟩) res with
     | none=>rfl
     | some us =>
      cases us with
      | nil=>rfl
      | cons u us=>cases us with
       | nil=>simp only [EO]; cases i9 (lk bl none) u <;> rfl
       | cons w us=>simp only [EO]; cases toD (lk bl none) (.tup (u :: w :: us)) <;> rfl
    ·rfl
   | _=>rfl
 | _=>rfl
theorem aIQ (res:List mS) (t:Nat):aJx res t .normal ⟨fr,bl⟩ = pM fr t fun v=>VP v fun id ver=>dG bl id fun b=>TZ ver b fun e s rows=>(ET fr bl res HK).bind (PD e s rows):=YW res t
theorem aJb (res:List mS) (t:Nat):aJx res t .ret ⟨fr,bl⟩ = pM fr t fun v=>VP v fun id ver=>dG bl id fun b=>TZ ver b fun e s rows=>(ET fr bl res HK).bind (PD e s rows):=YW res t
theorem aGK:HK [] = some (.tup []):=rfl
theorem LD {T:u5} {f np nt t:Nat} {res:List mS} {body:aT} {fs:Bool} (hf:T f = some (.code ⟨np,nt,res,body,fs,true⟩)) (ds:List D) (hl:ds.length = np) (hlt:hZ 0 ds = some t) (hnd:wW t body = true):Vm.call T f ds = eG T body (wN t ds) (aJx res t):=by
 rw [Z2 hf ds hl hlt rfl hnd]
 unfold eG
 cases Vm.ev T body (wN t ds) with
 | none=>rfl
 | some q =>
  obtain ⟨e,s⟩:=q
  cases e <;> rfl
end
section
variable {β:Type} {T:u5}
theorem RW {c:aT} {n:Nat} {r:Ex × St}:∀ (k:Nat) (s:St),qW (bZ (iG T n) n c) k s = some r→ev T (.loop c) s = some r
 | 0,s,e=>by cases e
 | k + 1,s,e=>by
  simp only [qW] at e
  cases hc:bZ (iG T n) n c s with
  | none=>rw [hc] at e; cases e
  | some q =>
   have h1:=gT.2 ⟨n,hc⟩
   rw [hc] at e
   rw [QB,h1]
   obtain ⟨ex,s'⟩:=q
   cases ex with
   | normal=>exact RW k s' e
   | exit id=>exact e
   | ret=>exact e
noncomputable def aH2 (T:u5) (c:aT):Ex × St→Option (Ex × St)
 | (.normal,s)=>ev T (.loop c) s
 | q=>some q
theorem ZN {S X:Type} {step:S→Option (S ⊕ X)} {c:aT} (enc:S→St) (out:X→Ex × St) (h:∀ s,ev T c (enc s) = eR enc out (step s)) (s:S) :
  ev T (.loop c) (enc s) = (eX step s).bind fun x=>aH2 T c (out x):=by
 refine pI fun r=>?_
 rw [Option.bind_eq_some_iff]
 constructor
 ·intro e
  obtain ⟨n,hn⟩:=gT.1 e
  simp only [bZ] at hn
  generalize hk:(n:Nat) = k at hn
  have key:∀ (k:Nat) (s:S),qW (bZ (iG T n) n c) k (enc s) = some r→∃ x,wV step k s = some x ∧ aH2 T c (out x) = some r:=by
   intro k
   induction k with
   | zero=>intro s e; cases e
   | succ k ih =>
    intro s e
    simp only [qW] at e
    cases hc:bZ (iG T n) n c (enc s) with
    | none=>rw [hc] at e; cases e
    | some q =>
     have h1:=gT.2 ⟨n,hc⟩
     rw [h s] at h1
     rw [hc] at e
     simp only [wV]
     cases hs:step s with
     | none=>rw [hs] at h1; cases h1
     | some y =>
      rw [hs] at h1
      cases y with
      | inl s' =>
       obtain rfl:=Option.some.inj h1
       exact ih s' e
      | inr x =>
       simp only [eR,Option.some.injEq] at h1
       refine ⟨x,rfl,?_⟩
       rw [h1]
       obtain ⟨ex,s'⟩:=q
       cases ex with
       | normal=>exact RW k s' e
       | exit id=>exact e
       | ret=>exact e
  subst hk
  obtain ⟨x,g1,g2⟩:=key n s hn
  exact ⟨x,wI.2 ⟨n,g1⟩,g2⟩
 ·rintro ⟨x,h1,h2⟩
  obtain ⟨n,hn⟩:=wI.1 h1
  clear h1
  induction n generalizing s with
  | zero=>cases hn
  | succ n ih =>
   simp only [wV] at hn
   rw [QB,h s]
   cases hs:step s with
   | none=>rw [hs] at hn; cases hn
   | some q =>
    rw [hs] at hn
    cases q with
    | inl s'=>exact ih s' hn
    | inr y =>
     obtain rfl:=Option.some.inj hn
     simp only [eR]
     cases ho:out y with
     | mk ex s' =>
      rw [ho] at h2
      cases ex with
      | normal=>exact h2
      | exit id=>exact h2
      | ret=>exact h2
noncomputable def aJF (T:u5) (c:aT) (k:Ex→St→Option β):Ex × St→Option β
 | (.normal,s)=>eG T (.loop c) s k
 | (e,s)=>k e s
theorem aAM {S X:Type} {step:S→Option (S ⊕ X)} {c:aT} {k:Ex→St→Option β} (enc:S→St) (out:X→Ex × St)
  (h:∀ s,eG T c (enc s) (fun e s'=>some (e,s')) = eR enc out (step s)) (s:S) :
  eG T (.loop c) (enc s) k = (eX step s).bind fun x=>aJF T c k (out x):=by
 unfold eG
 rw [ZN enc out (fun s=>by
  have:=h s
  unfold eG at this
  rw [← this]
  cases ev T c (enc s) <;> rfl) s]
 cases eX step s with
 | none=>rfl
 | some x =>
  simp only [Option.bind_some]
  cases out x with
  | mk e s'=>cases e <;> rfl
end
section
variable {β:Type} {T:u5} {fr:List (Nat × V)} {bl:List (Nat × Option aK)}
def CP (fr:List (Nat × V)):List Nat→(List V→Option β)→Option β
 | [],k=>k []
 | t :: l,k=>pM fr t fun v=>CP fr l fun vs=>k (v :: vs)
theorem aAl (l:List Nat) (k:List V→Option β):CP fr l k = k (l.map (lk fr .any)):=by
 induction l generalizing k with
 | nil=>rfl
 | cons x l ih=>simp only [CP,pM,ih,List.map_cons]
theorem W4 (k:List V→Option β):CP fr [] k = k []:=rfl
theorem SS (t:Nat) (l:List Nat) (k:List V→Option β):CP fr (t :: l) k = pM fr t fun v=>CP fr l fun vs=>k (v :: vs):=rfl
def aK0 (args:List dH) (id:Nat) (slots:List Nat) (fr:List (Nat × V)) (bl:List (Nat × Option aK)) (k:List (Nat × V)→List (Nat × Option aK)→Option β):Option β :=
 dG bl id fun b=>i8 b (CP fr slots fun cs=>FR fr args fun vs=>k (uJ 0 vs) ((id,some (.outer cs)) :: bl))
def inK (args:List dH) (id:Nat) (slots:List Nat) (s:St) (k:List (Nat × V)→List (Nat × Option aK)→Option β):Option β:=aK0 args id slots s.fr s.bl k
theorem aJI (args:List dH) (id:Nat) (slots:List Nat) (k:List (Nat × V)→List (Nat × Option aK)→Option β):inK args id slots ⟨fr,bl⟩ k = dG bl id fun b=>i8 b (CP fr slots fun cs=>FR fr args fun vs=>k (uJ 0 vs) ((id,some (.outer cs)) :: bl)):=rfl
theorem aAF (i:Nat):uJ i [] = []:=rfl
theorem W5 (i:Nat) (v:V) (l:List V):uJ i (v :: l) = (i,v) :: uJ (i + 1) l:=rfl
theorem aG0 (args:List dH) (id:Nat) (slots:List Nat) (k:St→Option β):(NM args id slots ⟨fr,bl⟩).bind k = inK args id slots ⟨fr,bl⟩ fun fr' bl'=>k ⟨fr',bl'⟩:=by
 unfold NM inK aK0 dG i8
 rw [aB2]
 cases hb:lk bl none id with
 | some b=>rfl
 | none =>
  simp only [Option.isNone_none,if_true,Option.bind_some,aAl,RO]
  rfl
def M1 (fr:List (Nat × V)) (bl:List (Nat × Option aK)):List mS→(List V→Option β)→Option β
 | [],k=>k []
 | .tmp t :: r,k=>pM fr t fun v=>M1 fr bl r fun l=>k (v :: l)
 | .cell t size isAgg :: r,k=>pM fr t fun p=>wE size isAgg p bl fun v=>M1 fr bl r fun l=>k (v :: l)
theorem aHk (res:List mS):∀ (k:List V→Option β),M1 fr bl res k = (bB (qT ⟨fr,bl⟩) res).bind k:=by
 induction res with
 | nil=>intro k; rfl
 | cons r res ih =>
  intro k
  cases r with
  | tmp t =>
   simp only [M1,pM,ih,bB,qT,EU]
   cases bB (qT ⟨fr,bl⟩) res <;> rfl
  | cell t size isAgg =>
   simp only [M1,pM,LJ,ih,bB,qT,BX,EU,EO]
   cases FT size isAgg (lk fr .any t) (lk bl none) with
   | none=>rfl
   | some q =>
    obtain ⟨v,wr⟩:=q
    simp only [Option.bind_some]
    cases bB (qT ⟨fr,bl⟩) res <;> rfl
theorem aCG (k:List V→Option β):M1 fr bl [] k = k []:=rfl
theorem aJk (t:Nat) (r:List mS) (k:List V→Option β):M1 fr bl (.tmp t :: r) k = pM fr t fun v=>M1 fr bl r fun l=>k (v :: l):=rfl
def OM (dst:Option Nat) (slots:List Nat) (cs vs:List V) (k:List (Nat × V)→Option β):Option β :=
 match vs with
 | [v]=>k (I4 dst v ++ slots.zip cs)
 | vs=>if vs.all V.noTup = true then k (I4 dst (.tup vs) ++ slots.zip cs) else none
theorem aAc (dst:Option Nat) (slots:List Nat) (cs:List V) (v:V) (k:List (Nat × V)→Option β):OM dst slots cs [v] k = k (I4 dst v ++ slots.zip cs):=rfl
theorem aAq (dst:Option Nat) (slots:List Nat) (cs:List V) (k:List (Nat × V)→Option β):OM dst slots cs [] k = k (I4 dst (.tup []) ++ slots.zip cs):=rfl
theorem KT (dst:Option Nat) (slots:List Nat) (cs:List V) (v u:V) (l:List V) (k:List (Nat × V)→Option β):OM dst slots cs (v :: u :: l) k = if (v :: u :: l).all V.noTup = true then k (I4 dst (.tup (v :: u :: l)) ++ slots.zip cs) else none:=rfl
theorem aAz (d:Nat) (v:V) (l:List (Nat × V)):I4 (some d) v ++ l = (d,v) :: l:=rfl
theorem aDq:([]:List Nat).zip ([]:List V) = []:=rfl
theorem aBj (t:Nat) (v:V) (l:List Nat) (r:List V):(t :: l).zip (v :: r) = (t,v) :: l.zip r:=rfl
def P0 (b:Option aK) (k:List V→Option β):Option β:=match b with
 | some (.outer cs)=>k cs
 | _=>none
theorem aCz (cs:List V) (k:List V→Option β):P0 (some (.outer cs)) k = k cs:=rfl
def aDa (dst:Option Nat) (res:List mS) (id:Nat) (slots:List Nat) (fr:List (Nat × V)) (bl:List (Nat × Option aK)) (k:List (Nat × V)→List (Nat × Option aK)→Option β):Option β :=
 dG bl id fun b=>P0 b fun cs=>M1 fr bl res fun vs=>OM dst slots cs vs fun fr'=>k fr' ((id,none) :: bl)
theorem aF7 (dst:Option Nat) (res:List mS) (id:Nat) (slots:List Nat) (k:List (Nat × V)→List (Nat × Option aK)→Option β):aDa dst res id slots fr bl k = dG bl id fun b=>P0 b fun cs=>M1 fr bl res fun vs=>OM dst slots cs vs fun fr'=>k fr' ((id,none) :: bl):=rfl
theorem RJ (dst:Option Nat) (res:List mS) (id:Nat) (slots:List Nat) (k:St→Option β):(pE dst res id slots ⟨fr,bl⟩).bind k = aDa dst res id slots fr bl fun fr' bl'=>k ⟨fr',bl'⟩:=by
 unfold pE aDa dG
 rw [aB2]
 cases hb:lk bl none id with
 | none=>cases bB (qT ⟨fr,bl⟩) res <;> rfl
 | some b =>
  cases b with
  | outer cs =>
   simp only [P0,aHk]
   cases bB (qT ⟨fr,bl⟩) res with
   | none=>rfl
   | some vs =>
    simp only [Option.bind_some]
    cases vs with
    | nil=>rfl
    | cons v vs=>cases vs with
     | nil=>rfl
     | cons u vs =>
      rw [KT]
      show (if (v :: u :: vs).all V.noTup = true then some _ else none).bind k = _
      split <;> rfl
  | _=>cases bB (qT ⟨fr,bl⟩) res <;> rfl
def QH (dst:Option Nat) (res:List mS) (id:Nat) (slots:List Nat) (k:Ex→St→Option β):Ex→St→Option β
 | .normal,s=>(pE dst res id slots s).bind fun s4=>k .normal s4
 | .ret,s=>(pE dst res id slots s).bind fun s4=>k .normal s4
 | .exit _,_=>none
theorem aDX (dst:Option Nat) (res:List mS) (id:Nat) (slots:List Nat) (k:Ex→St→Option β):QH dst res id slots k .normal ⟨fr,bl⟩ = aDa dst res id slots fr bl fun fr' bl'=>k .normal ⟨fr',bl'⟩:=RJ dst res id slots _
theorem aBZ (dst:Option Nat) (res:List mS) (id:Nat) (slots:List Nat) (k:Ex→St→Option β):QH dst res id slots k .ret ⟨fr,bl⟩ = aDa dst res id slots fr bl fun fr' bl'=>k .normal ⟨fr',bl'⟩:=RJ dst res id slots _
theorem aGE {k:Ex→St→Option β} (ops:List bK) (args:List dH) (dst:Option Nat) (f:Nat) (body:aT) (res:List mS) (id:Nat) (slots:List Nat) :
  eG T (.inl ops args dst f body res id slots) ⟨fr,bl⟩ k = tI T ops ⟨fr,bl⟩ fun s1=>inK args id slots s1 fun fr' bl'=>eG T body ⟨fr',bl'⟩ (QH dst res id slots k):=by
 rw [aHo]
 congr 1
 funext s1
 refine Eq.trans ?_ (aG0 (fr:=s1.fr) (bl:=s1.bl) args id slots fun s=>eG T body s (QH dst res id slots k))
 congr 1
 funext s2
 congr 1
 funext ex s3
 cases ex <;> rfl
def EN (keep:List Nat) (bl:List (Nat × Option aK)):List V→(List V→Option β)→Option β
 | [],k=>k []
 | v :: cs,k=>vR keep bl v fun v'=>EN keep bl cs fun l=>k (v' :: l)
theorem aBn (keep:List Nat) (cs:List V):∀ (k:List V→Option β),EN keep bl cs k = k (cs.map (EF keep (lk bl none))):=by
 induction cs with
 | nil=>intro k; rfl
 | cons v cs ih=>intro k; simp only [EN,vR,ih,List.map_cons]
theorem V5 (keep:List Nat) (k:List V→Option β):EN keep bl [] k = k []:=rfl
theorem SZ (keep:List Nat) (v:V) (cs:List V) (k:List V→Option β):EN keep bl (v :: cs) k = vR keep bl v fun v'=>EN keep bl cs fun l=>k (v' :: l):=rfl
theorem PI (keep:List Nat) (cs:List V) (k:Option aK→Option β):AM keep bl (some (.outer cs)) k = EN keep bl cs fun l=>k (some (.outer l)):=by rw [aBn]; rfl
end
section
variable {β:Type} {T:u5} {d:Nat} {fr:List (Nat × V)} {bl:List (Nat × Option aK)} {k:V→Option β} {kw:V→List (Nat × Option aK)→Option β}
noncomputable def wH (T:u5) (d:Nat) (bl:List (Nat × Option aK)) (f:Nat) (ds:List D) (k:V→Option β) (kw:V→List (Nat × Option aK)→Option β):Option β:=match call T f ds with
 | some (.own x es rs)=>if DA x rs = true then zW (oF d (lk bl none) [] (.own x es rs)) k kw else none
 | _=>none
theorem ZS (f:Nat) (args:List dH):tK T d (.calln f args) fr bl k kw = H6 fr bl args fun ds _=>wH T d bl f ds k kw:=by
 rw [kM,Q1]
 simp only [eC]
 cases bB (fun x=>i9 (lk bl none) (cX (lk fr .any) x)) args with
 | none=>rfl
 | some ds =>
  simp only [Option.bind_some,wH]
  cases call T f ds with
  | none=>rfl
  | some y =>
   cases y with
   | own x es rs=>simp only; split <;> rfl
   | _=>rfl
theorem rL {x:D} {rs:List (List (List D))} (h1:YM x = true) (h2:rs.all oG = true):DA x rs = true:=by simp only [DA,h1,h2,Bool.and_self]
theorem vW {r:List (List D)} {rs:List (List (List D))} (h1:oG r = true) (h2:rs.all oG = true):(r :: rs).all oG = true:=by simp only [List.all_cons,h1,h2,Bool.and_self]
theorem uC {α:Type} {f:Nat} {ds:List D} {o:Option α} {y:α→D} {p:Nat × Nat} {es:List (Nat × Nat)} {r:α→List (List D)} {rs:α→List (List (List D))} (h:call T f ds = o.map fun x=>.own (y x) (p :: es) (r x :: rs x)) (hn:∀ x,DA (y x) (r x :: rs x) = true) :
  wH T d bl f ds k kw = o.bind fun x=>SY bl (gJ d 0 (p :: es) (r x :: rs x)) (kw (thaw d (y x)) (gJ d 0 (p :: es) (r x :: rs x))):=by
 unfold wH
 rw [h]
 cases o with
 | none=>rfl
 | some x =>
  simp only [Option.map_some,Option.bind_some,oF,L2,hn x,if_true,List.append_nil]
  split
  ·obtain ⟨e,s⟩:=p; rfl
  ·rfl
end
end Vm
end Go.Proofs.Ytiimibimkpimbaa
set_option linter.unusedVariables false
set_option linter.unusedSimpArgs false
namespace Go.Proofs.Ytiimibimkpimbaa
namespace Vm
open Go.RowKit
section
variable {β:Type} {T:u5} {d:Nat} {fr:List (Nat × V)} {bl:List (Nat × Option aK)} {k:V→Option β} {kw:V→List (Nat × Option aK)→Option β}
end
end Vm
end Go.Proofs.Ytiimibimkpimbaa
