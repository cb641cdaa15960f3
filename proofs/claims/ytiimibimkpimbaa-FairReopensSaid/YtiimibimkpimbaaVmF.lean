/- The small machine, read from the front: slices that are laid out, calls, masks, answers. The small machine, read from the front: regions whose order is drawn. The small machine, read from the front: slices that are lent, cut, cleared. The small machine, read from the front: function values that hold boxes. -/
import Derived.Test.YtiimibimkpimbaaVmE
set_option linter.unusedVariables false
set_option linter.unusedSimpArgs false
namespace Go.Proofs.Ytiimibimkpimbaa
theorem zA.{u} {α:Type u} {a:α} {l:List α}:(a::l).length = l.length + 1:=rfl
theorem zB.{u} {α:Type u}:([]:List α).length = 0:=rfl
theorem zC:(!true) = false:=rfl
theorem zD:(!false) = true:=rfl
theorem zE.{u} {α:Type u} {n:Nat} {a:α}:List.replicate (n + 1) a = a::List.replicate n a:=rfl
theorem zF.{u} {α:Type u} {a:α}:List.replicate 0 a = []:=rfl
theorem zG.{u,v} {α:Type u} {β:Type v} (a:α) (f:α->Option β):(some a).bind f = f a:=rfl
theorem zH.{u,v} {α:Type u} {β:Type v} (a:α) (f:α->β):(some a).map f = some (f a):=rfl
theorem zI.{u,v} {α:Type u} {β:Type v} (f:α->β):(none:Option α).map f = none:=rfl
theorem zJ.{u,v,w} {α:Type u} {β:Type v} {γ:Sort w} (f:α->γ) (g:β->γ) (x:α):Sum.elim f g (Sum.inl x) = f x:=rfl
theorem zK.{u,v,w} {α:Type u} {β:Type v} {γ:Sort w} (f:α->γ) (g:β->γ) (x:β):Sum.elim f g (Sum.inr x) = g x:=rfl
theorem zL.{u,v,w} {α:Type u} {β:Type v} {γ:Type w} (x:Option α) (f:α->Option β) (g:β->Option γ):(x.bind f).bind g = x.bind fun y=>(f y).bind g:=Option.bind_assoc x f g
theorem zM.{u} {α:Type u} [BEq α] [ReflBEq α] (a:α):(a == a) = true:=beq_self_eq_true a
theorem zN:(¬False) = True:=not_false_eq_true
namespace Vm
open Go.RowKit
section
variable {β:Type} {T:vW} {d:Nat} {fr:List (Nat × V)} {bl:List (Nat × Option aM)} {k:V->Option β} {kw:V->List (Nat × Option aM)->Option β}
def CW (bl:List (Nat × Option aM)):List V->(List D->List (Nat × Option aM)->Option β)->Option β
 | [],k=>k [] []
 | v :: cs,k=>(mJ (lk bl none) v).bind fun x=>CW bl cs fun ds f=>k (x :: ds) (C8 (lk bl none) v ++ f)
theorem UZ (cs:List V) (k:List D->List (Nat × Option aM)->Option β):CW bl cs k = (bB (mJ (lk bl none)) cs).bind fun ds=>k ds (cs.flatMap (C8 (lk bl none))):=by
 induction cs generalizing k with
 | nil=>rfl
 | cons v cs ih =>
  simp only [CW,bB,ih,List.flatMap_cons]
  cases mJ (lk bl none) v with
  | none=>rfl
  | some x=>cases bB (mJ (lk bl none)) cs <;> rfl
def d1K (v:V) (bl:List (Nat × Option aM)) (k:D->List (Nat × Option aM)->Option β):Option β:=(mJ (lk bl none) v).bind fun x=>k x (C8 (lk bl none) v)
def d1B (id ver:Nat) (b:Option aM) (k:D->List (Nat × Option aM)->Option β):Option β:=match b with
 | some (.rows v _ _ rows)=>if ver = v then k (.sl rows) [(id,some (.froz v rows))] else none
 | some (.froz v rows)=>if ver = v then k (.sl rows) [] else none
 | _=>none
theorem aFU (id ver:Nat) (k:D->List (Nat × Option aM)->Option β):d1K (.own id ver) bl k = dF bl id fun b=>d1B id ver b k:=by
 unfold d1K dF d1B
 simp only [mJ,C8,sV,D9]
 generalize lk bl none id = b
 cases b with
 | none=>rfl
 | some b=>cases b with
  | rows v e s rows=>simp only; by_cases h:ver = v <;> simp [h]
  | froz v rows=>simp only; by_cases h:ver = v <;> simp [h]
  | _=>rfl
theorem aD2 (id v e s:Nat) (rows:List (List D)) (k:D->List (Nat × Option aM)->Option β):d1B id v (some (.rows v e s rows)) k = k (.sl rows) [(id,some (.froz v rows))]:=if_pos rfl
theorem aFm (id v:Nat) (rows:List (List D)) (k:D->List (Nat × Option aM)->Option β):d1B id v (some (.froz v rows)) k = k (.sl rows) []:=if_pos rfl
def rN (bl:List (Nat × Option aM)):List V->(List D->List (Nat × Option aM)->Option β)->Option β
 | [],k=>k [] []
 | v :: cs,k=>(sV (lk bl none) v).bind fun x=>rN bl cs fun ds f=>k (x :: ds) (D9 (lk bl none) v ++ f)
theorem aB2 (cs:List V) (k:List D->List (Nat × Option aM)->Option β):rN bl cs k = (bB (sV (lk bl none)) cs).bind fun ds=>k ds (cs.flatMap (D9 (lk bl none))):=by
 induction cs generalizing k with
 | nil=>rfl
 | cons v cs ih =>
  simp only [rN,bB,ih,List.flatMap_cons]
  cases sV (lk bl none) v with
  | none=>rfl
  | some x=>cases bB (sV (lk bl none)) cs <;> rfl
theorem XB (k:List D->List (Nat × Option aM)->Option β):rN bl [] k = k [] []:=rfl
theorem aFw (x:D) (cs:List V) (k:List D->List (Nat × Option aM)->Option β):rN bl (.d x :: cs) k = rN bl cs fun ds f=>k (x :: ds) f:=rfl
theorem V4 (id ver:Nat) (cs:List V) (k:List D->List (Nat × Option aM)->Option β):rN bl (.own id ver :: cs) k = d1K (.own id ver) bl fun x g=>rN bl cs fun ds f=>k (x :: ds) (g ++ f):=rfl
theorem NE (ds:List D) (k:List D->List (Nat × Option aM)->Option β):rN bl (bQ ds) k = k ds []:=by
 have:∀ (ds:List D) (k:List D->List (Nat × Option aM)->Option β),rN bl (bQ ds) k = k ds []:=by
  intro ds
  induction ds with
  | nil=>intro k; rfl
  | cons x ds ih=>intro k; show rN bl (bQ ds) _ = _; rw [ih]; rfl
 exact this ds k
def d1P (id off:Nat) (b:Option aM) (bl:List (Nat × Option aM)) (k:D->List (Nat × Option aM)->Option β):Option β:=match b with
 | some (.box cs)=>rN bl cs fun ds f=>k (.ptr ds off) ((id,some (.fbox ds)) :: f)
 | some (.fbox ds)=>k (.ptr ds off) []
 | _=>none
theorem aG6 (id off:Nat) (k:D->List (Nat × Option aM)->Option β):d1K (.ptr id off) bl k = dF bl id fun b=>d1P id off b bl k:=by
 unfold d1K dF d1P
 simp only [mJ,C8]
 cases lk bl none id with
 | none=>rfl
 | some b=>cases b with
  | box cs =>
   simp only [aB2]
   cases bB (sV (lk bl none)) cs <;> rfl
  | _=>rfl
theorem aGR (id off:Nat) (c:V) (cs:List V) (k:D->List (Nat × Option aM)->Option β):d1P id off (some (.box (c :: cs))) bl k = rN bl (c :: cs) fun ds f=>k (.ptr ds off) ((id,some (.fbox ds)) :: f):=rfl
theorem U1 (id off:Nat) (ds:List D) (k:D->List (Nat × Option aM)->Option β):d1P id off (some (.box (bQ ds))) bl k = k (.ptr ds off) [(id,some (.fbox ds))]:=by
 show rN bl (bQ ds) _ = _
 rw [NE]
theorem aBT (k:List D->List (Nat × Option aM)->Option β):CW bl [] k = k [] []:=rfl
theorem aHU (x:D) (cs:List V) (k:List D->List (Nat × Option aM)->Option β):CW bl (.d x :: cs) k = CW bl cs fun ds f=>k (x :: ds) f:=rfl
theorem F7 (ds:List D) (k:List D->List (Nat × Option aM)->Option β):CW bl (bQ ds) k = k ds []:=by
 have:∀ (ds:List D) (k:List D->List (Nat × Option aM)->Option β),CW bl (bQ ds) k = k ds []:=by
  intro ds
  induction ds with
  | nil=>intro k; rfl
  | cons x ds ih=>intro k; show CW bl (bQ ds) _ = _; rw [ih]; rfl
 exact this ds k
def yK (v:V) (bl:List (Nat × Option aM)) (k:D->List (Nat × Option aM)->Option β):Option β:=(jI (lk bl none) v).bind fun x=>k x (sW (lk bl none) v)
theorem aJZ (x:D) (k:D->List (Nat × Option aM)->Option β):yK (.d x) bl k = k x []:=rfl
theorem aDr (k:D->List (Nat × Option aM)->Option β):yK .nil bl k = k (.sl []) []:=rfl
theorem aDS (id ver:Nat) (k:D->List (Nat × Option aM)->Option β):yK (.own id ver) bl k = d1K (.own id ver) bl k:=rfl
theorem T9 (cs:List V) (k:D->List (Nat × Option aM)->Option β):yK (.agg cs) bl k = CW bl cs fun ds f=>k (.agg ds) f:=by
 rw [UZ]
 show ((bB (mJ (lk bl none)) cs).map D.agg).bind _ = _
 cases bB (mJ (lk bl none)) cs <;> rfl
theorem aBo (ds:List D) (k:D->List (Nat × Option aM)->Option β):yK (oC ds) bl k = k (.agg ds) []:=by
 show yK (.agg (bQ ds)) bl k = _
 rw [T9,F7]
theorem aKp (x:D) (k:List D->List (Nat × Option aM)->Option β):QF (.d x) bl k = k [x] []:=rfl
theorem UX (cs:List V) (k:List D->List (Nat × Option aM)->Option β):QF (.agg cs) bl k = CW bl cs k:=by
 rw [UZ]
 show (match bB (mJ (lk bl none)) cs with | some row=>k row (cs.flatMap (C8 (lk bl none))) | none=>none) = _
 cases bB (mJ (lk bl none)) cs <;> rfl
theorem aA5 (ds:List D) (k:List D->List (Nat × Option aM)->Option β):QF (oC ds) bl k = k ds []:=by
 show QF (.agg (bQ ds)) bl k = _
 rw [UX,F7]
def RJ (rs:List (List D)) (i:Nat) (row:List D) (k:List (List D)->Option β):Option β:=if i < rs.length then k (rs.set i row) else none
theorem aJw (r:List D) (rs:List (List D)) (row:List D) (k:List (List D)->Option β):RJ (r :: rs) 0 row k = k (row :: rs):=by simp [RJ]
theorem aJA (r:List D) (rs:List (List D)) (i:Nat) (row:List D) (k:List (List D)->Option β):RJ (r :: rs) (i + 1) row k = RJ rs i row fun l=>k (r :: l):=by
 unfold RJ
 simp only [List.length_cons,List.set_cons_succ]
 by_cases h:i < rs.length
 ·rw [if_pos h,if_pos (by omega)]
 ·rw [if_neg h,if_neg (by omega)]
def bsF (fr:List (Nat × V)) (bl:List (Nat × Option aM)) (size:Nat) (rs:List (List D)):List (Nat × dG)->List (Nat × Option aM)->(List (List D)->List (Nat × Option aM)->Option β)->Option β
 | [],wr,k=>k rs wr
 | (i,x) :: r,wr,k=>dX fr x fun v=>QF v bl fun row f=>tZ row size (RJ rs i row fun rs'=>bsF fr bl size rs' r (wr ++ f) k)
theorem aFO (size:Nat) (rs:List (List D)) (wr:List (Nat × Option aM)) (k:List (List D)->List (Nat × Option aM)->Option β):bsF fr bl size rs [] wr k = k rs wr:=rfl
theorem aEn (size:Nat) (rs:List (List D)) (i:Nat) (x:dG) (r:List (Nat × dG)) (wr:List (Nat × Option aM)) (k:List (List D)->List (Nat × Option aM)->Option β):bsF fr bl size rs ((i,x) :: r) wr k = dX fr x fun v=>QF v bl fun row f=>tZ row size (RJ rs i row fun rs'=>bsF fr bl size rs' r (wr ++ f) k):=rfl
theorem aJC (size:Nat) (parts:List (Nat × dG)):∀ (rs:List (List D)) (wr:List (Nat × Option aM)) (k:List (List D)->List (Nat × Option aM)->Option β),bsF fr bl size rs parts wr k = (lQ (lk bl none) size rs (parts.map fun p=>(p.1,cX (lk fr .any) p.2))).bind fun rs'=>k rs' (wr ++ parts.flatMap fun p=>sW (lk bl none) (cX (lk fr .any) p.2)):=by
 induction parts with
 | nil=>intro rs wr k; simp [bsF,lQ]
 | cons p r ih =>
  intro rs wr k
  obtain ⟨i,x⟩:=p
  simp only [bsF,dX,QF,List.map_cons,lQ,List.flatMap_cons]
  cases bB (mJ (lk bl none)) (cX (lk fr .any) x).cells with
  | none=>rfl
  | some row =>
   simp only [tZ,RJ]
   by_cases h1:row.length = size
   ·by_cases h2:i < rs.length
    ·rw [if_pos h1,if_pos h2,if_pos ⟨h1,h2⟩,ih,List.append_assoc]
    ·rw [if_pos h1,if_neg h2,if_neg (fun q=>h2 q.2)]; rfl
   ·rw [if_neg h1,if_neg (fun q=>h1 q.1)]; rfl
theorem MP (e size n:Nat) (z:List D) (parts:List (Nat × dG)):uG T d (.buildSlice e size z n parts) fr bl k kw = dF bl d fun b=>jH b (bsF fr bl size (List.replicate n z) parts [] fun rows wr=>ON e rows fun rows=>kw (.own d 0) ((d,some (.rows 0 e size rows)) :: wr)):=by
 rw [lC]
 unfold dF jH ON
 simp only [eH,aJC,List.nil_append]
 cases lk bl none d with
 | some b=>rfl
 | none =>
  simp only
  have e1:(parts.map fun x=>match x with | (i,x)=>(i,cX (lk fr .any) x)) = parts.map fun p=>(p.1,cX (lk fr .any) p.2):=rfl
  have e2:(parts.flatMap fun x=>match x with | (_,x)=>sW (lk bl none) (cX (lk fr .any) x)) = parts.flatMap fun p=>sW (lk bl none) (cX (lk fr .any) p.2):=rfl
  rw [e1,e2]
  cases lQ (lk bl none) size (List.replicate n z) (parts.map fun p=>(p.1,cX (lk fr .any) p.2)) <;> rfl
theorem NC {α:Type} (e size bytes:Nat) (z:List D) (c:α->List D) (x:α) (hz:z = c x) (l cp:dG):uG T d (.makeSlice e size bytes z l cp) fr bl k kw = dF bl d fun b=>jH b (dX fr l fun a=>dX fr cp fun b=>match a,b with
   | .d (.int _ n),.d (.int _ m)=>if 0 <= n ∧ n <= m ∧ (bytes:Int) * m <= 281474976710656 ∧ m <= 9223372036854775807 then kw (.own d 0) [(d,some (.rows 0 e size (cM c (List.replicate n.toNat x))))] else none
   | _,_=>none):=by
 subst hz
 rw [lC]
 unfold dF jH dX
 simp only [eH,QO]
 generalize cX (lk fr .any) l = a
 generalize cX (lk fr .any) cp = b
 cases lk bl none d with
 | some b=>rfl
 | none =>
  simp only
  split
  ·rename_i n _ m
   simp only
   by_cases h:0 <= n ∧ n <= m ∧ (bytes:Int) * m <= 281474976710656 ∧ m <= 9223372036854775807
   ·rw [if_pos h,if_pos h]; rfl
   ·rw [if_neg h,if_neg h]; rfl
  ·rename_i h
   split
   ·rename_i n _ m
    exact absurd rfl (h _ _ _ _ rfl)
   ·rfl
def IQ (fr:List (Nat × V)) (bl:List (Nat × Option aM)):List dG->(List D->List (Nat × Option aM)->Option β)->Option β
 | [],k=>k [] []
 | x :: l,k=>dX fr x fun v=>yK v bl fun y f=>IQ fr bl l fun ds g=>k (y :: ds) (f ++ g)
theorem Z4 (k:List D->List (Nat × Option aM)->Option β):IQ fr bl [] k = k [] []:=rfl
theorem U9 (x:dG) (l:List dG) (k:List D->List (Nat × Option aM)->Option β):IQ fr bl (x :: l) k = dX fr x fun v=>yK v bl fun y f=>IQ fr bl l fun ds g=>k (y :: ds) (f ++ g):=rfl
theorem SJ (l:List dG) (k:List D->List (Nat × Option aM)->Option β):IQ fr bl l k = (bB (fun x=>jI (lk bl none) (cX (lk fr .any) x)) l).bind fun ds=>k ds (l.flatMap fun x=>sW (lk bl none) (cX (lk fr .any) x)):=by
 induction l generalizing k with
 | nil=>rfl
 | cons x l ih =>
  simp only [IQ,dX,yK,bB,ih,List.flatMap_cons]
  cases jI (lk bl none) (cX (lk fr .any) x) with
  | none=>rfl
  | some y=>cases bB (fun x=>jI (lk bl none) (cX (lk fr .any) x)) l <;> rfl
def fzK (fz:List (Nat × Option aM)) (v:V) (k:V->Option β) (kw:V->List (Nat × Option aM)->Option β):Option β:=match fz with
 | []=>k v
 | p :: w=>kw v (p :: w)
theorem aGH (v:V):fzK [] v k kw = k v:=rfl
theorem aJG (l:List (Nat × Option aM)) (v:V):fzK ([] ++ l) v k kw = fzK l v k kw:=rfl
theorem aJY (p:Nat × Option aM) (w l:List (Nat × Option aM)) (v:V):fzK ((p :: w) ++ l) v k kw = kw v ((p :: w) ++ l):=rfl
noncomputable def fJ (T:vW) (d:Nat) (bl:List (Nat × Option aM)) (f:Nat) (ds:List D) (fz:List (Nat × Option aM)) (k:V->Option β) (kw:V->List (Nat × Option aM)->Option β):Option β:=match call T f ds with
 | none=>none
 | some r=>AR (oL d (lk bl none) fz r) k kw
theorem aC6 (f:Nat) (args:List dG):uG T d (.call f args) fr bl k kw = IQ fr bl args fun ds fz=>fJ T d bl f ds fz k kw:=by
 rw [lC,SJ]
 simp only [eH]
 cases bB (fun x=>jI (lk bl none) (cX (lk fr .any) x)) args with
 | none=>rfl
 | some ds =>
  simp only [Option.bind_some,fJ]
  cases call T f ds <;> rfl
def D.calm:D->Bool
 | .own _ _ _=>false
 | _=>true
theorem ZG {x:D} (h:x.calm = true):∀ y es rs,x ≠ .own y es rs:=fun y es rs e=>by rw [e] at h; cases h
theorem aAz {x:D} (h:FX x = true):x.calm = true:=by cases x <;> first | rfl | cases h
theorem cV {α:Type} {f:Nat} {ds:List D} {o:Option α} {enc:α->D} (h:call T f ds = o.map enc) (hf:∀ x,FX (enc x) = true) (fz:List (Nat × Option aM)):fJ T d bl f ds fz k kw = o.bind fun x=>k (toV (enc x)):=by
 unfold fJ
 rw [h]
 cases o with
 | none=>rfl
 | some x=>simp only [Option.map_some,Option.bind_some]; rw [B0 (ZG (aAz (hf x))),if_pos (hf x)]; rfl
theorem BK {α:Type} {f:Nat} {ds:List D} {o:Option α} {enc:α->D} (h:call T f ds = o.map enc) (hf:∀ x,FX (enc x) = false) (hc:∀ x,(enc x).calm = true) (fz:List (Nat × Option aM)):fJ T d bl f ds fz k kw = o.bind fun x=>fzK fz (toV (enc x)) k kw:=by
 unfold fJ
 rw [h]
 cases o with
 | none=>rfl
 | some x=>simp only [Option.map_some,Option.bind_some]; rw [B0 (ZG (hc x)),if_neg (by rw [hf x]; decide)]; cases fz <;> rfl
def SG (bl:List (Nat × Option aM)):List (Nat × Option aM)->Option β->Option β
 | [],x=>x
 | (i,_) :: l,x=>dF bl i fun b=>jH b (SG bl l x)
theorem KX (bl:List (Nat × Option aM)) (x:Option β):∀ (l:List (Nat × Option aM)),SG bl l x = if F3 (lk bl none) l = true then x else none
 | []=>rfl
 | (i,b) :: l=>by
  cases h:lk bl none i <;> simp [SG,F3,dF,jH,KX bl x l,h]
theorem sR {α:Type} {f:Nat} {ds:List D} {o:Option α} {y:α->D} {p:Nat × Nat} {es:List (Nat × Nat)} {r:α->List (List D)} {rs:α->List (List (List D))} (h:call T f ds = o.map fun x=>.own (y x) (p :: es) (r x :: rs x)) (fz:List (Nat × Option aM)) :
  fJ T d bl f ds fz k kw = o.bind fun x=>SG bl (gU d 0 (p :: es) (r x :: rs x)) (kw (thaw d (y x)) (gU d 0 (p :: es) (r x :: rs x) ++ fz)):=by
 unfold fJ
 rw [h]
 cases o with
 | none=>rfl
 | some x =>
  simp only [Option.map_some,Option.bind_some,oL,KX]
  split
  ·obtain ⟨e,s⟩:=p; rfl
  ·rfl
def KS (fr:List (Nat × V)) (bl:List (Nat × Option aM)):List dG->(List D->List (Nat × Option aM)->Option β)->Option β
 | [],k=>k [] []
 | x :: l,k=>dX fr x fun v=>d1K v bl fun y f=>KS fr bl l fun ds g=>k (y :: ds) (f ++ g)
theorem aBd (k:List D->List (Nat × Option aM)->Option β):KS fr bl [] k = k [] []:=rfl
theorem X7 (x:dG) (l:List dG) (k:List D->List (Nat × Option aM)->Option β):KS fr bl (x :: l) k = dX fr x fun v=>d1K v bl fun y f=>KS fr bl l fun ds g=>k (y :: ds) (f ++ g):=rfl
theorem aCN (l:List dG) (k:List D->List (Nat × Option aM)->Option β):KS fr bl l k = (bB (fun x=>mJ (lk bl none) (cX (lk fr .any) x)) l).bind fun ds=>k ds (l.flatMap fun x=>C8 (lk bl none) (cX (lk fr .any) x)):=by
 induction l generalizing k with
 | nil=>rfl
 | cons x l ih =>
  simp only [KS,dX,d1K,bB,ih,List.flatMap_cons]
  cases mJ (lk bl none) (cX (lk fr .any) x) with
  | none=>rfl
  | some y=>cases bB (fun x=>mJ (lk bl none) (cX (lk fr .any) x)) l <;> rfl
theorem aCG (f:Nat) (caps:List dG):uG T d (.mkfn f caps) fr bl k kw = KS fr bl caps fun ds fz=>fzK fz (.d (.fn f ds)) k kw:=by
 rw [lC,aCN]
 simp only [eH]
 cases bB (fun x=>mJ (lk bl none) (cX (lk fr .any) x)) caps with
 | none=>rfl
 | some ds =>
  simp only [Option.bind_some]
  cases caps.flatMap fun x=>C8 (lk bl none) (cX (lk fr .any) x) <;> rfl
def JI (fr:List (Nat × V)) (bl:List (Nat × Option aM)) (caps:List D):List dG->(List D->List (Nat × Option aM)->Option β)->Option β
 | [],k=>k caps []
 | x :: l,k=>dX fr x fun v=>yK v bl fun y f=>JI fr bl caps l fun ds g=>k (y :: ds) (f ++ g)
theorem aA1 (caps:List D) (k:List D->List (Nat × Option aM)->Option β):JI fr bl caps [] k = k caps []:=rfl
theorem W6 (caps:List D) (x:dG) (l:List dG) (k:List D->List (Nat × Option aM)->Option β):JI fr bl caps (x :: l) k = dX fr x fun v=>yK v bl fun y f=>JI fr bl caps l fun ds g=>k (y :: ds) (f ++ g):=rfl
theorem aDa (caps:List D) (l:List dG) (k:List D->List (Nat × Option aM)->Option β):JI fr bl caps l k = (bB (fun x=>jI (lk bl none) (cX (lk fr .any) x)) l).bind fun ds=>k (ds ++ caps) (l.flatMap fun x=>sW (lk bl none) (cX (lk fr .any) x)):=by
 induction l generalizing k with
 | nil=>rfl
 | cons x l ih =>
  simp only [JI,dX,yK,bB,ih,List.flatMap_cons]
  cases jI (lk bl none) (cX (lk fr .any) x) with
  | none=>rfl
  | some y=>cases bB (fun x=>jI (lk bl none) (cX (lk fr .any) x)) l <;> rfl
noncomputable def W1 (T:vW) (d:Nat) (v:V) (args:List dG) (fr:List (Nat × V)) (bl:List (Nat × Option aM)) (k:V->Option β) (kw:V->List (Nat × Option aM)->Option β):Option β:=match v with
 | .d (.fn f caps)=>JI fr bl caps args fun ds fz=>fJ T d bl f ds fz k kw
 | _=>none
theorem aC8 (f:Nat) (caps:List D) (args:List dG):W1 T d (.d (.fn f caps)) args fr bl k kw = JI fr bl caps args fun ds fz=>fJ T d bl f ds fz k kw:=rfl
theorem aAU (g:dG) (args:List dG):uG T d (.callv g args) fr bl k kw = dX fr g fun v=>W1 T d v args fr bl k kw:=by
 rw [lC]
 unfold dX
 simp only [eH]
 generalize cX (lk fr .any) g = v
 cases v with
 | d x=>cases x with
  | fn f caps =>
   simp only [W1,aDa]
   cases bB (fun x=>jI (lk bl none) (cX (lk fr .any) x)) args with
   | none=>rfl
   | some ds =>
    simp only [Option.bind_some,fJ]
    cases call T f (ds ++ caps) <;> rfl
  | _=>rfl
 | _=>rfl
def aJ6 (v:V) (i:Nat) (k:V->Option β):Option β:=match v with
 | .tup vs=>DZ vs i k
 | _=>none
theorem SF (x:dG) (i:Nat):uG T d (.extract x i) fr bl k kw = dX fr x fun v=>aJ6 v i k:=by
 unfold uG dX
 simp only [eH]
 generalize cX (lk fr .any) x = v
 cases v with
 | tup vs=>simp only [aJ6,LU]; cases vs[i]? <;> rfl
 | _=>rfl
theorem aKo (vs:List V) (i:Nat):aJ6 (.tup vs) i k = DZ vs i k:=rfl
def JH (m:yX) (fr:List (Nat × V)) (bl:List (Nat × Option aM)) (k:List (Nat × V)->List (Nat × Option aM)->Option β):Option β:=k (m.app ⟨fr,bl⟩).fr (m.app ⟨fr,bl⟩).bl
theorem aHM {k:Ex->St->Option β} (m:yX) (a:aT):eB T (.pre m a) ⟨fr,bl⟩ k = JH m fr bl fun fr' bl'=>eB T a ⟨fr',bl'⟩ k:=by
 rw [aGx]; rfl
theorem aHE {k:Ex->St->Option β} (m:yX):TY m k .normal ⟨fr,bl⟩ = JH m fr bl fun fr' bl'=>k .normal ⟨fr',bl'⟩:=by
 rw [aIn]; rfl
def wA (keep:List Nat) (bl:List (Nat × Option aM)) (v:V) (k:V->Option β):Option β:=k (E8 keep (lk bl none) v)
def LR (keep:List Nat) (fr:List (Nat × V)) (bl:List (Nat × Option aM)):List Nat->(List (Nat × V)->Option β)->Option β
 | [],k=>k []
 | t :: r,k=>qR fr t fun v=>wA keep bl v fun v'=>LR keep fr bl r fun l=>k ((t,v') :: l)
theorem aDK (keep l:List Nat):∀ (k:List (Nat × V)->Option β),LR keep fr bl l k = k (l.map fun t=>(t,E8 keep (lk bl none) (lk fr .any t))):=by
 induction l with
 | nil=>intro k; rfl
 | cons t l ih=>intro k; simp only [LR,qR,wA,ih,List.map_cons]
def AV (keep:List Nat) (bl:List (Nat × Option aM)) (b:Option aM) (k:Option aM->Option β):Option β:=k (b.bind (yG keep (lk bl none)))
def KY (keep:List Nat) (bl:List (Nat × Option aM)):List Nat->(List (Nat × Option aM)->Option β)->Option β
 | [],k=>k []
 | i :: r,k=>dF bl i fun b=>AV keep bl b fun b'=>KY keep bl r fun l=>k ((i,b') :: l)
theorem aDY (keep l:List Nat):∀ (k:List (Nat × Option aM)->Option β),KY keep bl l k = k (l.map fun i=>(i,(lk bl none i).bind (yG keep (lk bl none)))):=by
 induction l with
 | nil=>intro k; rfl
 | cons t l ih=>intro k; simp only [KY,dF,AV,ih,List.map_cons]
theorem aBU (keep:List Nat) (k:List (Nat × V)->Option β):LR keep fr bl [] k = k []:=rfl
theorem V0 (keep:List Nat) (t:Nat) (r:List Nat) (k:List (Nat × V)->Option β):LR keep fr bl (t :: r) k = qR fr t fun v=>wA keep bl v fun v'=>LR keep fr bl r fun l=>k ((t,v') :: l):=rfl
theorem Z0 (keep:List Nat) (k:List (Nat × Option aM)->Option β):KY keep bl [] k = k []:=rfl
theorem XI (keep:List Nat) (i:Nat) (r:List Nat) (k:List (Nat × Option aM)->Option β):KY keep bl (i :: r) k = dF bl i fun b=>AV keep bl b fun b'=>KY keep bl r fun l=>k ((i,b') :: l):=rfl
theorem aGt (live keep:List Nat) (k:List (Nat × V)->List (Nat × Option aM)->Option β):JH ⟨live,keep,[],[],[],[]⟩ fr bl k = LR keep fr bl live fun fr'=>KY keep bl keep fun bl'=>k fr' bl':=by
 rw [aDK,aDY]; rfl
def k8 (keep:List Nat) (i:Nat) (x y:Option β):Option β:=if keep.contains i = true then x else y
theorem NP (i:Nat) (r:List Nat) (x y:Option β):k8 (i :: r) i x y = x:=by simp [k8]
theorem KO (a i:Nat) (r:List Nat) (x y:Option β) (h:(i == a) = false):k8 (a :: r) i x y = k8 r i x y:=by
 unfold k8
 rw [List.contains_cons,h,Bool.false_or]
section
variable (keep:List Nat)
theorem aGI (x:D):wA keep bl (.d x) k = k (.d x):=rfl
theorem aBY:wA keep bl .nil k = k .nil:=rfl
def PR (keep:List Nat) (id off:Nat) (b:Option aM) (k:V->Option β):Option β:=match b with
 | some (.box _)=>k8 keep id (k (.ptr id off)) (k .any)
 | some (.fbox ds)=>k (.d (.ptr ds off))
 | _=>k .any
theorem X8 (id off:Nat) (cs:List V):PR keep id off (some (.box cs)) k = k8 keep id (k (.ptr id off)) (k .any):=rfl
theorem TE (id off:Nat) (ds:List D):PR keep id off (some (.fbox ds)) k = k (.d (.ptr ds off)):=rfl
theorem aAl (id off:Nat):wA keep bl (.ptr id off) k = dF bl id fun b=>PR keep id off b k:=by
 unfold wA dF PR
 simp only [E8,N9,tR]
 generalize lk bl none id = b
 cases b with
 | none=>rfl
 | some b=>cases b with
  | box cs=>simp only [k8]; split <;> rfl
  | _=>rfl
def M6 (id ver:Nat) (b:Option aM) (k:V->Option β):Option β:=match b with
 | some (.rows v _ _ _)=>if (ver == v) = true then k8 keep id (k (.own id 0)) (k .any) else k .any
 | some (.froz v rows)=>if ver = v then k (.d (.sl rows)) else k .any
 | _=>k .any
theorem aB7 (id ver:Nat):wA keep bl (.own id ver) k = dF bl id fun b=>M6 keep id ver b k:=by
 unfold wA dF M6 k8
 simp only [E8,N9,tR]
 generalize lk bl none id = b
 cases b with
 | none=>rfl
 | some b=>cases b with
  | rows v e s rows=>simp only; cases (ver == v) <;> cases keep.contains id <;> rfl
  | froz v rows=>simp only; split <;> rfl
  | _=>rfl
theorem RV (id v e s:Nat) (rows:List (List D)):M6 keep id v (some (.rows v e s rows)) k = k8 keep id (k (.own id 0)) (k .any):=by simp [M6]
theorem S9 (id v:Nat) (rows:List (List D)):M6 keep id v (some (.froz v rows)) k = k (.d (.sl rows)):=if_pos rfl
def xN (keep:List Nat) (bl:List (Nat × Option aM)):List V->(List V->Option β)->Option β
 | [],k=>k []
 | v :: cs,k=>k (tR keep (lk bl none) v :: cs.map (tR keep (lk bl none)))
theorem AQ (cs:List V) (k:List V->Option β):xN keep bl cs k = k (cs.map (tR keep (lk bl none))):=by cases cs <;> rfl
theorem X9 (k:List V->Option β):xN keep bl [] k = k []:=rfl
theorem aCQ (x:D) (cs:List V) (k:List V->Option β):xN keep bl (.d x :: cs) k = xN keep bl cs fun l=>k (.d x :: l):=by simp only [AQ]; rfl
theorem aDp (cs:List V) (k:List V->Option β):xN keep bl (.nil :: cs) k = xN keep bl cs fun l=>k (.nil :: l):=by simp only [AQ]; rfl
theorem W9 (id ver:Nat) (cs:List V) (k:List V->Option β):xN keep bl (.own id ver :: cs) k = wA keep bl (.own id ver) fun v=>xN keep bl cs fun l=>k (v :: l):=by simp only [AQ]; rfl
theorem QX (ds:List D) (b:Nat->Option aM):(bQ ds).map (tR keep b) = bQ ds:=by
 induction ds with
 | nil=>rfl
 | cons x ds ih=>show tR keep b (.d x) :: (bQ ds).map (tR keep b) = _; rw [ih]; rfl
theorem TQ (k:Option aM->Option β):AV keep bl none k = k none:=rfl
theorem VY (c:V) (cs:List V) (k:Option aM->Option β):AV keep bl (some (.box (c :: cs))) k = xN keep bl (c :: cs) fun l=>k (some (.box l)):=by rw [AQ]; rfl
theorem NR (ds:List D) (k:Option aM->Option β):AV keep bl (some (.box (bQ ds))) k = k (some (.box (bQ ds))):=by
 show k (some (.box ((bQ ds).map (tR keep (lk bl none))))) = _
 rw [QX]
theorem SQ (v e s:Nat) (rows:List (List D)) (k:Option aM->Option β):AV keep bl (some (.rows v e s rows)) k = k (some (.rows 0 e s rows)):=rfl
end
def aK9 (res:List nC):Ex->St->Option D
 | .normal,s=>match bB (rH s) res with
  | none=>none
  | some [v]=>jI s.blk v
  | some vs=>toD s.blk (.tup vs)
 | .ret,s=>match bB (rH s) res with
  | none=>none
  | some [v]=>jI s.blk v
  | some vs=>toD s.blk (.tup vs)
 | .exit _,_=>none
def FV (fr:List (Nat × V)) (bl:List (Nat × Option aM)):List nC->(List D->Option D)->Option D
 | [],k=>k []
 | .tmp t :: r,k=>qR fr t fun v=>yK v bl fun x _=>FV fr bl r fun l=>k (x :: l)
 | .cell t size isAgg :: r,k=>qR fr t fun p=>xJ size isAgg p bl fun v=>yK v bl fun x _=>FV fr bl r fun l=>k (x :: l)
def IE:List D->Option D
 | [x]=>some x
 | l=>some (.tup l)
theorem LF (size:Nat) (a:Bool) (p:V):xJ size a p bl k = (GS size a p (lk bl none)).bind fun r=>k r.1:=by
 have h:=UN (T:=fun _=>none) (d:=0) (fr:=[]) (bl:=bl) (k:=k) (kw:=fun v _=>k v) size a (.c p)
 have e:dX [] (.c p) (fun v=>xJ size a v bl k) = xJ size a p bl k:=rfl
 rw [← e,← h,lC,DA]
 show AR (GS size a p (lk bl none)) k (fun v _=>k v) = _
 cases GS size a p (lk bl none) with
 | none=>rfl
 | some r=>obtain ⟨v,wr⟩:=r; cases wr <;> rfl
theorem FY (fr:List (Nat × V)) (bl:List (Nat × Option aM)):St.blk ⟨fr,bl⟩ = lk bl none:=rfl
theorem aHK (res:List nC):∀ (k:List D->Option D),FV fr bl res k = (bB (rH ⟨fr,bl⟩) res).bind fun vs=>(bB (jI (lk bl none)) vs).bind k:=by
 induction res with
 | nil=>intro k; rfl
 | cons r res ih =>
  intro k
  cases r with
  | tmp t =>
   simp only [FV,qR,yK,ih,bB,rH,FP,FY]
   cases h1:bB (rH ⟨fr,bl⟩) res with
   | none =>
    simp only [Option.bind_none]
    cases jI (lk bl none) (lk fr .any t) <;> rfl
   | some vs =>
    simp only [Option.bind_some,bB]
    cases jI (lk bl none) (lk fr .any t) with
    | none=>rfl
    | some x=>cases bB (jI (lk bl none)) vs <;> rfl
  | cell t size isAgg =>
   simp only [FV,qR,LF,yK,ih,bB,rH,DA,FP,FY]
   cases GS size isAgg (lk fr .any t) (lk bl none) with
   | none=>rfl
   | some q =>
    obtain ⟨v,wr⟩:=q
    simp only [Option.bind_some]
    cases h1:bB (rH ⟨fr,bl⟩) res with
    | none =>
     simp only [Option.bind_none]
     cases jI (lk bl none) v <;> rfl
    | some vs =>
     simp only [Option.bind_some,bB]
     cases jI (lk bl none) v with
     | none=>rfl
     | some x=>cases bB (jI (lk bl none)) vs <;> rfl
theorem YX (res:List nC):(match bB (rH ⟨fr,bl⟩) res with
  | none=>none
  | some [v]=>jI (lk bl none) v
  | some vs=>toD (lk bl none) (.tup vs)) = FV fr bl res IE:=by
 rw [aHK]
 cases bB (rH ⟨fr,bl⟩) res with
 | none=>rfl
 | some vs =>
  simp only [Option.bind_some]
  cases vs with
  | nil=>rfl
  | cons v vs =>
   cases vs with
   | nil =>
    simp only [bB]
    cases jI (lk bl none) v <;> rfl
   | cons w ws =>
    show (bB (jI (lk bl none)) (v :: w :: ws)).map D.tup = _
    simp only [bB]
    cases jI (lk bl none) v with
    | none=>rfl
    | some x=>cases jI (lk bl none) w with
     | none=>rfl
     | some y=>cases bB (jI (lk bl none)) ws <;> rfl
theorem aIW (res:List nC):aK9 res .ret ⟨fr,bl⟩ = FV fr bl res IE:=YX res
theorem aCZ (k:List D->Option D):FV fr bl [] k = k []:=rfl
theorem aDG (t:Nat) (r:List nC) (k:List D->Option D):FV fr bl (.tmp t :: r) k = qR fr t fun v=>yK v bl fun x _=>FV fr bl r fun l=>k (x :: l):=rfl
theorem aBD (t size:Nat) (isAgg:Bool) (r:List nC) (k:List D->Option D):FV fr bl (.cell t size isAgg :: r) k = qR fr t fun p=>xJ size isAgg p bl fun v=>yK v bl fun x _=>FV fr bl r fun l=>k (x :: l):=rfl
theorem aHw (x:D):IE [x] = some x:=rfl
theorem aFJ (x y:D) (l:List D):IE (x :: y :: l) = some (.tup (x :: y :: l)):=rfl
theorem dN {T:vW} {f np nt:Nat} {res:List nC} {body:aT} (hf:T f = some (.code ⟨np,nt,res,body,false,false⟩)) (ds:List D) (hl:ds.length = np) (hlt:iO 0 ds = none):Vm.call T f ds = eB T body ⟨oJ 0 ds,[]⟩ (aK9 res):=by
 rw [UH hf ds hl hlt]
 unfold eB
 cases Vm.ev T body ⟨oJ 0 ds,[]⟩ with
 | none=>rfl
 | some q =>
  obtain ⟨e,s⟩:=q
  cases e <;> rfl
def Y1:List V->V
 | [v]=>v
 | vs=>.tup vs
def NW (fr:List (Nat × V)) (bl:List (Nat × Option aM)):List nC->(List V->Option D)->Option D
 | [],k=>k []
 | .tmp t :: r,k=>qR fr t fun v=>NW fr bl r fun l=>k (v :: l)
 | .cell t size isAgg :: r,k=>qR fr t fun p=>xJ size isAgg p bl fun v=>NW fr bl r fun l=>k (v :: l)
theorem aHu (res:List nC):∀ (k:List V->Option D),NW fr bl res k = (bB (rH ⟨fr,bl⟩) res).bind k:=by
 induction res with
 | nil=>intro k; rfl
 | cons r res ih =>
  intro k
  cases r with
  | tmp t =>
   simp only [NW,qR,ih,bB,rH,FP]
   cases bB (rH ⟨fr,bl⟩) res <;> rfl
  | cell t size isAgg =>
   simp only [NW,qR,LF,ih,bB,rH,DA,FP,FY]
   cases GS size isAgg (lk fr .any t) (lk bl none) with
   | none=>rfl
   | some q =>
    obtain ⟨v,wr⟩:=q
    simp only [Option.bind_some]
    cases bB (rH ⟨fr,bl⟩) res <;> rfl
def aLA (res:List nC):Ex->St->Option D
 | .normal,s=>match bB (rH s) res with
  | none=>none
  | some [v]=>s7 s.blk v
  | some vs=>s7 s.blk (.tup vs)
 | .ret,s=>match bB (rH s) res with
  | none=>none
  | some [v]=>s7 s.blk v
  | some vs=>s7 s.blk (.tup vs)
 | .exit _,_=>none
theorem aIi (res:List nC):(match bB (rH ⟨fr,bl⟩) res with
  | none=>none
  | some [v]=>s7 (lk bl none) v
  | some vs=>s7 (lk bl none) (.tup vs)) = NW fr bl res fun vs=>s7 (lk bl none) (Y1 vs):=by
 rw [aHu]
 cases bB (rH ⟨fr,bl⟩) res with
 | none=>rfl
 | some vs =>
  cases vs with
  | nil=>rfl
  | cons v vs=>cases vs <;> rfl
theorem aJr (res:List nC):aLA res .ret ⟨fr,bl⟩ = NW fr bl res fun vs=>s7 (lk bl none) (Y1 vs):=aIi res
theorem aDx (k:List V->Option D):NW fr bl [] k = k []:=rfl
theorem aEL (t:Nat) (r:List nC) (k:List V->Option D):NW fr bl (.tmp t :: r) k = qR fr t fun v=>NW fr bl r fun l=>k (v :: l):=rfl
theorem aGD (x:V):Y1 [x] = x:=rfl
theorem aHa (x y:V) (l:List V):Y1 (x :: y :: l) = .tup (x :: y :: l):=rfl
theorem GK {T:vW} {f np nt:Nat} {res:List nC} {body:aT} (hf:T f = some (.code ⟨np,nt,res,body,true,false⟩)) (ds:List D) (hl:ds.length = np) (hlt:iO 0 ds = none):Vm.call T f ds = eB T body ⟨oJ 0 ds,[]⟩ (aLA res):=by
 rw [UH hf ds hl hlt]
 unfold eB
 cases Vm.ev T body ⟨oJ 0 ds,[]⟩ with
 | none=>rfl
 | some q =>
  obtain ⟨e,s⟩:=q
  cases e <;> rfl
def aDv (v:V) (b:Option aM) (x y:Option β):Option β:=match v,b with
 | .nil,none=>x
 | _,_=>y
theorem aJ2 (x y:Option β):aDv .nil none x y = x:=rfl
theorem aDH (i v:Nat) (b:Option aM) (x y:Option β):aDv (.own i v) b x y = y:=rfl
theorem aGF (live keep:List Nat) (t i e s:Nat) (l:List (Nat × Nat × Nat × Nat)) (c:List (Nat × Nat × Nat × Nat × Nat)) (ft:List Nat) (fc:List (Nat × Nat)) (k:List (Nat × V)->List (Nat × Option aM)->Option β) (hs:0 < s) :
  JH ⟨live,keep,(t,i,e,s) :: l,c,ft,fc⟩ fr bl k = qR fr t fun v=>dF bl i fun b=>aDv v b (ON e [] fun rows=>JH ⟨live,keep,l,c,ft,fc⟩ ((t,.own i 0) :: fr) ((i,some (.rows 0 e s rows)) :: bl) k) (JH ⟨live,keep,l,c,ft,fc⟩ fr bl k):=by
 show JH ⟨live,keep,(t,i,e,s) :: l,c,ft,fc⟩ fr bl k = aDv (lk fr .any t) (lk bl none i) _ _
 unfold JH
 rw [aKC]
 unfold mkT ON
 show k (yX.app ⟨live,keep,l,c,ft,fc⟩ (match lk fr .any t,lk bl none i with | .nil,none=>if 0 < s then _ else _ | _,_=>_)).fr (yX.app ⟨live,keep,l,c,ft,fc⟩ (match lk fr .any t,lk bl none i with | .nil,none=>if 0 < s then _ else _ | _,_=>_)).bl = _
 generalize lk fr .any t = v
 generalize lk bl none i = b
 cases v with
 | nil=>cases b with
  | none=>simp only [aDv,if_pos hs]
  | some b=>rfl
 | _=>rfl
theorem XE (k:List (Nat × Nat × V)->Option β):FN fr [] k = k []:=rfl
theorem UK (o s:Nat) (x:dG) (l:List (Nat × Nat × dG)) (k:List (Nat × Nat × V)->Option β):FN fr ((o,s,x) :: l) k = dX fr x fun v=>FN fr l fun vs=>k ((o,s,v) :: vs):=rfl
theorem aAf (l:List (Nat × Nat × dG)):∀ (k:List (Nat × Nat × V)->Option β),FN fr l k = k (l.map fun p=>(p.1,p.2.1,cX (lk fr .any) p.2.2)):=by
 induction l with
 | nil=>intro k; rfl
 | cons p l ih=>intro k; obtain ⟨o,s,x⟩:=p; simp only [FN,dX,ih,List.map_cons]
def M2 (z:List V):List (Nat × Nat × V)->(List V->Option β)->Option β
 | [],k=>k z
 | (off,size,v) :: r,k=>BZ v fun cs=>GQ cs size (u4 z off cs fun z'=>M2 z' r k)
theorem aBm (z:List V) (k:List V->Option β):M2 z [] k = k z:=rfl
theorem VU (z:List V) (off size:Nat) (v:V) (r:List (Nat × Nat × V)) (k:List V->Option β):M2 z ((off,size,v) :: r) k = BZ v fun cs=>GQ cs size (u4 z off cs fun z'=>M2 z' r k):=rfl
theorem aCt (ps:List (Nat × Nat × V)):∀ (z:List V) (k:List V->Option β),M2 z ps k = (C7 z ps).bind k:=by
 induction ps with
 | nil=>intro z k; rfl
 | cons p r ih =>
  intro z k
  obtain ⟨off,size,v⟩:=p
  simp only [M2,C7,BZ,GQ,u4,ih]
  by_cases h1:v.known = true
  ·by_cases h2:v.cells.length = size
   ·subst h2
    by_cases h3:off + v.cells.length <= z.length
    ·rw [if_pos h1,if_pos rfl,if_pos h3,if_pos ⟨rfl,h3,h1⟩]
    ·rw [if_pos h1,if_pos rfl,if_neg h3,if_neg (fun q=>h3 q.2.1)]; rfl
   ·rw [if_pos h1,if_neg h2,if_neg (fun q=>h2 q.1)]; rfl
  ·rw [if_neg h1,if_neg (fun q=>h1 q.2.2)]; rfl
theorem aA7 (z:List V) (parts:List (Nat × Nat × dG)):uG T d (.build z parts) fr bl k kw = FN fr parts fun ps=>M2 z ps fun cs=>k (.agg cs):=by
 rw [lC,aAf,aCt]
 simp only [eH]
 have e1:(parts.map fun x=>match x with | (o,s,x)=>(o,s,cX (lk fr .any) x)) = parts.map fun p=>(p.1,p.2.1,cX (lk fr .any) p.2.2):=rfl
 rw [e1]
 cases C7 z (parts.map fun p=>(p.1,p.2.1,cX (lk fr .any) p.2.2)) <;> rfl
theorem aI (ds:List D):(bQ ds).length = ds.length:=by simp [bQ]
def aIk (bytes:Nat) (a b:V) (x:Nat->Option β):Option β:=match a,b with
 | .d (.int _ n),.d (.int _ m)=>if 0 <= n ∧ n <= m ∧ (bytes:Int) * m <= 281474976710656 ∧ m <= 9223372036854775807 then x n.toNat else none
 | _,_=>none
theorem aI2 (bytes:Nat) (i j:IntKind) (n m:Int) (x:Nat->Option β):aIk bytes (.d (.int i n)) (.d (.int j m)) x = if 0 <= n ∧ n <= m ∧ (bytes:Int) * m <= 281474976710656 ∧ m <= 9223372036854775807 then x n.toNat else none:=rfl
theorem aIS {α:Type} (e size bytes:Nat) (z:List D) (c:α->List D) (x:α) (hz:z = c x) (l cp:dG):uG T d (.makeSlice e size bytes z l cp) fr bl k kw = dF bl d fun b=>jH b (dX fr l fun a=>dX fr cp fun b=>aIk bytes a b fun n=>kw (.own d 0) [(d,some (.rows 0 e size (cM c (List.replicate n x))))]):=NC e size bytes z c x hz l cp
theorem aCy {k:Ex->St->Option β} (c:dG) (a b:aT):eB T (.cond c a b) ⟨fr,bl⟩ k = dX fr c fun v=>S6 v (eB T a ⟨fr,bl⟩ k) (eB T b ⟨fr,bl⟩ k):=aEH c a b _
theorem aF3 (a b c:List (Nat × Option aM)) (t:Nat) (k:Option aM->Option β):dF ((a ++ b) ++ c) t k = dF (a ++ (b ++ c)) t k:=by rw [List.append_assoc]
def ZE (rows:List (List D)) (k:V->Option β):Option β:=k (.d (.int .i64 rows.length))
theorem aF7 {α:Type} (c:α->List D) (xs:List α):ZE (cM c xs) k = k (.d (.int .i64 (xs.length:Int))):=by unfold ZE; rw [aL]
theorem aIu:ZE [] k = k (.d (.int .i64 0)):=rfl
theorem aH7 (x:dG):uG T d (.len x) fr bl k kw = dX fr x fun a=>E6 a bl fun rows=>ZE rows k:=aGP x
end
end Vm
end Go.Proofs.Ytiimibimkpimbaa
set_option linter.unusedVariables false
set_option linter.unusedSimpArgs false
namespace Go.Proofs.Ytiimibimkpimbaa
namespace Vm
open Go.RowKit
section
variable {β:Type} {T:vW}
def H6 (d:Nat) (op:jG) (fr:List (Nat × V)) (bl:List (Nat × Option aM)) (k:List Nat->Option β):Option β :=
 k ((if op.new = true then [d] else []) ++ ((op.peeks.flatMap fun x=>(cX (lk fr .any) x).ids) ++ op.deeps.flatMap fun x=>(cX (lk fr .any) x).dids (lk bl none)))
def G3 (wr:List (Nat × Option aM)) (k:List Nat->Option β):Option β:=k (wr.map (·.1))
theorem aAL (k:List Nat->Option β):G3 [] k = k []:=rfl
theorem aF4 (i:Nat) (b:Option aM) (w:List (Nat × Option aM)) (k:List Nat->Option β):G3 ((i,b) :: w) k = G3 w fun l=>k (i :: l):=rfl
theorem aE0 (w:List (Nat × Option aM)) (k:List Nat->Option β):G3 ([] ++ w) k = G3 w k:=rfl
theorem aFo (p:Nat × Option aM) (v w:List (Nat × Option aM)) (k:List Nat->Option β):G3 ((p :: v) ++ w) k = G3 (p :: (v ++ w)) k:=rfl
theorem X4 (d st:Nat) (op:jG) (l:List bK) (fr:List (Nat × V)) (bl:List (Nat × Option aM)) (fp:List Fp) (k:St->List Fp->Option β) :
  m9 T (⟨some d,op,none,st⟩ :: l) ⟨fr,bl⟩ fp k = uG T st op fr bl (fun v=>H6 st op fr bl fun f=>m9 T l ⟨(d,v) :: fr,bl⟩ ((f,[]) :: fp) k) (fun v wr=>G3 wr fun ws=>H6 st op fr bl fun f=>m9 T l ⟨(d,v) :: fr,wr ++ bl⟩ ((f,ws) :: fp) k):=by
 rw [MY]
 unfold uG G2 H6
 show (match eH (call T) st (cX (lk fr .any)) (lk bl none) op with | some (v,wr)=>_ | none=>none) = _
 cases eH (call T) st (cX (lk fr .any)) (lk bl none) op with
 | none=>rfl
 | some r=>obtain ⟨v,wr⟩:=r; cases wr <;> rfl
theorem T4 (st:Nat) (op:jG) (l:List bK) (fr:List (Nat × V)) (bl:List (Nat × Option aM)) (fp:List Fp) (k:St->List Fp->Option β) :
  m9 T (⟨none,op,none,st⟩ :: l) ⟨fr,bl⟩ fp k = uG T st op fr bl (fun _=>H6 st op fr bl fun f=>m9 T l ⟨fr,bl⟩ ((f,[]) :: fp) k) (fun _ wr=>G3 wr fun ws=>H6 st op fr bl fun f=>m9 T l ⟨fr,wr ++ bl⟩ ((f,ws) :: fp) k):=by
 rw [MY]
 unfold uG G2 H6
 show (match eH (call T) st (cX (lk fr .any)) (lk bl none) op with | some (v,wr)=>_ | none=>none) = _
 cases eH (call T) st (cX (lk fr .any)) (lk bl none) op with
 | none=>rfl
 | some r=>obtain ⟨v,wr⟩:=r; cases wr <;> rfl
theorem aB6 (fr:List (Nat × V)) (bl:List (Nat × Option aM)) (fp:List Fp) (k:St->List Fp->Option β):m9 T [] ⟨fr,bl⟩ fp k = k ⟨fr,bl⟩ fp:=rfl
theorem aGy {l:List bK} {ps:List (Nat × Nat)} {s:St} {fp:List Fp} (k:St->Option β) (h:GW l fp.reverse ps = true):aFT l ps k s fp = k s:=if_pos h
theorem zT {d:Option Nat} {st:Nat} {g g' : Option (Nat × Bool)} {fr:Nat->V} {bl:Nat->Option aM} {wr:List (Nat × Option aM)} (t:Nat) (b:Bool) (op:jG):uY ⟨d,b8 t b op,g,st⟩ fr bl wr = uY ⟨d,op,g',st⟩ fr bl wr:=by
 cases op with
 | pick c x y =>
  cases c with
  | t t' =>
   simp only [b8]
   split <;> rfl
  | c v=>rfl
 | _=>rfl
theorem XL {C:Nat->List D->Option D} {s:St} {t:Nat} {b:Bool} (h:s.get t = .d (.bool b)) (o:bK):jZ C (b9 t b o) s = jZ C o s:=by
 obtain ⟨d,op,g,st⟩:=o
 cases g with
 | some g =>
  obtain ⟨t',w⟩:=g
  simp only [b9]
  split
  ·rename_i e
   subst e
   split
   ·rename_i e
    subst e
    simp only [jZ,bK.wants,h,wW h]
    cases w <;> simp only [vN] <;> cases eH C st (cX s.get) s.blk op <;> first | rfl | (simp [zT (g':=some (t',false)),zT (g':=some (t',true))]; done) | (simp [zT (g':=some (t',false)),zT (g':=some (t',true))]; rfl)
   ·rename_i e
    simp only [jZ,bK.wants,h,eH,cX]
    cases w <;> cases b <;> simp_all [vN,uY,jG.new,jG.peeks,jG.deeps]
  ·simp only [jZ,bK.wants,wW h]
   cases vN (s.get t') w <;> simp only [] <;> cases eH C st (cX s.get) s.blk op <;> simp [zT (g':=some (t',w))]
 | none =>
  simp only [b9,jZ,bK.wants,wW h]
  cases eH C st (cX s.get) s.blk op <;> simp [zT (g':=none)]
theorem X6 {C:Nat->List D->Option D} {o:bK} {s s' : St} {p:Fp} {t:Nat} (h:¬ o.dst = some t) (e:jZ C o s = some (s',p)):s'.get t = s.get t:=by
 unfold jZ at e
 split at e
 ·split at e
  ·cases e; exact BG h
  ·cases e
 ·cases e; exact BG h
 ·cases e
theorem FE {t:Nat} {b:Bool}:∀ (l:List bK) {s:St} (fp:List Fp) (k:St->List Fp->Option β) (h:s.get t = .d (.bool b)),m9 T (bY t b l) s fp k = m9 T l s fp k
 | [],s,fp,k,h=>rfl
 | o :: l,s,fp,k,h=>by
  simp only [bY,m9,XL h]
  cases e:jZ (call T) o s with
  | none=>rfl
  | some q =>
   obtain ⟨s',p⟩:=q
   simp only
   split
   ·rfl
   ·rename_i hd
    exact FE l _ k (by rw [X6 hd e]; exact h)
noncomputable def EL (T:vW) (v:V) (t:Nat) (l:List bK) (s:St) (fp:List Fp) (k:St->List Fp->Option β):Option β:=match v with
 | .d (.bool b)=>if b = true then m9 T (bY t true l) s fp k else m9 T (bY t false l) s fp k
 | .tup []=>match l with
  | o :: r=>m9 T r (s.put o.dst (.tup []) []) (([],[]) :: fp) k
  | []=>none
 | _=>none
theorem SV (d:Option Nat) (op:jG) (t:Nat) (w:Bool) (st:Nat) (l:List bK) (fr:List (Nat × V)) (bl:List (Nat × Option aM)) (fp:List Fp) (k:St->List Fp->Option β) :
  m9 T (⟨d,op,some (t,w),st⟩ :: l) ⟨fr,bl⟩ fp k = qR fr t fun v=>EL T v t (⟨d,op,some (t,w),st⟩ :: l) ⟨fr,bl⟩ fp k:=by
 show _ = EL T (lk fr .any t) t _ _ fp k
 generalize hv:lk fr .any t = v
 have bad:∀ (q:vN v w = .bad),m9 T (⟨d,op,some (t,w),st⟩ :: l) ⟨fr,bl⟩ fp k = none:=by
  intro q
  simp only [m9,jZ,bK.wants]
  rw [show (St.get ⟨fr,bl⟩ t) = v from hv,q]
 cases v with
 | d x =>
  cases x with
  | bool b =>
   simp only [EL]
   cases b with
   | true=>rw [if_pos rfl,FE (t:=t) (b:=true) (s:=⟨fr,bl⟩) _ _ _ hv]
   | false=>rw [if_neg (by decide),FE (t:=t) (b:=false) (s:=⟨fr,bl⟩) _ _ _ hv]
  | _=>exact bad rfl
 | tup vs =>
  cases vs with
  | nil =>
   simp only [EL,m9,jZ,bK.wants]
   rw [show (St.get ⟨fr,bl⟩ t) = _ from hv]
   rfl
  | cons x l=>exact bad rfl
 | _=>exact bad rfl
theorem aBj (b:Bool) (t:Nat) (l:List bK) (s:St) (fp:List Fp) (k:St->List Fp->Option β):EL T (.d (.bool b)) t l s fp k = if b = true then m9 T (bY t true l) s fp k else m9 T (bY t false l) s fp k:=rfl
theorem ZU (t d st:Nat) (op:jG) (g:Option (Nat × Bool)) (l:List bK) (fr:List (Nat × V)) (bl:List (Nat × Option aM)) (fp:List Fp) (k:St->List Fp->Option β):EL T (.tup []) t (⟨some d,op,g,st⟩ :: l) ⟨fr,bl⟩ fp k = m9 T l ⟨(d,.tup []) :: fr,bl⟩ (([],[]) :: fp) k:=rfl
theorem yE {l l' : List bK} {s:St} {fp:List Fp} {k:St->List Fp->Option β} (h:l = l'):m9 T l s fp k = m9 T l' s fp k:=by rw [h]
theorem aFQ (x:D) (ds:List D) (k:D->Option β):iL (x :: ds) 0 k = k x:=rfl
section
variable {d:Nat} {fr:List (Nat × V)} {bl:List (Nat × Option aM)} {k:List Nat->Option β}
def DC (v:V) (k:List Nat->Option β):Option β:=k v.ids
theorem aJO (x:D):DC (.d x) k = k []:=rfl
theorem aEB (i o:Nat):DC (.ptr i o) k = k [i]:=rfl
theorem aCk (i o:Nat):DC (.own i o) k = k [i]:=rfl
theorem aAv (i v j o:Nat):DC (.orow i v j o) k = k [i]:=rfl
def MK (bl:List (Nat × Option aM)):List V->(List Nat->Option β)->Option β
 | [],k=>k []
 | c :: cs,k=>k (c.dids1 (lk bl none) ++ cs.flatMap (V.dids1 (lk bl none)))
def DY (bl:List (Nat × Option aM)) (v:V) (k:List Nat->Option β):Option β:=k (v.dids (lk bl none))
theorem OM (cs:List V):MK bl cs k = k (cs.flatMap (V.dids1 (lk bl none))):=by cases cs <;> rfl
theorem XR:MK bl [] k = k []:=rfl
theorem aFb (x:D) (cs:List V):MK bl (.d x :: cs) k = MK bl cs k:=by simp only [OM]; rfl
theorem aFR (x:D):DY bl (.d x) k = k []:=rfl
theorem aAc (i o:Nat):DY bl (.own i o) k = k [i]:=rfl
theorem aAZ (cs:List V):DY bl (.agg cs) k = MK bl cs k:=by rw [OM]; rfl
theorem UC (ds:List D):(bQ ds).flatMap (V.dids1 (lk bl none)) = []:=by
 induction ds with
 | nil=>rfl
 | cons x ds ih=>exact ih
theorem XK (ds:List D):DY bl (oC ds) k = k []:=by
 show k ((bQ ds).flatMap (V.dids1 (lk bl none))) = _
 rw [UC]
theorem aDf (x:dG):H6 d (.move x) fr bl k = k []:=rfl
theorem aAG (z:List V):H6 d (.alloc z) fr bl k = k [d]:=rfl
theorem aAC (z:List V) (ps:List (Nat × Nat × dG)):H6 d (.build z ps) fr bl k = k []:=rfl
theorem fp1 (l:List Nat):([]:List Nat) ++ ((l ++ []) ++ []) = l:=by simp
theorem aES (s:Nat) (a:Bool) (x:dG):H6 d (.load s a x) fr bl k = dX fr x fun v=>DC v k:=by
 show k ([] ++ (((cX (lk fr .any) x).ids ++ []) ++ [])) = _
 rw [fp1]; rfl
theorem Q1 (x:dG):H6 d (.nilCheck x) fr bl k = dX fr x fun v=>DC v k:=by
 show k ([] ++ (((cX (lk fr .any) x).ids ++ []) ++ [])) = _
 rw [fp1]; rfl
theorem NZ (o:Nat) (x:dG):H6 d (.fieldAddr o x) fr bl k = dX fr x fun v=>DC v k:=by
 show k ([] ++ (((cX (lk fr .any) x).ids ++ []) ++ [])) = _
 rw [fp1]; rfl
theorem aBR (s:Nat) (x:dG) (lo hi:Option dG):H6 d (.slice s x lo hi) fr bl k = dX fr x fun v=>DC v k:=by
 show k ([] ++ (((cX (lk fr .any) x).ids ++ []) ++ [])) = _
 rw [fp1]; rfl
theorem NT (s:Nat) (x i:dG):H6 d (.indexAddr s x i) fr bl k = dX fr x fun v=>DC v k:=by
 show k ([] ++ (((cX (lk fr .any) x).ids ++ []) ++ [])) = _
 rw [fp1]; rfl
theorem aAN (s:Nat) (x v:dG):H6 d (.store s x v) fr bl k = dX fr x fun a=>DC a fun l=>dX fr v fun b=>DY bl b fun m=>k (l ++ m):=by
 show k ([] ++ (((cX (lk fr .any) x).ids ++ []) ++ ((cX (lk fr .any) v).dids (lk bl none) ++ []))) = _
 rw [List.nil_append,List.append_nil,List.append_nil]; rfl
theorem VZ (e s b:Nat) (x y:dG):H6 d (.append e s b x y) fr bl k = dX fr x fun u=>DC u fun l=>dX fr y fun v=>DC v fun m=>k (d :: (l ++ m)):=by
 show k ([d] ++ (((cX (lk fr .any) x).ids ++ ((cX (lk fr .any) y).ids ++ [])) ++ [])) = _
 rw [List.append_nil,List.append_nil]; rfl
def DX (fr:List (Nat × V)) (bl:List (Nat × Option aM)):List dG->(List Nat->Option β)->Option β
 | [],k=>k []
 | x :: l,k=>dX fr x fun v=>DY bl v fun m=>DX fr bl l fun n=>k (m ++ n)
theorem OD (l:List dG):∀ (k:List Nat->Option β),DX fr bl l k = k (l.flatMap fun x=>(cX (lk fr .any) x).dids (lk bl none)):=by
 induction l with
 | nil=>intro k; rfl
 | cons x l ih=>intro k; simp only [DX,dX,DY,ih,List.flatMap_cons]
theorem XU (k:List Nat->Option β):DX fr bl [] k = k []:=rfl
theorem UB (x:dG) (l:List dG) (k:List Nat->Option β):DX fr bl (x :: l) k = dX fr x fun v=>DY bl v fun m=>DX fr bl l fun n=>k (m ++ n):=rfl
theorem aCx (f:Nat) (args:List dG):H6 d (.call f args) fr bl k = DX fr bl args k:=by
 rw [OD]; rfl
theorem aBS (g:dG) (args:List dG):H6 d (.callv g args) fr bl k = DX fr bl args k:=by
 rw [OD]; rfl
def FF (fr:List (Nat × V)) (bl:List (Nat × Option aM)):List (Nat × dG)->(List Nat->Option β)->Option β
 | [],k=>k []
 | (_,x) :: l,k=>dX fr x fun v=>DY bl v fun m=>FF fr bl l fun n=>k (m ++ n)
theorem aBp (l:List (Nat × dG)):∀ (k:List Nat->Option β),FF fr bl l k = k ((l.map fun p=>p.2).flatMap fun x=>(cX (lk fr .any) x).dids (lk bl none)):=by
 induction l with
 | nil=>intro k; rfl
 | cons x l ih=>intro k; obtain ⟨i,x⟩:=x; simp only [FF,dX,DY,ih,List.map_cons,List.flatMap_cons]
theorem U2 (k:List Nat->Option β):FF fr bl [] k = k []:=rfl
theorem TI (i:Nat) (x:dG) (l:List (Nat × dG)) (k:List Nat->Option β):FF fr bl ((i,x) :: l) k = dX fr x fun v=>DY bl v fun m=>FF fr bl l fun n=>k (m ++ n):=rfl
theorem LS (e s n:Nat) (z:List D) (ps:List (Nat × dG)):H6 d (.buildSlice e s z n ps) fr bl k = FF fr bl ps fun l=>k (d :: l):=by
 rw [aBp]; rfl
theorem aF6 (c:Nat) (op:BinOp) (x y:dG):H6 d (.bin c op x y) fr bl k = k []:=rfl
theorem aIp (ks:List Nat) (n:Bool) (x y:dG):H6 d (.eqS ks n x y) fr bl k = k []:=rfl
theorem aKk (op:UnOp) (x:dG):H6 d (.un op x) fr bl k = k []:=rfl
theorem SC (x:dG) (i:Nat):H6 d (.extract x i) fr bl k = k []:=rfl
theorem aEz {k:Ex->St->Option β} (l:List bK) (ps:List (Nat × Nat)):eB T (.region l (some ps)) ⟨fr,bl⟩ k = m9 T l ⟨fr,bl⟩ [] (aFT l ps (k .normal)):=by
 rw [aD6,aGL]
end
section
variable {d:Nat} {fr:List (Nat × V)} {bl:List (Nat × Option aM)} {k:V->Option β} {kw:V->List (Nat × Option aM)->Option β}
def fzN (id:Nat) (f:List (Nat × Option aM)) (x:Option β):Option β:=if w8 id f = true then x else none
theorem OV (id:Nat) (b:List (Nat × Option aM)):∀ a:List (Nat × Option aM),w8 id (a ++ b) = if w8 id a = true then w8 id b else false
 | []=>rfl
 | (i,x) :: a=>by
  simp only [List.cons_append,w8]
  by_cases h:i = id
  ·simp [h]
  ·simp only [if_neg h]; exact OV id b a
theorem aHf (id:Nat) (x:Option β):fzN id [] x = x:=rfl
theorem aKW (id i:Nat) (b:Option aM) (w:List (Nat × Option aM)) (x:Option β) (h:(i == id) = false):fzN id ((i,b) :: w) x = fzN id w x:=by
 have h:¬ i = id:=by simpa using h
 simp only [fzN,w8,if_neg h]
theorem aHc (id:Nat) (a b:List (Nat × Option aM)) (x:Option β):fzN id (a ++ b) x = fzN id a (fzN id b x):=by
 unfold fzN
 rw [OV]
 by_cases h:w8 id a = true
 ·rw [if_pos h,if_pos h]
 ·rw [if_neg h,if_neg h]; rfl
def j7 (row:List D) (off:Nat) (ds:List D) (size:Nat) (k:List D->Option β):Option β:=if ds.length = size ∧ off + size <= row.length then k (jY row off ds) else none
theorem Q5 (c:D) (cs:List D) (off:Nat) (e:D) (ds:List D) (n:Nat) (k:List D->Option β):j7 (c :: cs) (off + 1) (e :: ds) n k = j7 cs off (e :: ds) n fun l=>k (c :: l):=by
 unfold j7
 simp only [List.length_cons,jY]
 by_cases h:ds.length + 1 = n ∧ off + n <= cs.length
 ·exact (if_pos (by omega)).trans (if_pos h).symm
 ·exact (if_neg (by omega)).trans (if_neg h).symm
theorem UM (c:D) (cs:List D) (e:D) (ds:List D) (n:Nat) (k:List D->Option β):j7 (c :: cs) 0 (e :: ds) (n + 1) k = j7 cs 0 ds n fun l=>k (e :: l):=by
 unfold j7
 simp only [List.length_cons,jY]
 by_cases h:ds.length = n ∧ 0 + n <= cs.length
 ·exact (if_pos (by omega)).trans (if_pos h).symm
 ·exact (if_neg (by omega)).trans (if_neg h).symm
theorem TZ (cs:List D) (k:List D->Option β):j7 cs 0 [] 0 k = k cs:=by
 unfold j7
 rw [if_pos ⟨rfl,by omega⟩,O2]
def xI (e:Nat) (rows:List (List D)) (i:Nat) (row:List D) (k:List (List D)->Option β):Option β:=k (rows.set i row)
theorem BC {α:Type} (e:Nat) (c:α->List D) (xs:List α) (i:Nat) (x:α) (k:List (List D)->Option β):xI e (cM c xs) i (c x) k = k (cM c (xs.set i x)):=by
 unfold xI
 rw [aJB]
theorem aGZ {α:Type} (size v i off id e sz:Nat) (w:V) (c:α->List D) (xs:List α):GG size v i off id w bl (some (.rows v e sz (cM c xs))) kw = QF w bl fun ds f=>fzN id f (xs[i]?.bind fun x=>j7 (c x) off ds size fun row=>xI e (cM c xs) i row fun rows=>kw .any ((id,some (.rows v e sz rows)) :: f)):=by
 unfold GG QF
 simp only [KK,if_true,cM,List.getElem?_map]
 cases xs[i]? with
 | none =>
  simp only [Option.map_none,Option.bind_none]
  cases bB (mJ (lk bl none)) w.cells with
  | none=>rfl
  | some ds=>simp only [fzN]; split <;> rfl
 | some x =>
  simp only [Option.map_some,Option.bind_some]
  cases bB (mJ (lk bl none)) w.cells with
  | none=>rfl
  | some ds =>
   simp only [j7,xI,fzN]
   by_cases h1:w8 id (sW (lk bl none) w) = true
   ·rw [if_pos h1]
    by_cases h2:ds.length = size ∧ off + size <= (c x).length
    ·rw [if_pos h2,if_pos ⟨h2.1,h2.2,h1⟩]; rfl
    ·rw [if_neg h2,if_neg (fun q=>h2 ⟨q.1,q.2.1⟩)]; rfl
   ·rw [if_neg h1,if_neg (fun q=>h1 q.2.2)]; rfl
end
end
section
variable {β:Type} {T:vW} {bl:List (Nat × Option aM)} {k:V->Option β} {kw:V->List (Nat × Option aM)->Option β}
section
variable {α:Type} (size id v:Nat) (c:α->List D) (xs:List α) (hs:sized size (cM c xs) = true)
include hs
end
end
end Vm
end Go.Proofs.Ytiimibimkpimbaa
set_option linter.unusedVariables false
set_option linter.unusedSimpArgs false
namespace Go.Proofs.Ytiimibimkpimbaa
namespace Vm
open Go.RowKit
section
variable {β:Type} {T:vW} {d:Nat} {fr:List (Nat × V)} {bl:List (Nat × Option aM)} {k:V->Option β} {kw:V->List (Nat × Option aM)->Option β}
def aBz:List dG->Nat->(dG->Option β)->Option β
 | [],_,_=>none
 | x :: _,0,g=>g x
 | _ :: l,n + 1,g=>aBz l n g
theorem aJc (x:dG) (l:List dG) (g:dG->Option β):aBz (x :: l) 0 g = g x:=rfl
theorem aJM (x:dG) (l:List dG) (n:Nat) (g:dG->Option β):aBz (x :: l) (n + 1) g = aBz l n g:=rfl
theorem Y5 (g:dG->Option β):∀ (l:List dG) (n:Nat),aBz l n g = l[n]?.bind g
 | [],_=>rfl
 | _ :: _,0=>rfl
 | _ :: l,n + 1=>Y5 g l n
def X5 (v:V) (g:Nat->Nat->Option β):Option β:=match v with
 | .own id ver=>g id ver
 | _=>none
theorem aJ0 (id ver:Nat) (g:Nat->Nat->Option β):X5 (.own id ver) g = g id ver:=rfl
def TN (v:V) (bl:List (Nat × Option aM)) (g:D->Option β):Option β:=(F4 (lk bl none) v).bind g
def WH (ver:Nat) (b:Option aM) (g:D->Option β):Option β:=match b with
 | some (.rows v e size rows)=>if ver = v then g (.own (.ref 0) [(e,size)] [rows]) else none
 | _=>none
theorem aB0 (id ver:Nat) (g:D->Option β):TN (.own id ver) bl g = dF bl id fun b=>WH ver b g:=by
 unfold TN dF WH F4
 simp only
 cases lk bl none id with
 | none=>rfl
 | some b =>
  cases b with
  | rows v e size rows=>simp only; split <;> rfl
  | _=>rfl
theorem SE (v e s:Nat) (rows:List (List D)) (g:D->Option β):WH v (some (.rows v e s rows)) g = g (.own (.ref 0) [(e,s)] [rows]):=if_pos rfl
def CB (fr:List (Nat × V)) (bl:List (Nat × Option aM)) (t:Nat):Nat->List dG->(List D->List (Nat × Option aM)->Option β)->Option β
 | _,[],g=>g [] []
 | i,x :: l,g=>dX fr x fun v=>if i = t then TN v bl fun y=>CB fr bl t (i + 1) l fun ds f=>g (y :: ds) f else yK v bl fun y f=>CB fr bl t (i + 1) l fun ds f'=>g (y :: ds) (f ++ f')
theorem aAu (t i:Nat) (g:List D->List (Nat × Option aM)->Option β):CB fr bl t i [] g = g [] []:=rfl
theorem ZX (t i:Nat) (x:dG) (l:List dG) (g:List D->List (Nat × Option aM)->Option β) (h:(i == t) = true):CB fr bl t i (x :: l) g = dX fr x fun v=>TN v bl fun y=>CB fr bl t (i + 1) l fun ds f=>g (y :: ds) f:=by
 have:i = t:=by simpa using h
 simp only [CB,if_pos this]
theorem XJ (t i:Nat) (x:dG) (l:List dG) (g:List D->List (Nat × Option aM)->Option β) (h:(i == t) = false):CB fr bl t i (x :: l) g = dX fr x fun v=>yK v bl fun y f=>CB fr bl t (i + 1) l fun ds f'=>g (y :: ds) (f ++ f'):=by
 have:¬ i = t:=by simpa using h
 simp only [CB,if_neg this]
theorem L2 (t:Nat):∀ (l:List dG) (i:Nat) (g:List D->List (Nat × Option aM)->Option β),CB fr bl t i l g = (AG (lk bl none) t i (l.map (cX (lk fr .any)))).bind fun ds=>g ds (rO (lk bl none) t i (l.map (cX (lk fr .any))))
 | [],i,g=>rfl
 | x :: l,i,g=>by
  simp only [CB,List.map_cons,AG,rO,dX]
  by_cases h:i = t
  ·simp only [if_pos h,TN,L2 t l (i + 1)]
   cases F4 (lk bl none) (cX (lk fr .any) x) with
   | none=>rfl
   | some y =>
    cases AG (lk bl none) t (i + 1) (l.map (cX (lk fr .any))) with
    | none=>rfl
    | some ds=>simp
  ·simp only [if_neg h,yK,L2 t l (i + 1)]
   cases jI (lk bl none) (cX (lk fr .any) x) with
   | none=>rfl
   | some y=>cases AG (lk bl none) t (i + 1) (l.map (cX (lk fr .any))) <;> rfl
noncomputable def F6 (T:vW) (bl:List (Nat × Option aM)) (f id ver:Nat) (ds:List D) (kw:V->List (Nat × Option aM)->Option β):Option β:=match call T f ds with
 | some (.own y [(e,size)] [rows'])=>match lk bl none id with
  | some (.rows v e' size' _)=>if ver = v ∧ e = e' ∧ size = size' ∧ FX y = true ∧ o8 rows' = true then kw (toV y) [(id,some (.rows v e size rows'))] else none
  | _=>none
 | _=>none
theorem aED (f:Nat) (args:List dG) (t:Nat):uG T d (.lend f args t) fr bl k kw = aBz args t fun x=>dX fr x fun v=>X5 v fun id ver=>CB fr bl t 0 args fun ds fz=>fzN id fz (F6 T bl f id ver ds kw):=by
 rw [lC,Y5]
 simp only [eH,List.getElem?_map]
 cases args[t]? with
 | none=>rfl
 | some x =>
  simp only [Option.map_some,Option.bind_some,dX]
  generalize cX (lk fr .any) x = v
  cases v with
  | own id ver =>
   simp only [X5,L2]
   cases AG (lk bl none) t 0 (args.map (cX (lk fr .any))) with
   | none=>rfl
   | some ds =>
    simp only [Option.bind_some,fzN]
    split
    ·unfold F6
     generalize call T f ds = r
     generalize lk bl none id = b
     split
     ·split
      ·split
       ·rename_i hq
        exact (if_pos hq).symm
       ·rename_i hq
        exact (if_neg hq).symm
      ·rename_i hq
       cases b with
       | none=>rfl
       | some b=>cases b <;> first | rfl | exact absurd rfl (hq _ _ _ _)
     ·rename_i hq
      split
      ·exact absurd rfl (hq _ _ _ _)
      ·rfl
    ·rfl
  | _=>rfl
def C3 (ver e size:Nat) (rows' : List (List D)) (b:Option aM) (g:Option aM->Option β):Option β:=match b with
 | some (.rows v e' s' _)=>if ver = v ∧ e = e' ∧ size = s' then g (some (.rows v e size rows')) else none
 | _=>none
theorem SN (v e s:Nat) (rows rows' : List (List D)) (g:Option aM->Option β):C3 v e s rows' (some (.rows v e s rows)) g = g (some (.rows v e s rows')):=if_pos ⟨rfl,rfl,rfl⟩
theorem zY {α:Type} {f e size:Nat} {ds:List D} {o:Option α} {y:α->D} {r:α->List (List D)} (h:call T f ds = o.map fun x=>.own (y x) [(e,size)] [r x]) (hy:∀ x,FX (y x) = true) (hr:∀ x,o8 (r x) = true) (id ver:Nat) :
  F6 T bl f id ver ds kw = o.bind fun x=>dF bl id fun b=>C3 ver e size (r x) b fun b'=>kw (toV (y x)) [(id,b')]:=by
 unfold F6
 rw [h]
 cases o with
 | none=>rfl
 | some x =>
  simp only [Option.map_some,Option.bind_some,dF,C3,hy x,hr x,and_true]
theorem qD {α:Type} (c:α->List D) (hc:∀ x,(c x).all B8 = true) (xs:List α):o8 (cM c xs) = true:=by
 unfold o8 cM
 rw [List.all_eq_true]
 intro row hr
 obtain ⟨x,_,rfl⟩:=List.mem_map.1 hr
 exact hc x
def aKg (res:List nC) (t:Nat):Ex->St->Option D
 | .normal,s=>u9 ⟨0,0,res,.skip,true,true⟩ s t
 | .ret,s=>u9 ⟨0,0,res,.skip,true,true⟩ s t
 | .exit _,_=>none
def RR (ver:Nat) (b:Option aM) (g:Nat->Nat->List (List D)->Option D):Option D:=match b with
 | some (.rows v e size rows)=>if ver = v then g e size rows else none
 | _=>none
theorem WR (v e s:Nat) (rows:List (List D)) (g:Nat->Nat->List (List D)->Option D):RR v (some (.rows v e s rows)) g = g e s rows:=if_pos rfl
def QW (e s:Nat) (rows:List (List D)) (y:D):Option D:=if FX y = true then some (.own y [(e,s)] [rows]) else none
theorem aCp (e s:Nat) (rows:List (List D)):QW e s rows (.tup []) = some (.own (.tup []) [(e,s)] [rows]):=rfl
theorem ZD (res:List nC) (t:Nat):u9 ⟨0,0,res,.skip,true,true⟩ ⟨fr,bl⟩ t = qR fr t fun v=>X5 v fun id ver=>dF bl id fun b=>RR ver b fun e s rows=>(FV fr bl res IE).bind (QW e s rows):=by
 unfold u9 qR
 rw [FP]
 cases lk fr .any t with
 | own id ver =>
  simp only [X5,dF,RR]
  rw [FY]
  cases lk bl none id with
  | none=>rfl
  | some b =>
   cases b with
   | rows v e size rows =>
    simp only
    split
    ·rw [← YX]
     cases bB (rH ⟨fr,bl⟩) res with
     | none=>rfl
     | some us =>
      cases us with
      | nil=>rfl
      | cons u us=>cases us with
       | nil=>simp only [FY]; cases jI (lk bl none) u <;> rfl
       | cons w us=>simp only [FY]; cases toD (lk bl none) (.tup (u :: w :: us)) <;> rfl
    ·rfl
   | _=>rfl
 | _=>rfl
theorem aI9 (res:List nC) (t:Nat):aKg res t .normal ⟨fr,bl⟩ = qR fr t fun v=>X5 v fun id ver=>dF bl id fun b=>RR ver b fun e s rows=>(FV fr bl res IE).bind (QW e s rows):=ZD res t
theorem aI4 (res:List nC) (t:Nat):aKg res t .ret ⟨fr,bl⟩ = qR fr t fun v=>X5 v fun id ver=>dF bl id fun b=>RR ver b fun e s rows=>(FV fr bl res IE).bind (QW e s rows):=ZD res t
theorem aFC:IE [] = some (.tup []):=rfl
theorem K1 {T:vW} {f np nt t:Nat} {res:List nC} {body:aT} {fs:Bool} (hf:T f = some (.code ⟨np,nt,res,body,fs,true⟩)) (ds:List D) (hl:ds.length = np) (hlt:iO 0 ds = some t) (hnd:w9 t body = true):Vm.call T f ds = eB T body (xA t ds) (aKg res t):=by
 rw [aBe hf ds hl hlt rfl hnd]
 unfold eB
 cases Vm.ev T body (xA t ds) with
 | none=>rfl
 | some q =>
  obtain ⟨e,s⟩:=q
  cases e <;> rfl
end
section
variable {β:Type} {T:vW}
theorem T7 {c:aT} {n:Nat} {r:Ex × St}:∀ (k:Nat) (s:St),rS (cA (iU T n) n c) k s = some r->ev T (.loop c) s = some r
 | 0,s,e=>by cases e
 | k + 1,s,e=>by
  simp only [rS] at e
  cases hc:cA (iU T n) n c s with
  | none=>rw [hc] at e; cases e
  | some q =>
   have h1:=iB.2 ⟨n,hc⟩
   rw [hc] at e
   rw [QS,h1]
   obtain ⟨ex,s'⟩:=q
   cases ex with
   | normal=>exact T7 k s' e
   | exit id=>exact e
   | ret=>exact e
noncomputable def aIU (T:vW) (c:aT):Ex × St->Option (Ex × St)
 | (.normal,s)=>ev T (.loop c) s
 | q=>some q
theorem aBB {S X:Type} {step:S->Option (S ⊕ X)} {c:aT} (enc:S->St) (out:X->Ex × St) (h:∀ s,ev T c (enc s) = eN enc out (step s)) (s:S) :
  ev T (.loop c) (enc s) = (eW step s).bind fun x=>aIU T c (out x):=by
 refine pY fun r=>?_
 rw [Option.bind_eq_some_iff]
 constructor
 ·intro e
  obtain ⟨n,hn⟩:=iB.1 e
  simp only [cA] at hn
  generalize hk:(n:Nat) = k at hn
  have key:∀ (k:Nat) (s:S),rS (cA (iU T n) n c) k (enc s) = some r->∃ x,xG step k s = some x ∧ aIU T c (out x) = some r:=by
   intro k
   induction k with
   | zero=>intro s e; cases e
   | succ k ih =>
    intro s e
    simp only [rS] at e
    cases hc:cA (iU T n) n c (enc s) with
    | none=>rw [hc] at e; cases e
    | some q =>
     have h1:=iB.2 ⟨n,hc⟩
     rw [h s] at h1
     rw [hc] at e
     simp only [xG]
     cases hs:step s with
     | none=>rw [hs] at h1; cases h1
     | some y =>
      rw [hs] at h1
      cases y with
      | inl s' =>
       obtain rfl:=Option.some.inj h1
       exact ih s' e
      | inr x =>
       simp only [eN,Option.some.injEq] at h1
       refine ⟨x,rfl,?_⟩
       rw [h1]
       obtain ⟨ex,s'⟩:=q
       cases ex with
       | normal=>exact T7 k s' e
       | exit id=>exact e
       | ret=>exact e
  subst hk
  obtain ⟨x,g1,g2⟩:=key n s hn
  exact ⟨x,xO.2 ⟨n,g1⟩,g2⟩
 ·rintro ⟨x,h1,h2⟩
  obtain ⟨n,hn⟩:=xO.1 h1
  clear h1
  induction n generalizing s with
  | zero=>cases hn
  | succ n ih =>
   simp only [xG] at hn
   rw [QS,h s]
   cases hs:step s with
   | none=>rw [hs] at hn; cases hn
   | some q =>
    rw [hs] at hn
    cases q with
    | inl s'=>exact ih s' hn
    | inr y =>
     obtain rfl:=Option.some.inj hn
     simp only [eN]
     cases ho:out y with
     | mk ex s' =>
      rw [ho] at h2
      cases ex with
      | normal=>exact h2
      | exit id=>exact h2
      | ret=>exact h2
noncomputable def aJo (T:vW) (c:aT) (k:Ex->St->Option β):Ex × St->Option β
 | (.normal,s)=>eB T (.loop c) s k
 | (e,s)=>k e s
theorem aAW {S X:Type} {step:S->Option (S ⊕ X)} {c:aT} {k:Ex->St->Option β} (enc:S->St) (out:X->Ex × St)
  (h:∀ s,eB T c (enc s) (fun e s'=>some (e,s')) = eN enc out (step s)) (s:S) :
  eB T (.loop c) (enc s) k = (eW step s).bind fun x=>aJo T c k (out x):=by
 unfold eB
 rw [aBB enc out (fun s=>by
  have:=h s
  unfold eB at this
  rw [← this]
  cases ev T c (enc s) <;> rfl) s]
 cases eW step s with
 | none=>rfl
 | some x =>
  simp only [Option.bind_some]
  cases out x with
  | mk e s'=>cases e <;> rfl
end
section
variable {β:Type} {T:vW} {fr:List (Nat × V)} {bl:List (Nat × Option aM)}
def D0 (fr:List (Nat × V)):List Nat->(List V->Option β)->Option β
 | [],k=>k []
 | t :: l,k=>qR fr t fun v=>D0 fr l fun vs=>k (v :: vs)
theorem aAs (l:List Nat) (k:List V->Option β):D0 fr l k = k (l.map (lk fr .any)):=by
 induction l generalizing k with
 | nil=>rfl
 | cons x l ih=>simp only [D0,qR,ih,List.map_cons]
theorem WL (k:List V->Option β):D0 fr [] k = k []:=rfl
theorem RM (t:Nat) (l:List Nat) (k:List V->Option β):D0 fr (t :: l) k = qR fr t fun v=>D0 fr l fun vs=>k (v :: vs):=rfl
def aLz (args:List dG) (id:Nat) (slots:List Nat) (fr:List (Nat × V)) (bl:List (Nat × Option aM)) (k:List (Nat × V)->List (Nat × Option aM)->Option β):Option β :=
 dF bl id fun b=>jH b (D0 fr slots fun cs=>GH fr args fun vs=>k (vH 0 vs) ((id,some (.outer cs)) :: bl))
def inK (args:List dG) (id:Nat) (slots:List Nat) (s:St) (k:List (Nat × V)->List (Nat × Option aM)->Option β):Option β:=aLz args id slots s.fr s.bl k
theorem aJF (args:List dG) (id:Nat) (slots:List Nat) (k:List (Nat × V)->List (Nat × Option aM)->Option β):inK args id slots ⟨fr,bl⟩ k = dF bl id fun b=>jH b (D0 fr slots fun cs=>GH fr args fun vs=>k (vH 0 vs) ((id,some (.outer cs)) :: bl)):=rfl
theorem ZY (i:Nat):vH i [] = []:=rfl
theorem U7 (i:Nat) (v:V) (l:List V):vH i (v :: l) = (i,v) :: vH (i + 1) l:=rfl
theorem aHz (args:List dG) (id:Nat) (slots:List Nat) (k:St->Option β):(OP args id slots ⟨fr,bl⟩).bind k = inK args id slots ⟨fr,bl⟩ fun fr' bl'=>k ⟨fr',bl'⟩:=by
 unfold OP inK aLz dF jH
 rw [aE4]
 cases hb:lk bl none id with
 | some b=>rfl
 | none =>
  simp only [Option.isNone_none,if_true,Option.bind_some,aAs,S0]
  rfl
def N0 (fr:List (Nat × V)) (bl:List (Nat × Option aM)):List nC->(List V->Option β)->Option β
 | [],k=>k []
 | .tmp t :: r,k=>qR fr t fun v=>N0 fr bl r fun l=>k (v :: l)
 | .cell t size isAgg :: r,k=>qR fr t fun p=>xJ size isAgg p bl fun v=>N0 fr bl r fun l=>k (v :: l)
theorem aFE (res:List nC):∀ (k:List V->Option β),N0 fr bl res k = (bB (rH ⟨fr,bl⟩) res).bind k:=by
 induction res with
 | nil=>intro k; rfl
 | cons r res ih =>
  intro k
  cases r with
  | tmp t =>
   simp only [N0,qR,ih,bB,rH,FP]
   cases bB (rH ⟨fr,bl⟩) res <;> rfl
  | cell t size isAgg =>
   simp only [N0,qR,LF,ih,bB,rH,DA,FP,FY]
   cases GS size isAgg (lk fr .any t) (lk bl none) with
   | none=>rfl
   | some q =>
    obtain ⟨v,wr⟩:=q
    simp only [Option.bind_some]
    cases bB (rH ⟨fr,bl⟩) res <;> rfl
theorem aDd (k:List V->Option β):N0 fr bl [] k = k []:=rfl
theorem aJ1 (t:Nat) (r:List nC) (k:List V->Option β):N0 fr bl (.tmp t :: r) k = qR fr t fun v=>N0 fr bl r fun l=>k (v :: l):=rfl
def N3 (dst:Option Nat) (slots:List Nat) (cs vs:List V) (k:List (Nat × V)->Option β):Option β :=
 match vs with
 | [v]=>k (J0 dst v ++ slots.zip cs)
 | vs=>if vs.all V.noTup = true then k (J0 dst (.tup vs) ++ slots.zip cs) else none
theorem aAS (dst:Option Nat) (slots:List Nat) (cs:List V) (v:V) (k:List (Nat × V)->Option β):N3 dst slots cs [v] k = k (J0 dst v ++ slots.zip cs):=rfl
theorem aBu (dst:Option Nat) (slots:List Nat) (cs:List V) (k:List (Nat × V)->Option β):N3 dst slots cs [] k = k (J0 dst (.tup []) ++ slots.zip cs):=rfl
theorem MM (dst:Option Nat) (slots:List Nat) (cs:List V) (v u:V) (l:List V) (k:List (Nat × V)->Option β):N3 dst slots cs (v :: u :: l) k = if (v :: u :: l).all V.noTup = true then k (J0 dst (.tup (v :: u :: l)) ++ slots.zip cs) else none:=rfl
theorem aBq (d:Nat) (v:V) (l:List (Nat × V)):J0 (some d) v ++ l = (d,v) :: l:=rfl
theorem aFh:([]:List Nat).zip ([]:List V) = []:=rfl
theorem aBc (t:Nat) (v:V) (l:List Nat) (r:List V):(t :: l).zip (v :: r) = (t,v) :: l.zip r:=rfl
def P0 (b:Option aM) (k:List V->Option β):Option β:=match b with
 | some (.outer cs)=>k cs
 | _=>none
theorem aEe (cs:List V) (k:List V->Option β):P0 (some (.outer cs)) k = k cs:=rfl
def aER (dst:Option Nat) (res:List nC) (id:Nat) (slots:List Nat) (fr:List (Nat × V)) (bl:List (Nat × Option aM)) (k:List (Nat × V)->List (Nat × Option aM)->Option β):Option β :=
 dF bl id fun b=>P0 b fun cs=>N0 fr bl res fun vs=>N3 dst slots cs vs fun fr'=>k fr' ((id,none) :: bl)
theorem aGT (dst:Option Nat) (res:List nC) (id:Nat) (slots:List Nat) (k:List (Nat × V)->List (Nat × Option aM)->Option β):aER dst res id slots fr bl k = dF bl id fun b=>P0 b fun cs=>N0 fr bl res fun vs=>N3 dst slots cs vs fun fr'=>k fr' ((id,none) :: bl):=rfl
theorem RP (dst:Option Nat) (res:List nC) (id:Nat) (slots:List Nat) (k:St->Option β):(pU dst res id slots ⟨fr,bl⟩).bind k = aER dst res id slots fr bl fun fr' bl'=>k ⟨fr',bl'⟩:=by
 unfold pU aER dF
 rw [aE4]
 cases hb:lk bl none id with
 | none=>cases bB (rH ⟨fr,bl⟩) res <;> rfl
 | some b =>
  cases b with
  | outer cs =>
   simp only [P0,aFE]
   cases bB (rH ⟨fr,bl⟩) res with
   | none=>rfl
   | some vs =>
    simp only [Option.bind_some]
    cases vs with
    | nil=>rfl
    | cons v vs=>cases vs with
     | nil=>rfl
     | cons u vs =>
      rw [MM]
      show (if (v :: u :: vs).all V.noTup = true then some _ else none).bind k = _
      split <;> rfl
  | _=>cases bB (rH ⟨fr,bl⟩) res <;> rfl
def RF (dst:Option Nat) (res:List nC) (id:Nat) (slots:List Nat) (k:Ex->St->Option β):Ex->St->Option β
 | .normal,s=>(pU dst res id slots s).bind fun s4=>k .normal s4
 | .ret,s=>(pU dst res id slots s).bind fun s4=>k .normal s4
 | .exit _,_=>none
theorem aFe (dst:Option Nat) (res:List nC) (id:Nat) (slots:List Nat) (k:Ex->St->Option β):RF dst res id slots k .normal ⟨fr,bl⟩ = aER dst res id slots fr bl fun fr' bl'=>k .normal ⟨fr',bl'⟩:=RP dst res id slots _
theorem aCT (dst:Option Nat) (res:List nC) (id:Nat) (slots:List Nat) (k:Ex->St->Option β):RF dst res id slots k .ret ⟨fr,bl⟩ = aER dst res id slots fr bl fun fr' bl'=>k .normal ⟨fr',bl'⟩:=RP dst res id slots _
theorem aGe {k:Ex->St->Option β} (ops:List bK) (args:List dG) (dst:Option Nat) (f:Nat) (body:aT) (res:List nC) (id:Nat) (slots:List Nat) :
  eB T (.inl ops args dst f body res id slots) ⟨fr,bl⟩ k = tN T ops ⟨fr,bl⟩ fun s1=>inK args id slots s1 fun fr' bl'=>eB T body ⟨fr',bl'⟩ (RF dst res id slots k):=by
 rw [aHL]
 congr 1
 funext s1
 refine Eq.trans ?_ (aHz (fr:=s1.fr) (bl:=s1.bl) args id slots fun s=>eB T body s (RF dst res id slots k))
 congr 1
 funext s2
 congr 1
 funext ex s3
 cases ex <;> rfl
def FA (keep:List Nat) (bl:List (Nat × Option aM)):List V->(List V->Option β)->Option β
 | [],k=>k []
 | v :: cs,k=>wA keep bl v fun v'=>FA keep bl cs fun l=>k (v' :: l)
theorem aAy (keep:List Nat) (cs:List V):∀ (k:List V->Option β),FA keep bl cs k = k (cs.map (E8 keep (lk bl none))):=by
 induction cs with
 | nil=>intro k; rfl
 | cons v cs ih=>intro k; simp only [FA,wA,ih,List.map_cons]
theorem YB (keep:List Nat) (k:List V->Option β):FA keep bl [] k = k []:=rfl
theorem US (keep:List Nat) (v:V) (cs:List V) (k:List V->Option β):FA keep bl (v :: cs) k = wA keep bl v fun v'=>FA keep bl cs fun l=>k (v' :: l):=rfl
theorem QE (keep:List Nat) (cs:List V) (k:Option aM->Option β):AV keep bl (some (.outer cs)) k = FA keep bl cs fun l=>k (some (.outer l)):=by rw [aAy]; rfl
end
section
variable {β:Type} {T:vW} {d:Nat} {fr:List (Nat × V)} {bl:List (Nat × Option aM)} {k:V->Option β} {kw:V->List (Nat × Option aM)->Option β}
noncomputable def xC (T:vW) (d:Nat) (bl:List (Nat × Option aM)) (f:Nat) (ds:List D) (k:V->Option β) (kw:V->List (Nat × Option aM)->Option β):Option β:=match call T f ds with
 | some (.own x es rs)=>if D2 x rs = true then AR (oL d (lk bl none) [] (.own x es rs)) k kw else none
 | _=>none
theorem aAR (f:Nat) (args:List dG):uG T d (.calln f args) fr bl k kw = IQ fr bl args fun ds _=>xC T d bl f ds k kw:=by
 rw [lC,SJ]
 simp only [eH]
 cases bB (fun x=>jI (lk bl none) (cX (lk fr .any) x)) args with
 | none=>rfl
 | some ds =>
  simp only [Option.bind_some,xC]
  cases call T f ds with
  | none=>rfl
  | some y =>
   cases y with
   | own x es rs=>simp only; split <;> rfl
   | _=>rfl
theorem sJ {x:D} {rs:List (List (List D))} (h1:YR x = true) (h2:rs.all o8 = true):D2 x rs = true:=by simp only [D2,h1,h2,Bool.and_self]
theorem wU {r:List (List D)} {rs:List (List (List D))} (h1:o8 r = true) (h2:rs.all o8 = true):(r :: rs).all o8 = true:=by simp only [List.all_cons,h1,h2,Bool.and_self]
theorem uQ {α:Type} {f:Nat} {ds:List D} {o:Option α} {y:α->D} {p:Nat × Nat} {es:List (Nat × Nat)} {r:α->List (List D)} {rs:α->List (List (List D))} (h:call T f ds = o.map fun x=>.own (y x) (p :: es) (r x :: rs x)) (hn:∀ x,D2 (y x) (r x :: rs x) = true) :
  xC T d bl f ds k kw = o.bind fun x=>SG bl (gU d 0 (p :: es) (r x :: rs x)) (kw (thaw d (y x)) (gU d 0 (p :: es) (r x :: rs x))):=by
 unfold xC
 rw [h]
 cases o with
 | none=>rfl
 | some x =>
  simp only [Option.map_some,Option.bind_some,oL,KX,hn x,if_true,List.append_nil]
  split
  ·obtain ⟨e,s⟩:=p; rfl
  ·rfl
end
end Vm
end Go.Proofs.Ytiimibimkpimbaa
set_option linter.unusedVariables false
set_option linter.unusedSimpArgs false
namespace Go.Proofs.Ytiimibimkpimbaa
namespace Vm
open Go.RowKit
section
variable {β:Type} {T:vW} {d:Nat} {fr:List (Nat × V)} {bl:List (Nat × Option aM)} {k:V->Option β} {kw:V->List (Nat × Option aM)->Option β}
end
end Vm
end Go.Proofs.Ytiimibimkpimbaa
