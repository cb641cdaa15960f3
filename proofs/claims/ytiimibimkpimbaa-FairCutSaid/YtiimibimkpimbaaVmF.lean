/- The small machine, read from the front: slices that are laid out, calls, masks, answers. The small machine, read from the front: regions whose order is drawn. The small machine, read from the front: slices that are lent, cut, cleared. The small machine, read from the front: function values that hold boxes. -/
import Derived.Test.YtiimibimkpimbaaVmE
set_option linter.unusedVariables false
set_option linter.unusedSimpArgs false
namespace Go.Proofs.Ytiimibimkpimbaa
theorem zA.{u} {α:Type u} {a:α} {l:List α}:(a::l).length = l.length + 1:=rfl
theorem zB.{u} {α:Type u}:([]:List α).length = 0:=rfl
theorem zC:(!true) = false:=rfl
theorem zD:(!false) = true:=rfl
theorem zE.{u} {α:Type u} {n:Nat} {a:α}:List.replicate (n + 1) a = a::List.replicate n a:=rfl
theorem zF.{u} {α:Type u} {a:α}:List.replicate 0 a = []:=rfl
theorem zG.{u,v} {α:Type u} {β:Type v} (a:α) (f:α→Option β):(some a).bind f = f a:=rfl
theorem zH.{u,v} {α:Type u} {β:Type v} (a:α) (f:α→β):(some a).map f = some (f a):=rfl
theorem zI.{u,v} {α:Type u} {β:Type v} (f:α→β):(none:Option α).map f = none:=rfl
theorem zJ.{u,v,w} {α:Type u} {β:Type v} {γ:Sort w} (f:α→γ) (g:β→γ) (x:α):Sum.elim f g (Sum.inl x) = f x:=rfl
theorem zK.{u,v,w} {α:Type u} {β:Type v} {γ:Sort w} (f:α→γ) (g:β→γ) (x:β):Sum.elim f g (Sum.inr x) = g x:=rfl
theorem zL.{u,v,w} {α:Type u} {β:Type v} {γ:Type w} (x:Option α) (f:α→Option β) (g:β→Option γ):(x.bind f).bind g = x.bind fun y=>(f y).bind g:=Option.bind_assoc x f g
theorem zM.{u} {α:Type u} [BEq α] [ReflBEq α] (a:α):(a == a) = true:=beq_self_eq_true a
theorem zN:(¬False) = True:=not_false_eq_true
namespace Vm
open Go.RowKit
section
variable {β:Type} {T:vF} {d:Nat} {fr:List (Nat × V)} {bl:List (Nat × Option aL)} {k:V→Option β} {kw:V→List (Nat × Option aL)→Option β}
def C7 (bl:List (Nat × Option aL)):List V→(List D→List (Nat × Option aL)→Option β)→Option β
 | [],k=>k [] []
 | v :: cs,k=>(l9 (lk bl none) v).bind fun x=>C7 bl cs fun ds f=>k (x :: ds) (CM (lk bl none) v ++ f)
theorem SE (cs:List V) (k:List D→List (Nat × Option aL)→Option β):C7 bl cs k = (bB (l9 (lk bl none)) cs).bind fun ds=>k ds (cs.flatMap (CM (lk bl none))):=by
 induction cs generalizing k with
 | nil=>rfl
 | cons v cs ih =>
  simp only [C7,bB,ih,List.flatMap_cons]
  cases l9 (lk bl none) v with
  | none=>rfl
  | some x=>cases bB (l9 (lk bl none)) cs <;> rfl
def d1K (v:V) (bl:List (Nat × Option aL)) (k:D→List (Nat × Option aL)→Option β):Option β:=(l9 (lk bl none) v).bind fun x=>k x (CM (lk bl none) v)
def d1B (id ver:Nat) (b:Option aL) (k:D→List (Nat × Option aL)→Option β):Option β:=match b with
 | some (.rows v _ _ rows)=>if ver = v then k (.sl rows) [(id,some (.froz v rows))] else none
 | some (.froz v rows)=>if ver = v then k (.sl rows) [] else none
 | _=>none
theorem aGK (id ver:Nat) (k:D→List (Nat × Option aL)→Option β):d1K (.own id ver) bl k = dK bl id fun b=>d1B id ver b k:=by
 unfold d1K dK d1B
 simp only [l9,CM,sH,DT]
 generalize lk bl none id = b
 cases b with
 | none=>rfl
 | some b=>cases b with
  | rows v e s rows=>simp only; by_cases h:ver = v <;> simp [h]
  | froz v rows=>simp only; by_cases h:ver = v <;> simp [h]
  | _=>rfl
theorem aEG (id v e s:Nat) (rows:List (List D)) (k:D→List (Nat × Option aL)→Option β):d1B id v (some (.rows v e s rows)) k = k (.sl rows) [(id,some (.froz v rows))]:=if_pos rfl
theorem aDt (id v:Nat) (rows:List (List D)) (k:D→List (Nat × Option aL)→Option β):d1B id v (some (.froz v rows)) k = k (.sl rows) []:=if_pos rfl
def rB (bl:List (Nat × Option aL)):List V→(List D→List (Nat × Option aL)→Option β)→Option β
 | [],k=>k [] []
 | v :: cs,k=>(sH (lk bl none) v).bind fun x=>rB bl cs fun ds f=>k (x :: ds) (DT (lk bl none) v ++ f)
theorem aAH (cs:List V) (k:List D→List (Nat × Option aL)→Option β):rB bl cs k = (bB (sH (lk bl none)) cs).bind fun ds=>k ds (cs.flatMap (DT (lk bl none))):=by
 induction cs generalizing k with
 | nil=>rfl
 | cons v cs ih =>
  simp only [rB,bB,ih,List.flatMap_cons]
  cases sH (lk bl none) v with
  | none=>rfl
  | some x=>cases bB (sH (lk bl none)) cs <;> rfl
theorem WH (k:List D→List (Nat × Option aL)→Option β):rB bl [] k = k [] []:=rfl
theorem aEV (x:D) (cs:List V) (k:List D→List (Nat × Option aL)→Option β):rB bl (.d x :: cs) k = rB bl cs fun ds f=>k (x :: ds) f:=rfl
theorem UU (id ver:Nat) (cs:List V) (k:List D→List (Nat × Option aL)→Option β):rB bl (.own id ver :: cs) k = d1K (.own id ver) bl fun x g=>rB bl cs fun ds f=>k (x :: ds) (g ++ f):=rfl
theorem MJ (ds:List D) (k:List D→List (Nat × Option aL)→Option β):rB bl (bQ ds) k = k ds []:=by
 have:∀ (ds:List D) (k:List D→List (Nat × Option aL)→Option β),rB bl (bQ ds) k = k ds []:=by
  intro ds
  induction ds with
  | nil=>intro k; rfl
  | cons x ds ih=>intro k; show rB bl (bQ ds) _ = _; rw [ih]; rfl
 exact this ds k
def d1P (id off:Nat) (b:Option aL) (bl:List (Nat × Option aL)) (k:D→List (Nat × Option aL)→Option β):Option β:=match b with
 | some (.box cs)=>rB bl cs fun ds f=>k (.ptr ds off) ((id,some (.fbox ds)) :: f)
 | some (.fbox ds)=>k (.ptr ds off) []
 | _=>none
theorem aFy (id off:Nat) (k:D→List (Nat × Option aL)→Option β):d1K (.ptr id off) bl k = dK bl id fun b=>d1P id off b bl k:=by
 unfold d1K dK d1P
 simp only [l9,CM]
 cases lk bl none id with
 | none=>rfl
 | some b=>cases b with
  | box cs =>
   simp only [aAH]
   cases bB (sH (lk bl none)) cs <;> rfl
  | _=>rfl
theorem aFI (id off:Nat) (c:V) (cs:List V) (k:D→List (Nat × Option aL)→Option β):d1P id off (some (.box (c :: cs))) bl k = rB bl (c :: cs) fun ds f=>k (.ptr ds off) ((id,some (.fbox ds)) :: f):=rfl
theorem UN (id off:Nat) (ds:List D) (k:D→List (Nat × Option aL)→Option β):d1P id off (some (.box (bQ ds))) bl k = k (.ptr ds off) [(id,some (.fbox ds))]:=by
 show rB bl (bQ ds) _ = _
 rw [MJ]
theorem aAg (k:List D→List (Nat × Option aL)→Option β):C7 bl [] k = k [] []:=rfl
theorem aFt (x:D) (cs:List V) (k:List D→List (Nat × Option aL)→Option β):C7 bl (.d x :: cs) k = C7 bl cs fun ds f=>k (x :: ds) f:=rfl
theorem F4 (ds:List D) (k:List D→List (Nat × Option aL)→Option β):C7 bl (bQ ds) k = k ds []:=by
 have:∀ (ds:List D) (k:List D→List (Nat × Option aL)→Option β),C7 bl (bQ ds) k = k ds []:=by
  intro ds
  induction ds with
  | nil=>intro k; rfl
  | cons x ds ih=>intro k; show C7 bl (bQ ds) _ = _; rw [ih]; rfl
 exact this ds k
def yB (v:V) (bl:List (Nat × Option aL)) (k:D→List (Nat × Option aL)→Option β):Option β:=(jD (lk bl none) v).bind fun x=>k x (sG (lk bl none) v)
theorem aIZ (x:D) (k:D→List (Nat × Option aL)→Option β):yB (.d x) bl k = k x []:=rfl
theorem aEH (k:D→List (Nat × Option aL)→Option β):yB .nil bl k = k (.sl []) []:=rfl
theorem aEt (id ver:Nat) (k:D→List (Nat × Option aL)→Option β):yB (.own id ver) bl k = d1K (.own id ver) bl k:=rfl
theorem Q9 (cs:List V) (k:D→List (Nat × Option aL)→Option β):yB (.agg cs) bl k = C7 bl cs fun ds f=>k (.agg ds) f:=by
 rw [SE]
 show ((bB (l9 (lk bl none)) cs).map D.agg).bind _ = _
 cases bB (l9 (lk bl none)) cs <;> rfl
theorem aAR (ds:List D) (k:D→List (Nat × Option aL)→Option β):yB (n9 ds) bl k = k (.agg ds) []:=by
 show yB (.agg (bQ ds)) bl k = _
 rw [Q9,F4]
theorem aIl (x:D) (k:List D→List (Nat × Option aL)→Option β):O6 (.d x) bl k = k [x] []:=rfl
theorem S4 (cs:List V) (k:List D→List (Nat × Option aL)→Option β):O6 (.agg cs) bl k = C7 bl cs k:=by
 rw [SE]
 show (match bB (l9 (lk bl none)) cs with | some row=>k row (cs.flatMap (CM (lk bl none))) | none=>none) = _
 cases bB (l9 (lk bl none)) cs <;> rfl
theorem aBw (ds:List D) (k:List D→List (Nat × Option aL)→Option β):O6 (n9 ds) bl k = k ds []:=by
 show O6 (.agg (bQ ds)) bl k = _
 rw [S4,F4]
def SV (rs:List (List D)) (i:Nat) (row:List D) (k:List (List D)→Option β):Option β:=if i < rs.length then k (rs.set i row) else none
theorem aJd (r:List D) (rs:List (List D)) (row:List D) (k:List (List D)→Option β):SV (r :: rs) 0 row k = k (row :: rs):=by simp [SV]
theorem aJw (r:List D) (rs:List (List D)) (i:Nat) (row:List D) (k:List (List D)→Option β):SV (r :: rs) (i + 1) row k = SV rs i row fun l=>k (r :: l):=by
 unfold SV
 simp only [List.length_cons,List.set_cons_succ]
 by_cases h:i < rs.length
 ·rw [if_pos h,if_pos (by omega)]
 ·rw [if_neg h,if_neg (by omega)]
def bsF (fr:List (Nat × V)) (bl:List (Nat × Option aL)) (size:Nat) (rs:List (List D)):List (Nat × dL)→List (Nat × Option aL)→(List (List D)→List (Nat × Option aL)→Option β)→Option β
 | [],wr,k=>k rs wr
 | (i,x) :: r,wr,k=>dX fr x fun v=>O6 v bl fun row f=>tL row size (SV rs i row fun rs'=>bsF fr bl size rs' r (wr ++ f) k)
theorem aG1 (size:Nat) (rs:List (List D)) (wr:List (Nat × Option aL)) (k:List (List D)→List (Nat × Option aL)→Option β):bsF fr bl size rs [] wr k = k rs wr:=rfl
theorem aCp (size:Nat) (rs:List (List D)) (i:Nat) (x:dL) (r:List (Nat × dL)) (wr:List (Nat × Option aL)) (k:List (List D)→List (Nat × Option aL)→Option β):bsF fr bl size rs ((i,x) :: r) wr k = dX fr x fun v=>O6 v bl fun row f=>tL row size (SV rs i row fun rs'=>bsF fr bl size rs' r (wr ++ f) k):=rfl
theorem aJc (size:Nat) (parts:List (Nat × dL)):∀ (rs:List (List D)) (wr:List (Nat × Option aL)) (k:List (List D)→List (Nat × Option aL)→Option β),bsF fr bl size rs parts wr k = (lO (lk bl none) size rs (parts.map fun p=>(p.1,cU (lk fr .any) p.2))).bind fun rs'=>k rs' (wr ++ parts.flatMap fun p=>sG (lk bl none) (cU (lk fr .any) p.2)):=by
 induction parts with
 | nil=>intro rs wr k; simp [bsF,lO]
 | cons p r ih =>
  intro rs wr k
  obtain ⟨i,x⟩:=p
  simp only [bsF,dX,O6,List.map_cons,lO,List.flatMap_cons]
  cases bB (l9 (lk bl none)) (cU (lk fr .any) x).cells with
  | none=>rfl
  | some row =>
   simp only [tL,SV]
   by_cases h1:row.length = size
   ·by_cases h2:i < rs.length
    ·rw [if_pos h1,if_pos h2,if_pos ⟨h1,h2⟩,ih,List.append_assoc]
    ·rw [if_pos h1,if_neg h2,if_neg (fun q=>h2 q.2)]; rfl
   ·rw [if_neg h1,if_neg (fun q=>h1 q.1)]; rfl
theorem JT (e size n:Nat) (z:List D) (parts:List (Nat × dL)):tT T d (.buildSlice e size z n parts) fr bl k kw = dK bl d fun b=>jC b (bsF fr bl size (List.replicate n z) parts [] fun rows wr=>NR e rows fun rows=>kw (.own d 0) ((d,some (.rows 0 e size rows)) :: wr)):=by
 rw [k7]
 unfold dK jC NR
 simp only [eG,aJc,List.nil_append]
 cases lk bl none d with
 | some b=>rfl
 | none =>
  simp only
  have e1:(parts.map fun x=>match x with | (i,x)=>(i,cU (lk fr .any) x)) = parts.map fun p=>(p.1,cU (lk fr .any) p.2):=rfl
  have e2:(parts.flatMap fun x=>match x with | (_,x)=>sG (lk bl none) (cU (lk fr .any) x)) = parts.flatMap fun p=>sG (lk bl none) (cU (lk fr .any) p.2):=rfl
  rw [e1,e2]
  cases lO (lk bl none) size (List.replicate n z) (parts.map fun p=>(p.1,cU (lk fr .any) p.2)) <;> rfl
theorem MR {α:Type} (e size bytes:Nat) (z:List D) (c:α→List D) (x:α) (hz:z = c x) (l cp:dL):tT T d (.makeSlice e size bytes z l cp) fr bl k kw = dK bl d fun b=>jC b (dX fr l fun a=>dX fr cp fun b=>match a,b with
   | .d (.int _ n),.d (.int _ m)=>if 0 ≤ n ∧ n ≤ m ∧ (bytes:Int) * m ≤ 281474976710656 ∧ m ≤ 9223372036854775807 then kw (.own d 0) [(d,some (.rows 0 e size (cM c (List.replicate n.toNat x))))] else none
   | _,_=>none):=by
 subst hz
 rw [k7]
 unfold dK jC dX
 simp only [eG,PG]
 generalize cU (lk fr .any) l = a
 generalize cU (lk fr .any) cp = b
 cases lk bl none d with
 | some b=>rfl
 | none =>
  simp only
  split
  ·rename_i n _ m
   simp only
   by_cases h:0 ≤ n ∧ n ≤ m ∧ (bytes:Int) * m ≤ 281474976710656 ∧ m ≤ 9223372036854775807
   ·rw [if_pos h,if_pos h]; rfl
   ·rw [if_neg h,if_neg h]; rfl
  ·rename_i h
   split
   ·rename_i n _ m
    exact absurd rfl (h _ _ _ _ rfl)
   ·rfl
def H8 (fr:List (Nat × V)) (bl:List (Nat × Option aL)):List dL→(List D→List (Nat × Option aL)→Option β)→Option β
 | [],k=>k [] []
 | x :: l,k=>dX fr x fun v=>yB v bl fun y f=>H8 fr bl l fun ds g=>k (y :: ds) (f ++ g)
theorem aAK (k:List D→List (Nat × Option aL)→Option β):H8 fr bl [] k = k [] []:=rfl
theorem UZ (x:dL) (l:List dL) (k:List D→List (Nat × Option aL)→Option β):H8 fr bl (x :: l) k = dX fr x fun v=>yB v bl fun y f=>H8 fr bl l fun ds g=>k (y :: ds) (f ++ g):=rfl
theorem T4 (l:List dL) (k:List D→List (Nat × Option aL)→Option β):H8 fr bl l k = (bB (fun x=>jD (lk bl none) (cU (lk fr .any) x)) l).bind fun ds=>k ds (l.flatMap fun x=>sG (lk bl none) (cU (lk fr .any) x)):=by
 induction l generalizing k with
 | nil=>rfl
 | cons x l ih =>
  simp only [H8,dX,yB,bB,ih,List.flatMap_cons]
  cases jD (lk bl none) (cU (lk fr .any) x) with
  | none=>rfl
  | some y=>cases bB (fun x=>jD (lk bl none) (cU (lk fr .any) x)) l <;> rfl
def fzK (fz:List (Nat × Option aL)) (v:V) (k:V→Option β) (kw:V→List (Nat × Option aL)→Option β):Option β:=match fz with
 | []=>k v
 | p :: w=>kw v (p :: w)
theorem aFJ (v:V):fzK [] v k kw = k v:=rfl
theorem aJD (l:List (Nat × Option aL)) (v:V):fzK ([] ++ l) v k kw = fzK l v k kw:=rfl
theorem aJs (p:Nat × Option aL) (w l:List (Nat × Option aL)) (v:V):fzK ((p :: w) ++ l) v k kw = kw v ((p :: w) ++ l):=rfl
noncomputable def fY (T:vF) (d:Nat) (bl:List (Nat × Option aL)) (f:Nat) (ds:List D) (fz:List (Nat × Option aL)) (k:V→Option β) (kw:V→List (Nat × Option aL)→Option β):Option β:=match call T f ds with
 | none=>none
 | some r=>yS (oF d (lk bl none) fz r) k kw
theorem aC5 (f:Nat) (args:List dL):tT T d (.call f args) fr bl k kw = H8 fr bl args fun ds fz=>fY T d bl f ds fz k kw:=by
 rw [k7,T4]
 simp only [eG]
 cases bB (fun x=>jD (lk bl none) (cU (lk fr .any) x)) args with
 | none=>rfl
 | some ds =>
  simp only [Option.bind_some,fY]
  cases call T f ds <;> rfl
def D.calm:D→Bool
 | .own _ _ _=>false
 | _=>true
theorem X6 {x:D} (h:x.calm = true):∀ y es rs,x ≠ .own y es rs:=fun y es rs e=>by rw [e] at h; cases h
theorem aAz {x:D} (h:E5 x = true):x.calm = true:=by cases x <;> first | rfl | cases h
theorem cZ {α:Type} {f:Nat} {ds:List D} {o:Option α} {enc:α→D} (h:call T f ds = o.map enc) (hf:∀ x,E5 (enc x) = true) (fz:List (Nat × Option aL)):fY T d bl f ds fz k kw = o.bind fun x=>k (toV (enc x)):=by
 unfold fY
 rw [h]
 cases o with
 | none=>rfl
 | some x=>simp only [Option.map_some,Option.bind_some]; rw [BC (X6 (aAz (hf x))),if_pos (hf x)]; rfl
theorem AZ {α:Type} {f:Nat} {ds:List D} {o:Option α} {enc:α→D} (h:call T f ds = o.map enc) (hf:∀ x,E5 (enc x) = false) (hc:∀ x,(enc x).calm = true) (fz:List (Nat × Option aL)):fY T d bl f ds fz k kw = o.bind fun x=>fzK fz (toV (enc x)) k kw:=by
 unfold fY
 rw [h]
 cases o with
 | none=>rfl
 | some x=>simp only [Option.map_some,Option.bind_some]; rw [BC (X6 (hc x)),if_neg (by rw [hf x]; decide)]; cases fz <;> rfl
def RS (bl:List (Nat × Option aL)):List (Nat × Option aL)→Option β→Option β
 | [],x=>x
 | (i,_) :: l,x=>dK bl i fun b=>jC b (RS bl l x)
theorem MC (bl:List (Nat × Option aL)) (x:Option β):∀ (l:List (Nat × Option aL)),RS bl l x = if FU (lk bl none) l = true then x else none
 | []=>rfl
 | (i,b) :: l=>by
  cases h:lk bl none i <;> simp [RS,FU,dK,jC,MC bl x l,h]
theorem sC {α:Type} {f:Nat} {ds:List D} {o:Option α} {y:α→D} {p:Nat × Nat} {es:List (Nat × Nat)} {r:α→List (List D)} {rs:α→List (List (List D))} (h:call T f ds = o.map fun x=>.own (y x) (p :: es) (r x :: rs x)) (fz:List (Nat × Option aL)) :
  fY T d bl f ds fz k kw = o.bind fun x=>RS bl (gR d 0 (p :: es) (r x :: rs x)) (kw (thaw d (y x)) (gR d 0 (p :: es) (r x :: rs x) ++ fz)):=by
 unfold fY
 rw [h]
 cases o with
 | none=>rfl
 | some x =>
  simp only [Option.map_some,Option.bind_some,oF,MC]
  split
  ·obtain ⟨e,s⟩:=p; rfl
  ·rfl
def L3 (fr:List (Nat × V)) (bl:List (Nat × Option aL)):List dL→(List D→List (Nat × Option aL)→Option β)→Option β
 | [],k=>k [] []
 | x :: l,k=>dX fr x fun v=>d1K v bl fun y f=>L3 fr bl l fun ds g=>k (y :: ds) (f ++ g)
theorem aBB (k:List D→List (Nat × Option aL)→Option β):L3 fr bl [] k = k [] []:=rfl
theorem VE (x:dL) (l:List dL) (k:List D→List (Nat × Option aL)→Option β):L3 fr bl (x :: l) k = dX fr x fun v=>d1K v bl fun y f=>L3 fr bl l fun ds g=>k (y :: ds) (f ++ g):=rfl
theorem aEA (l:List dL) (k:List D→List (Nat × Option aL)→Option β):L3 fr bl l k = (bB (fun x=>l9 (lk bl none) (cU (lk fr .any) x)) l).bind fun ds=>k ds (l.flatMap fun x=>CM (lk bl none) (cU (lk fr .any) x)):=by
 induction l generalizing k with
 | nil=>rfl
 | cons x l ih =>
  simp only [L3,dX,d1K,bB,ih,List.flatMap_cons]
  cases l9 (lk bl none) (cU (lk fr .any) x) with
  | none=>rfl
  | some y=>cases bB (fun x=>l9 (lk bl none) (cU (lk fr .any) x)) l <;> rfl
theorem aEX (f:Nat) (caps:List dL):tT T d (.mkfn f caps) fr bl k kw = L3 fr bl caps fun ds fz=>fzK fz (.d (.fn f ds)) k kw:=by
 rw [k7,aEA]
 simp only [eG]
 cases bB (fun x=>l9 (lk bl none) (cU (lk fr .any) x)) caps with
 | none=>rfl
 | some ds =>
  simp only [Option.bind_some]
  cases caps.flatMap fun x=>CM (lk bl none) (cU (lk fr .any) x) <;> rfl
def IL (fr:List (Nat × V)) (bl:List (Nat × Option aL)) (caps:List D):List dL→(List D→List (Nat × Option aL)→Option β)→Option β
 | [],k=>k caps []
 | x :: l,k=>dX fr x fun v=>yB v bl fun y f=>IL fr bl caps l fun ds g=>k (y :: ds) (f ++ g)
theorem aBv (caps:List D) (k:List D→List (Nat × Option aL)→Option β):IL fr bl caps [] k = k caps []:=rfl
theorem VY (caps:List D) (x:dL) (l:List dL) (k:List D→List (Nat × Option aL)→Option β):IL fr bl caps (x :: l) k = dX fr x fun v=>yB v bl fun y f=>IL fr bl caps l fun ds g=>k (y :: ds) (f ++ g):=rfl
theorem aDC (caps:List D) (l:List dL) (k:List D→List (Nat × Option aL)→Option β):IL fr bl caps l k = (bB (fun x=>jD (lk bl none) (cU (lk fr .any) x)) l).bind fun ds=>k (ds ++ caps) (l.flatMap fun x=>sG (lk bl none) (cU (lk fr .any) x)):=by
 induction l generalizing k with
 | nil=>rfl
 | cons x l ih =>
  simp only [IL,dX,yB,bB,ih,List.flatMap_cons]
  cases jD (lk bl none) (cU (lk fr .any) x) with
  | none=>rfl
  | some y=>cases bB (fun x=>jD (lk bl none) (cU (lk fr .any) x)) l <;> rfl
noncomputable def WP (T:vF) (d:Nat) (v:V) (args:List dL) (fr:List (Nat × V)) (bl:List (Nat × Option aL)) (k:V→Option β) (kw:V→List (Nat × Option aL)→Option β):Option β:=match v with
 | .d (.fn f caps)=>IL fr bl caps args fun ds fz=>fY T d bl f ds fz k kw
 | _=>none
theorem aB2 (f:Nat) (caps:List D) (args:List dL):WP T d (.d (.fn f caps)) args fr bl k kw = IL fr bl caps args fun ds fz=>fY T d bl f ds fz k kw:=rfl
theorem aBo (g:dL) (args:List dL):tT T d (.callv g args) fr bl k kw = dX fr g fun v=>WP T d v args fr bl k kw:=by
 rw [k7]
 unfold dX
 simp only [eG]
 generalize cU (lk fr .any) g = v
 cases v with
 | d x=>cases x with
  | fn f caps =>
   simp only [WP,aDC]
   cases bB (fun x=>jD (lk bl none) (cU (lk fr .any) x)) args with
   | none=>rfl
   | some ds =>
    simp only [Option.bind_some,fY]
    cases call T f (ds ++ caps) <;> rfl
  | _=>rfl
 | _=>rfl
def aIW (v:V) (i:Nat) (k:V→Option β):Option β:=match v with
 | .tup vs=>CK vs i k
 | _=>none
theorem RF (x:dL) (i:Nat):tT T d (.extract x i) fr bl k kw = dX fr x fun v=>aIW v i k:=by
 unfold tT dX
 simp only [eG]
 generalize cU (lk fr .any) x = v
 cases v with
 | tup vs=>simp only [aIW,LZ]; cases vs[i]? <;> rfl
 | _=>rfl
theorem aIP (vs:List V) (i:Nat):aIW (.tup vs) i k = CK vs i k:=rfl
def HQ (m:xZ) (fr:List (Nat × V)) (bl:List (Nat × Option aL)) (k:List (Nat × V)→List (Nat × Option aL)→Option β):Option β:=k (m.app ⟨fr,bl⟩).fr (m.app ⟨fr,bl⟩).bl
theorem aHK {k:Ex→St→Option β} (m:xZ) (a:aT):eH T (.pre m a) ⟨fr,bl⟩ k = HQ m fr bl fun fr' bl'=>eH T a ⟨fr',bl'⟩ k:=by
 rw [aGG]; rfl
theorem aGN {k:Ex→St→Option β} (m:xZ):TE m k .normal ⟨fr,bl⟩ = HQ m fr bl fun fr' bl'=>k .normal ⟨fr',bl'⟩:=by
 rw [aFu]; rfl
def vN (keep:List Nat) (bl:List (Nat × Option aL)) (v:V) (k:V→Option β):Option β:=k (EH keep (lk bl none) v)
def LU (keep:List Nat) (fr:List (Nat × V)) (bl:List (Nat × Option aL)):List Nat→(List (Nat × V)→Option β)→Option β
 | [],k=>k []
 | t :: r,k=>pW fr t fun v=>vN keep bl v fun v'=>LU keep fr bl r fun l=>k ((t,v') :: l)
theorem aDi (keep:List Nat) (l:List Nat):∀ (k:List (Nat × V)→Option β),LU keep fr bl l k = k (l.map fun t=>(t,EH keep (lk bl none) (lk fr .any t))):=by
 induction l with
 | nil=>intro k; rfl
 | cons t l ih=>intro k; simp only [LU,pW,vN,ih,List.map_cons]
def AE (keep:List Nat) (bl:List (Nat × Option aL)) (b:Option aL) (k:Option aL→Option β):Option β:=k (b.bind (xQ keep (lk bl none)))
def KR (keep:List Nat) (bl:List (Nat × Option aL)):List Nat→(List (Nat × Option aL)→Option β)→Option β
 | [],k=>k []
 | i :: r,k=>dK bl i fun b=>AE keep bl b fun b'=>KR keep bl r fun l=>k ((i,b') :: l)
theorem aEB (keep:List Nat) (l:List Nat):∀ (k:List (Nat × Option aL)→Option β),KR keep bl l k = k (l.map fun i=>(i,(lk bl none i).bind (xQ keep (lk bl none)))):=by
 induction l with
 | nil=>intro k; rfl
 | cons t l ih=>intro k; simp only [KR,dK,AE,ih,List.map_cons]
theorem ZT (keep:List Nat) (k:List (Nat × V)→Option β):LU keep fr bl [] k = k []:=rfl
theorem VI (keep:List Nat) (t:Nat) (r:List Nat) (k:List (Nat × V)→Option β):LU keep fr bl (t :: r) k = pW fr t fun v=>vN keep bl v fun v'=>LU keep fr bl r fun l=>k ((t,v') :: l):=rfl
theorem ZX (keep:List Nat) (k:List (Nat × Option aL)→Option β):KR keep bl [] k = k []:=rfl
theorem XS (keep:List Nat) (i:Nat) (r:List Nat) (k:List (Nat × Option aL)→Option β):KR keep bl (i :: r) k = dK bl i fun b=>AE keep bl b fun b'=>KR keep bl r fun l=>k ((i,b') :: l):=rfl
theorem aGk (live keep:List Nat) (k:List (Nat × V)→List (Nat × Option aL)→Option β):HQ ⟨live,keep,[],[],[],[]⟩ fr bl k = LU keep fr bl live fun fr'=>KR keep bl keep fun bl'=>k fr' bl':=by
 rw [aDi,aEB]; rfl
def kW (keep:List Nat) (i:Nat) (x y:Option β):Option β:=if keep.contains i = true then x else y
theorem M2 (i:Nat) (r:List Nat) (x y:Option β):kW (i :: r) i x y = x:=by simp [kW]
theorem L8 (a i:Nat) (r:List Nat) (x y:Option β) (h:(i == a) = false):kW (a :: r) i x y = kW r i x y:=by
 unfold kW
 rw [List.contains_cons,h,Bool.false_or]
section
variable (keep:List Nat)
theorem aFf (x:D):vN keep bl (.d x) k = k (.d x):=rfl
theorem ZG:vN keep bl .nil k = k .nil:=rfl
def O2 (keep:List Nat) (id off:Nat) (b:Option aL) (k:V→Option β):Option β:=match b with
 | some (.box _)=>kW keep id (k (.ptr id off)) (k .any)
 | some (.fbox ds)=>k (.d (.ptr ds off))
 | _=>k .any
theorem VD (id off:Nat) (cs:List V):O2 keep id off (some (.box cs)) k = kW keep id (k (.ptr id off)) (k .any):=rfl
theorem RG (id off:Nat) (ds:List D):O2 keep id off (some (.fbox ds)) k = k (.d (.ptr ds off)):=rfl
theorem ZL (id off:Nat):vN keep bl (.ptr id off) k = dK bl id fun b=>O2 keep id off b k:=by
 unfold vN dK O2
 simp only [EH,OC,s8]
 generalize lk bl none id = b
 cases b with
 | none=>rfl
 | some b=>cases b with
  | box cs=>simp only [kW]; split <;> rfl
  | _=>rfl
def MF (id ver:Nat) (b:Option aL) (k:V→Option β):Option β:=match b with
 | some (.rows v _ _ _)=>if (ver == v) = true then kW keep id (k (.own id 0)) (k .any) else k .any
 | some (.froz v rows)=>if ver = v then k (.d (.sl rows)) else k .any
 | _=>k .any
theorem aA9 (id ver:Nat):vN keep bl (.own id ver) k = dK bl id fun b=>MF keep id ver b k:=by
 unfold vN dK MF kW
 simp only [EH,OC,s8]
 generalize lk bl none id = b
 cases b with
 | none=>rfl
 | some b=>cases b with
  | rows v e s rows=>simp only; cases (ver == v) <;> cases keep.contains id <;> rfl
  | froz v rows=>simp only; split <;> rfl
  | _=>rfl
theorem S1 (id v e s:Nat) (rows:List (List D)):MF keep id v (some (.rows v e s rows)) k = kW keep id (k (.own id 0)) (k .any):=by simp [MF]
theorem RW (id v:Nat) (rows:List (List D)):MF keep id v (some (.froz v rows)) k = k (.d (.sl rows)):=if_pos rfl
def wV (keep:List Nat) (bl:List (Nat × Option aL)):List V→(List V→Option β)→Option β
 | [],k=>k []
 | v :: cs,k=>k (s8 keep (lk bl none) v :: cs.map (s8 keep (lk bl none)))
theorem yW (cs:List V) (k:List V→Option β):wV keep bl cs k = k (cs.map (s8 keep (lk bl none))):=by cases cs <;> rfl
theorem U8 (k:List V→Option β):wV keep bl [] k = k []:=rfl
theorem aEP (x:D) (cs:List V) (k:List V→Option β):wV keep bl (.d x :: cs) k = wV keep bl cs fun l=>k (.d x :: l):=by simp only [yW]; rfl
theorem aDc (cs:List V) (k:List V→Option β):wV keep bl (.nil :: cs) k = wV keep bl cs fun l=>k (.nil :: l):=by simp only [yW]; rfl
theorem WO (id ver:Nat) (cs:List V) (k:List V→Option β):wV keep bl (.own id ver :: cs) k = vN keep bl (.own id ver) fun v=>wV keep bl cs fun l=>k (v :: l):=by simp only [yW]; rfl
theorem QG (ds:List D) (b:Nat→Option aL):(bQ ds).map (s8 keep b) = bQ ds:=by
 induction ds with
 | nil=>rfl
 | cons x ds ih=>show s8 keep b (.d x) :: (bQ ds).map (s8 keep b) = _; rw [ih]; rfl
theorem SJ (k:Option aL→Option β):AE keep bl none k = k none:=rfl
theorem VF (c:V) (cs:List V) (k:Option aL→Option β):AE keep bl (some (.box (c :: cs))) k = wV keep bl (c :: cs) fun l=>k (some (.box l)):=by rw [yW]; rfl
theorem MO (ds:List D) (k:Option aL→Option β):AE keep bl (some (.box (bQ ds))) k = k (some (.box (bQ ds))):=by
 show k (some (.box ((bQ ds).map (s8 keep (lk bl none))))) = _
 rw [QG]
theorem TM (v e s:Nat) (rows:List (List D)) (k:Option aL→Option β):AE keep bl (some (.rows v e s rows)) k = k (some (.rows 0 e s rows)):=rfl
end
def aJU (res:List m6):Ex→St→Option D
 | .normal,s=>match bB (qW s) res with
  | none=>none
  | some [v]=>jD s.blk v
  | some vs=>toD s.blk (.tup vs)
 | .ret,s=>match bB (qW s) res with
  | none=>none
  | some [v]=>jD s.blk v
  | some vs=>toD s.blk (.tup vs)
 | .exit _,_=>none
def EW (fr:List (Nat × V)) (bl:List (Nat × Option aL)):List m6→(List D→Option D)→Option D
 | [],k=>k []
 | .tmp t :: r,k=>pW fr t fun v=>yB v bl fun x _=>EW fr bl r fun l=>k (x :: l)
 | .cell t size isAgg :: r,k=>pW fr t fun p=>wU size isAgg p bl fun v=>yB v bl fun x _=>EW fr bl r fun l=>k (x :: l)
def IQ:List D→Option D
 | [x]=>some x
 | l=>some (.tup l)
theorem J4 (size:Nat) (a:Bool) (p:V):wU size a p bl k = (F5 size a p (lk bl none)).bind fun r=>k r.1:=by
 have h:=R4 (T:=fun _=>none) (d:=0) (fr:=[]) (bl:=bl) (k:=k) (kw:=fun v _=>k v) size a (.c p)
 have e:dX [] (.c p) (fun v=>wU size a v bl k) = wU size a p bl k:=rfl
 rw [← e,← h,k7,B9]
 show yS (F5 size a p (lk bl none)) k (fun v _=>k v) = _
 cases F5 size a p (lk bl none) with
 | none=>rfl
 | some r=>obtain ⟨v,wr⟩:=r; cases wr <;> rfl
theorem EV (fr:List (Nat × V)) (bl:List (Nat × Option aL)):St.blk ⟨fr,bl⟩ = lk bl none:=rfl
theorem aHx (res:List m6):∀ (k:List D→Option D),EW fr bl res k = (bB (qW ⟨fr,bl⟩) res).bind fun vs=>(bB (jD (lk bl none)) vs).bind k:=by
 induction res with
 | nil=>intro k; rfl
 | cons r res ih =>
  intro k
  cases r with
  | tmp t =>
   simp only [EW,pW,yB,ih,bB,qW,E8,EV]
   cases h1:bB (qW ⟨fr,bl⟩) res with
   | none =>
    simp only [Option.bind_none]
    cases jD (lk bl none) (lk fr .any t) <;> rfl
   | some vs =>
    simp only [Option.bind_some,bB]
    cases jD (lk bl none) (lk fr .any t) with
    | none=>rfl
    | some x=>cases bB (jD (lk bl none)) vs <;> rfl
  | cell t size isAgg =>
   simp only [EW,pW,J4,yB,ih,bB,qW,B9,E8,EV]
   cases F5 size isAgg (lk fr .any t) (lk bl none) with
   | none=>rfl
   | some q =>
    obtain ⟨v,wr⟩:=q
    simp only [Option.bind_some]
    cases h1:bB (qW ⟨fr,bl⟩) res with
    | none =>
     simp only [Option.bind_none]
     cases jD (lk bl none) v <;> rfl
    | some vs =>
     simp only [Option.bind_some,bB]
     cases jD (lk bl none) v with
     | none=>rfl
     | some x=>cases bB (jD (lk bl none)) vs <;> rfl
theorem X2 (res:List m6):(match bB (qW ⟨fr,bl⟩) res with
  | none=>none
  | some [v]=>jD (lk bl none) v
  | some vs=>toD (lk bl none) (.tup vs)) = EW fr bl res IQ:=by
 rw [aHx]
 cases bB (qW ⟨fr,bl⟩) res with
 | none=>rfl
 | some vs =>
  simp only [Option.bind_some]
  cases vs with
  | nil=>rfl
  | cons v vs =>
   cases vs with
   | nil =>
    simp only [bB]
    cases jD (lk bl none) v <;> rfl
   | cons w ws =>
    show (bB (jD (lk bl none)) (v :: w :: ws)).map D.tup = _
    simp only [bB]
    cases jD (lk bl none) v with
    | none=>rfl
    | some x=>cases jD (lk bl none) w with
     | none=>rfl
     | some y=>cases bB (jD (lk bl none)) ws <;> rfl
theorem aJj (res:List m6):aJU res .ret ⟨fr,bl⟩ = EW fr bl res IQ:=X2 res
theorem aC8 (k:List D→Option D):EW fr bl [] k = k []:=rfl
theorem aER (t:Nat) (r:List m6) (k:List D→Option D):EW fr bl (.tmp t :: r) k = pW fr t fun v=>yB v bl fun x _=>EW fr bl r fun l=>k (x :: l):=rfl
theorem Y6 (t size:Nat) (isAgg:Bool) (r:List m6) (k:List D→Option D):EW fr bl (.cell t size isAgg :: r) k = pW fr t fun p=>wU size isAgg p bl fun v=>yB v bl fun x _=>EW fr bl r fun l=>k (x :: l):=rfl
theorem aHl (x:D):IQ [x] = some x:=rfl
theorem aHV (x y:D) (l:List D):IQ (x :: y :: l) = some (.tup (x :: y :: l)):=rfl
theorem eC {T:vF} {f np nt:Nat} {res:List m6} {body:aT} (hf:T f = some (.code ⟨np,nt,res,body,false,false⟩)) (ds:List D) (hl:ds.length = np) (hlt:iG 0 ds = none):Vm.call T f ds = eH T body ⟨nX 0 ds,[]⟩ (aJU res):=by
 rw [UC hf ds hl hlt]
 unfold eH
 cases Vm.ev T body ⟨nX 0 ds,[]⟩ with
 | none=>rfl
 | some q =>
  obtain ⟨e,s⟩:=q
  cases e <;> rfl
def YX:List V→V
 | [v]=>v
 | vs=>.tup vs
def M1 (fr:List (Nat × V)) (bl:List (Nat × Option aL)):List m6→(List V→Option D)→Option D
 | [],k=>k []
 | .tmp t :: r,k=>pW fr t fun v=>M1 fr bl r fun l=>k (v :: l)
 | .cell t size isAgg :: r,k=>pW fr t fun p=>wU size isAgg p bl fun v=>M1 fr bl r fun l=>k (v :: l)
theorem aGI (res:List m6):∀ (k:List V→Option D),M1 fr bl res k = (bB (qW ⟨fr,bl⟩) res).bind k:=by
 induction res with
 | nil=>intro k; rfl
 | cons r res ih =>
  intro k
  cases r with
  | tmp t =>
   simp only [M1,pW,ih,bB,qW,E8]
   cases bB (qW ⟨fr,bl⟩) res <;> rfl
  | cell t size isAgg =>
   simp only [M1,pW,J4,ih,bB,qW,B9,E8,EV]
   cases F5 size isAgg (lk fr .any t) (lk bl none) with
   | none=>rfl
   | some q =>
    obtain ⟨v,wr⟩:=q
    simp only [Option.bind_some]
    cases bB (qW ⟨fr,bl⟩) res <;> rfl
def aKt (res:List m6):Ex→St→Option D
 | .normal,s=>match bB (qW s) res with
  | none=>none
  | some [v]=>sJ s.blk v
  | some vs=>sJ s.blk (.tup vs)
 | .ret,s=>match bB (qW s) res with
  | none=>none
  | some [v]=>sJ s.blk v
  | some vs=>sJ s.blk (.tup vs)
 | .exit _,_=>none
theorem aGd (res:List m6):(match bB (qW ⟨fr,bl⟩) res with
  | none=>none
  | some [v]=>sJ (lk bl none) v
  | some vs=>sJ (lk bl none) (.tup vs)) = M1 fr bl res fun vs=>sJ (lk bl none) (YX vs):=by
 rw [aGI]
 cases bB (qW ⟨fr,bl⟩) res with
 | none=>rfl
 | some vs =>
  cases vs with
  | nil=>rfl
  | cons v vs=>cases vs <;> rfl
theorem aJv (res:List m6):aKt res .ret ⟨fr,bl⟩ = M1 fr bl res fun vs=>sJ (lk bl none) (YX vs):=aGd res
theorem aCu (k:List V→Option D):M1 fr bl [] k = k []:=rfl
theorem aCl (t:Nat) (r:List m6) (k:List V→Option D):M1 fr bl (.tmp t :: r) k = pW fr t fun v=>M1 fr bl r fun l=>k (v :: l):=rfl
theorem aFi (x:V):YX [x] = x:=rfl
theorem aHg (x y:V) (l:List V):YX (x :: y :: l) = .tup (x :: y :: l):=rfl
theorem GE {T:vF} {f np nt:Nat} {res:List m6} {body:aT} (hf:T f = some (.code ⟨np,nt,res,body,true,false⟩)) (ds:List D) (hl:ds.length = np) (hlt:iG 0 ds = none):Vm.call T f ds = eH T body ⟨nX 0 ds,[]⟩ (aKt res):=by
 rw [UC hf ds hl hlt]
 unfold eH
 cases Vm.ev T body ⟨nX 0 ds,[]⟩ with
 | none=>rfl
 | some q =>
  obtain ⟨e,s⟩:=q
  cases e <;> rfl
def aCf (v:V) (b:Option aL) (x y:Option β):Option β:=match v,b with
 | .nil,none=>x
 | _,_=>y
theorem aJI (x y:Option β):aCf .nil none x y = x:=rfl
theorem aDy (i v:Nat) (b:Option aL) (x y:Option β):aCf (.own i v) b x y = y:=rfl
theorem aFH (live keep:List Nat) (t i e s:Nat) (l:List (Nat × Nat × Nat × Nat)) (c:List (Nat × Nat × Nat × Nat × Nat)) (ft:List Nat) (fc:List (Nat × Nat)) (k:List (Nat × V)→List (Nat × Option aL)→Option β) (hs:0 < s) :
  HQ ⟨live,keep,(t,i,e,s) :: l,c,ft,fc⟩ fr bl k = pW fr t fun v=>dK bl i fun b=>aCf v b (NR e [] fun rows=>HQ ⟨live,keep,l,c,ft,fc⟩ ((t,.own i 0) :: fr) ((i,some (.rows 0 e s rows)) :: bl) k) (HQ ⟨live,keep,l,c,ft,fc⟩ fr bl k):=by
 show HQ ⟨live,keep,(t,i,e,s) :: l,c,ft,fc⟩ fr bl k = aCf (lk fr .any t) (lk bl none i) _ _
 unfold HQ
 rw [aJ7]
 unfold mkT NR
 show k (xZ.app ⟨live,keep,l,c,ft,fc⟩ (match lk fr .any t,lk bl none i with | .nil,none=>if 0 < s then _ else _ | _,_=>_)).fr (xZ.app ⟨live,keep,l,c,ft,fc⟩ (match lk fr .any t,lk bl none i with | .nil,none=>if 0 < s then _ else _ | _,_=>_)).bl = _
 generalize lk fr .any t = v
 generalize lk bl none i = b
 cases v with
 | nil=>cases b with
  | none=>simp only [aCf,if_pos hs]
  | some b=>rfl
 | _=>rfl
theorem U7 (k:List (Nat × Nat × V)→Option β):ER fr [] k = k []:=rfl
theorem R9 (o s:Nat) (x:dL) (l:List (Nat × Nat × dL)) (k:List (Nat × Nat × V)→Option β):ER fr ((o,s,x) :: l) k = dX fr x fun v=>ER fr l fun vs=>k ((o,s,v) :: vs):=rfl
theorem aBf (l:List (Nat × Nat × dL)):∀ (k:List (Nat × Nat × V)→Option β),ER fr l k = k (l.map fun p=>(p.1,p.2.1,cU (lk fr .any) p.2.2)):=by
 induction l with
 | nil=>intro k; rfl
 | cons p l ih=>intro k; obtain ⟨o,s,x⟩:=p; simp only [ER,dX,ih,List.map_cons]
def MG (z:List V):List (Nat × Nat × V)→(List V→Option β)→Option β
 | [],k=>k z
 | (off,size,v) :: r,k=>A8 v fun cs=>FE cs size (uH z off cs fun z'=>MG z' r k)
theorem aBk (z:List V) (k:List V→Option β):MG z [] k = k z:=rfl
theorem U1 (z:List V) (off size:Nat) (v:V) (r:List (Nat × Nat × V)) (k:List V→Option β):MG z ((off,size,v) :: r) k = A8 v fun cs=>FE cs size (uH z off cs fun z'=>MG z' r k):=rfl
theorem aEj (ps:List (Nat × Nat × V)):∀ (z:List V) (k:List V→Option β),MG z ps k = (CX z ps).bind k:=by
 induction ps with
 | nil=>intro z k; rfl
 | cons p r ih =>
  intro z k
  obtain ⟨off,size,v⟩:=p
  simp only [MG,CX,A8,FE,uH,ih]
  by_cases h1:v.known = true
  ·by_cases h2:v.cells.length = size
   ·subst h2
    by_cases h3:off + v.cells.length ≤ z.length
    ·rw [if_pos h1,if_pos rfl,if_pos h3,if_pos ⟨rfl,h3,h1⟩]
    ·rw [if_pos h1,if_pos rfl,if_neg h3,if_neg (fun q=>h3 q.2.1)]; rfl
   ·rw [if_pos h1,if_neg h2,if_neg (fun q=>h2 q.1)]; rfl
  ·rw [if_neg h1,if_neg (fun q=>h1 q.2.2)]; rfl
theorem aBg (z:List V) (parts:List (Nat × Nat × dL)):tT T d (.build z parts) fr bl k kw = ER fr parts fun ps=>MG z ps fun cs=>k (.agg cs):=by
 rw [k7,aBf,aEj]
 simp only [eG]
 have e1:(parts.map fun x=>match x with | (o,s,x)=>(o,s,cU (lk fr .any) x)) = parts.map fun p=>(p.1,p.2.1,cU (lk fr .any) p.2.2):=rfl
 rw [e1]
 cases CX z (parts.map fun p=>(p.1,p.2.1,cU (lk fr .any) p.2.2)) <;> rfl
theorem aG (ds:List D):(bQ ds).length = ds.length:=by simp [bQ]
def aG9 (bytes:Nat) (a b:V) (x:Nat→Option β):Option β:=match a,b with
 | .d (.int _ n),.d (.int _ m)=>if 0 ≤ n ∧ n ≤ m ∧ (bytes:Int) * m ≤ 281474976710656 ∧ m ≤ 9223372036854775807 then x n.toNat else none
 | _,_=>none
theorem aJJ (bytes:Nat) (i j:IntKind) (n m:Int) (x:Nat→Option β):aG9 bytes (.d (.int i n)) (.d (.int j m)) x = if 0 ≤ n ∧ n ≤ m ∧ (bytes:Int) * m ≤ 281474976710656 ∧ m ≤ 9223372036854775807 then x n.toNat else none:=rfl
theorem aIi {α:Type} (e size bytes:Nat) (z:List D) (c:α→List D) (x:α) (hz:z = c x) (l cp:dL):tT T d (.makeSlice e size bytes z l cp) fr bl k kw = dK bl d fun b=>jC b (dX fr l fun a=>dX fr cp fun b=>aG9 bytes a b fun n=>kw (.own d 0) [(d,some (.rows 0 e size (cM c (List.replicate n x))))]):=MR e size bytes z c x hz l cp
theorem aD1 {k:Ex→St→Option β} (c:dL) (a b:aT):eH T (.cond c a b) ⟨fr,bl⟩ k = dX fr c fun v=>SY v (eH T a ⟨fr,bl⟩ k) (eH T b ⟨fr,bl⟩ k):=aDm c a b _
theorem aHU (a b c:List (Nat × Option aL)) (t:Nat) (k:Option aL→Option β):dK ((a ++ b) ++ c) t k = dK (a ++ (b ++ c)) t k:=by rw [List.append_assoc]
def X5 (rows:List (List D)) (k:V→Option β):Option β:=k (.d (.int .i64 rows.length))
theorem aFC {α:Type} (c:α→List D) (xs:List α):X5 (cM c xs) k = k (.d (.int .i64 (xs.length:Int))):=by unfold X5; rw [aK]
theorem aHz:X5 [] k = k (.d (.int .i64 0)):=rfl
theorem aFE (x:dL):tT T d (.len x) fr bl k kw = dX fr x fun a=>EG a bl fun rows=>X5 rows k:=aHH x
end
end Vm
end Go.Proofs.Ytiimibimkpimbaa
set_option linter.unusedVariables false
set_option linter.unusedSimpArgs false
namespace Go.Proofs.Ytiimibimkpimbaa
namespace Vm
open Go.RowKit
section
variable {β:Type} {T:vF}
def GJ (d:Nat) (op:jB) (fr:List (Nat × V)) (bl:List (Nat × Option aL)) (k:List Nat→Option β):Option β :=
 k ((if op.new = true then [d] else []) ++ ((op.peeks.flatMap fun x=>(cU (lk fr .any) x).ids) ++ op.deeps.flatMap fun x=>(cU (lk fr .any) x).dids (lk bl none)))
def GC (wr:List (Nat × Option aL)) (k:List Nat→Option β):Option β:=k (wr.map (·.1))
theorem aAd (k:List Nat→Option β):GC [] k = k []:=rfl
theorem aF5 (i:Nat) (b:Option aL) (w:List (Nat × Option aL)) (k:List Nat→Option β):GC ((i,b) :: w) k = GC w fun l=>k (i :: l):=rfl
theorem aEz (w:List (Nat × Option aL)) (k:List Nat→Option β):GC ([] ++ w) k = GC w k:=rfl
theorem aD4 (p:Nat × Option aL) (v w:List (Nat × Option aL)) (k:List Nat→Option β):GC ((p :: v) ++ w) k = GC (p :: (v ++ w)) k:=rfl
theorem XK (d st:Nat) (op:jB) (l:List bK) (fr:List (Nat × V)) (bl:List (Nat × Option aL)) (fp:List Fp) (k:St→List Fp→Option β) :
  mW T (⟨some d,op,none,st⟩ :: l) ⟨fr,bl⟩ fp k = tT T st op fr bl (fun v=>GJ st op fr bl fun f=>mW T l ⟨(d,v) :: fr,bl⟩ ((f,[]) :: fp) k) (fun v wr=>GC wr fun ws=>GJ st op fr bl fun f=>mW T l ⟨(d,v) :: fr,wr ++ bl⟩ ((f,ws) :: fp) k):=by
 rw [LH]
 unfold tT FZ GJ
 show (match eG (call T) st (cU (lk fr .any)) (lk bl none) op with | some (v,wr)=>_ | none=>none) = _
 cases eG (call T) st (cU (lk fr .any)) (lk bl none) op with
 | none=>rfl
 | some r=>obtain ⟨v,wr⟩:=r; cases wr <;> rfl
theorem RZ (st:Nat) (op:jB) (l:List bK) (fr:List (Nat × V)) (bl:List (Nat × Option aL)) (fp:List Fp) (k:St→List Fp→Option β) :
  mW T (⟨none,op,none,st⟩ :: l) ⟨fr,bl⟩ fp k = tT T st op fr bl (fun _=>GJ st op fr bl fun f=>mW T l ⟨fr,bl⟩ ((f,[]) :: fp) k) (fun _ wr=>GC wr fun ws=>GJ st op fr bl fun f=>mW T l ⟨fr,wr ++ bl⟩ ((f,ws) :: fp) k):=by
 rw [LH]
 unfold tT FZ GJ
 show (match eG (call T) st (cU (lk fr .any)) (lk bl none) op with | some (v,wr)=>_ | none=>none) = _
 cases eG (call T) st (cU (lk fr .any)) (lk bl none) op with
 | none=>rfl
 | some r=>obtain ⟨v,wr⟩:=r; cases wr <;> rfl
theorem Z0 (fr:List (Nat × V)) (bl:List (Nat × Option aL)) (fp:List Fp) (k:St→List Fp→Option β):mW T [] ⟨fr,bl⟩ fp k = k ⟨fr,bl⟩ fp:=rfl
theorem aFa {l:List bK} {ps:List (Nat × Nat)} {s:St} {fp:List Fp} (k:St→Option β) (h:F1 l fp.reverse ps = true):aHq l ps k s fp = k s:=if_pos h
theorem AA {d:Option Nat} {st:Nat} {g g' : Option (Nat × Bool)} {fr:Nat→V} {bl:Nat→Option aL} {wr:List (Nat × Option aL)} (t:Nat) (b:Bool) (op:jB):uO ⟨d,bY t b op,g,st⟩ fr bl wr = uO ⟨d,op,g',st⟩ fr bl wr:=by
 cases op with
 | pick c x y =>
  cases c with
  | t t' =>
   simp only [bY]
   split <;> rfl
  | c v=>rfl
 | _=>rfl
theorem UK {C:Nat→List D→Option D} {s:St} {t:Nat} {b:Bool} (h:s.get t = .d (.bool b)) (o:bK):jY C (bZ t b o) s = jY C o s:=by
 obtain ⟨d,op,g,st⟩:=o
 cases g with
 | some g =>
  obtain ⟨t',w⟩:=g
  simp only [bZ]
  split
  ·rename_i e
   subst e
   split
   ·rename_i e
    subst e
    simp only [jY,bK.wants,h,wC h]
    cases w <;> simp only [u5] <;> cases eG C st (cU s.get) s.blk op <;> first | rfl | (simp [AA (g':=some (t',false)),AA (g':=some (t',true))]; done) | (simp [AA (g':=some (t',false)),AA (g':=some (t',true))]; rfl)
   ·rename_i e
    simp only [jY,bK.wants,h,eG,cU]
    cases w <;> cases b <;> simp_all [u5,uO,jB.new,jB.peeks,jB.deeps]
  ·simp only [jY,bK.wants,wC h]
   cases u5 (s.get t') w <;> simp only [] <;> cases eG C st (cU s.get) s.blk op <;> simp [AA (g':=some (t',w))]
 | none =>
  simp only [bZ,jY,bK.wants,wC h]
  cases eG C st (cU s.get) s.blk op <;> simp [AA (g':=none)]
theorem U6 {C:Nat→List D→Option D} {o:bK} {s s' : St} {p:Fp} {t:Nat} (h:¬ o.dst = some t) (e:jY C o s = some (s',p)):s'.get t = s.get t:=by
 unfold jY at e
 split at e
 ·split at e
  ·cases e; exact A7 h
  ·cases e
 ·cases e; exact A7 h
 ·cases e
theorem E7 {t:Nat} {b:Bool}:∀ (l:List bK) {s:St} (fp:List Fp) (k:St→List Fp→Option β) (h:s.get t = .d (.bool b)),mW T (bW t b l) s fp k = mW T l s fp k
 | [],s,fp,k,h=>rfl
 | o :: l,s,fp,k,h=>by
  simp only [bW,mW,UK h]
  cases e:jY (call T) o s with
  | none=>rfl
  | some q =>
   obtain ⟨s',p⟩:=q
   simp only
   split
   ·rfl
   ·rename_i hd
    exact E7 l _ k (by rw [U6 hd e]; exact h)
noncomputable def DV (T:vF) (v:V) (t:Nat) (l:List bK) (s:St) (fp:List Fp) (k:St→List Fp→Option β):Option β:=match v with
 | .d (.bool b)=>if b = true then mW T (bW t true l) s fp k else mW T (bW t false l) s fp k
 | .tup []=>match l with
  | o :: r=>mW T r (s.put o.dst (.tup []) []) (([],[]) :: fp) k
  | []=>none
 | _=>none
theorem Q8 (d:Option Nat) (op:jB) (t:Nat) (w:Bool) (st:Nat) (l:List bK) (fr:List (Nat × V)) (bl:List (Nat × Option aL)) (fp:List Fp) (k:St→List Fp→Option β) :
  mW T (⟨d,op,some (t,w),st⟩ :: l) ⟨fr,bl⟩ fp k = pW fr t fun v=>DV T v t (⟨d,op,some (t,w),st⟩ :: l) ⟨fr,bl⟩ fp k:=by
 show _ = DV T (lk fr .any t) t _ _ fp k
 generalize hv:lk fr .any t = v
 have bad:∀ (q:u5 v w = .bad),mW T (⟨d,op,some (t,w),st⟩ :: l) ⟨fr,bl⟩ fp k = none:=by
  intro q
  simp only [mW,jY,bK.wants]
  rw [show (St.get ⟨fr,bl⟩ t) = v from hv,q]
 cases v with
 | d x =>
  cases x with
  | bool b =>
   simp only [DV]
   cases b with
   | true=>rw [if_pos rfl,E7 (t:=t) (b:=true) (s:=⟨fr,bl⟩) _ _ _ hv]
   | false=>rw [if_neg (by decide),E7 (t:=t) (b:=false) (s:=⟨fr,bl⟩) _ _ _ hv]
  | _=>exact bad rfl
 | tup vs =>
  cases vs with
  | nil =>
   simp only [DV,mW,jY,bK.wants]
   rw [show (St.get ⟨fr,bl⟩ t) = _ from hv]
   rfl
  | cons x l=>exact bad rfl
 | _=>exact bad rfl
theorem ZZ (b:Bool) (t:Nat) (l:List bK) (s:St) (fp:List Fp) (k:St→List Fp→Option β):DV T (.d (.bool b)) t l s fp k = if b = true then mW T (bW t true l) s fp k else mW T (bW t false l) s fp k:=rfl
theorem aBJ (t d st:Nat) (op:jB) (g:Option (Nat × Bool)) (l:List bK) (fr:List (Nat × V)) (bl:List (Nat × Option aL)) (fp:List Fp) (k:St→List Fp→Option β):DV T (.tup []) t (⟨some d,op,g,st⟩ :: l) ⟨fr,bl⟩ fp k = mW T l ⟨(d,.tup []) :: fr,bl⟩ (([],[]) :: fp) k:=rfl
theorem xS {l l' : List bK} {s:St} {fp:List Fp} {k:St→List Fp→Option β} (h:l = l'):mW T l s fp k = mW T l' s fp k:=by rw [h]
theorem aGC (x:D) (ds:List D) (k:D→Option β):iF (x :: ds) 0 k = k x:=rfl
section
variable {d:Nat} {fr:List (Nat × V)} {bl:List (Nat × Option aL)} {k:List Nat→Option β}
def B4 (v:V) (k:List Nat→Option β):Option β:=k v.ids
theorem aIJ (x:D):B4 (.d x) k = k []:=rfl
theorem aEg (i o:Nat):B4 (.ptr i o) k = k [i]:=rfl
theorem aCz (i o:Nat):B4 (.own i o) k = k [i]:=rfl
theorem aAZ (i v j o:Nat):B4 (.orow i v j o) k = k [i]:=rfl
def K6 (bl:List (Nat × Option aL)):List V→(List Nat→Option β)→Option β
 | [],k=>k []
 | c :: cs,k=>k (c.dids1 (lk bl none) ++ cs.flatMap (V.dids1 (lk bl none)))
def C1 (bl:List (Nat × Option aL)) (v:V) (k:List Nat→Option β):Option β:=k (v.dids (lk bl none))
theorem OK (cs:List V):K6 bl cs k = k (cs.flatMap (V.dids1 (lk bl none))):=by cases cs <;> rfl
theorem VN:K6 bl [] k = k []:=rfl
theorem aEa (x:D) (cs:List V):K6 bl (.d x :: cs) k = K6 bl cs k:=by simp only [OK]; rfl
theorem aHG (x:D):C1 bl (.d x) k = k []:=rfl
theorem ZU (i o:Nat):C1 bl (.own i o) k = k [i]:=rfl
theorem ZM (cs:List V):C1 bl (.agg cs) k = K6 bl cs k:=by rw [OK]; rfl
theorem RI (ds:List D):(bQ ds).flatMap (V.dids1 (lk bl none)) = []:=by
 induction ds with
 | nil=>rfl
 | cons x ds ih=>exact ih
theorem V1 (ds:List D):C1 bl (n9 ds) k = k []:=by
 show k ((bQ ds).flatMap (V.dids1 (lk bl none))) = _
 rw [RI]
theorem aEm (x:dL):GJ d (.move x) fr bl k = k []:=rfl
theorem aAc (z:List V):GJ d (.alloc z) fr bl k = k [d]:=rfl
theorem aAp (z:List V) (ps:List (Nat × Nat × dL)):GJ d (.build z ps) fr bl k = k []:=rfl
theorem fp1 (l:List Nat):([]:List Nat) ++ ((l ++ []) ++ []) = l:=by simp
theorem aCY (s:Nat) (a:Bool) (x:dL):GJ d (.load s a x) fr bl k = dX fr x fun v=>B4 v k:=by
 show k ([] ++ (((cU (lk fr .any) x).ids ++ []) ++ [])) = _
 rw [fp1]; rfl
theorem PU (x:dL):GJ d (.nilCheck x) fr bl k = dX fr x fun v=>B4 v k:=by
 show k ([] ++ (((cU (lk fr .any) x).ids ++ []) ++ [])) = _
 rw [fp1]; rfl
theorem MM (o:Nat) (x:dL):GJ d (.fieldAddr o x) fr bl k = dX fr x fun v=>B4 v k:=by
 show k ([] ++ (((cU (lk fr .any) x).ids ++ []) ++ [])) = _
 rw [fp1]; rfl
theorem aAu (s:Nat) (x:dL) (lo hi:Option dL):GJ d (.slice s x lo hi) fr bl k = dX fr x fun v=>B4 v k:=by
 show k ([] ++ (((cU (lk fr .any) x).ids ++ []) ++ [])) = _
 rw [fp1]; rfl
theorem MU (s:Nat) (x i:dL):GJ d (.indexAddr s x i) fr bl k = dX fr x fun v=>B4 v k:=by
 show k ([] ++ (((cU (lk fr .any) x).ids ++ []) ++ [])) = _
 rw [fp1]; rfl
theorem aAG (s:Nat) (x v:dL):GJ d (.store s x v) fr bl k = dX fr x fun a=>B4 a fun l=>dX fr v fun b=>C1 bl b fun m=>k (l ++ m):=by
 show k ([] ++ (((cU (lk fr .any) x).ids ++ []) ++ ((cU (lk fr .any) v).dids (lk bl none) ++ []))) = _
 rw [List.nil_append,List.append_nil,List.append_nil]; rfl
theorem XN (e s b:Nat) (x y:dL):GJ d (.append e s b x y) fr bl k = dX fr x fun u=>B4 u fun l=>dX fr y fun v=>B4 v fun m=>k (d :: (l ++ m)):=by
 show k ([d] ++ (((cU (lk fr .any) x).ids ++ ((cU (lk fr .any) y).ids ++ [])) ++ [])) = _
 rw [List.append_nil,List.append_nil]; rfl
def C5 (fr:List (Nat × V)) (bl:List (Nat × Option aL)):List dL→(List Nat→Option β)→Option β
 | [],k=>k []
 | x :: l,k=>dX fr x fun v=>C1 bl v fun m=>C5 fr bl l fun n=>k (m ++ n)
theorem ON (l:List dL):∀ (k:List Nat→Option β),C5 fr bl l k = k (l.flatMap fun x=>(cU (lk fr .any) x).dids (lk bl none)):=by
 induction l with
 | nil=>intro k; rfl
 | cons x l ih=>intro k; simp only [C5,dX,C1,ih,List.flatMap_cons]
theorem WD (k:List Nat→Option β):C5 fr bl [] k = k []:=rfl
theorem SA (x:dL) (l:List dL) (k:List Nat→Option β):C5 fr bl (x :: l) k = dX fr x fun v=>C1 bl v fun m=>C5 fr bl l fun n=>k (m ++ n):=rfl
theorem aCN (f:Nat) (args:List dL):GJ d (.call f args) fr bl k = C5 fr bl args k:=by
 rw [ON]; rfl
theorem aAM (g:dL) (args:List dL):GJ d (.callv g args) fr bl k = C5 fr bl args k:=by
 rw [ON]; rfl
def EY (fr:List (Nat × V)) (bl:List (Nat × Option aL)):List (Nat × dL)→(List Nat→Option β)→Option β
 | [],k=>k []
 | (_,x) :: l,k=>dX fr x fun v=>C1 bl v fun m=>EY fr bl l fun n=>k (m ++ n)
theorem aAm (l:List (Nat × dL)):∀ (k:List Nat→Option β),EY fr bl l k = k ((l.map fun p=>p.2).flatMap fun x=>(cU (lk fr .any) x).dids (lk bl none)):=by
 induction l with
 | nil=>intro k; rfl
 | cons x l ih=>intro k; obtain ⟨i,x⟩:=x; simp only [EY,dX,C1,ih,List.map_cons,List.flatMap_cons]
theorem U3 (k:List Nat→Option β):EY fr bl [] k = k []:=rfl
theorem Q5 (i:Nat) (x:dL) (l:List (Nat × dL)) (k:List Nat→Option β):EY fr bl ((i,x) :: l) k = dX fr x fun v=>C1 bl v fun m=>EY fr bl l fun n=>k (m ++ n):=rfl
theorem KL (e s n:Nat) (z:List D) (ps:List (Nat × dL)):GJ d (.buildSlice e s z n ps) fr bl k = EY fr bl ps fun l=>k (d :: l):=by
 rw [aAm]; rfl
theorem aGi (c:Nat) (op:BinOp) (x y:dL):GJ d (.bin c op x y) fr bl k = k []:=rfl
theorem aGW (ks:List Nat) (n:Bool) (x y:dL):GJ d (.eqS ks n x y) fr bl k = k []:=rfl
theorem aI9 (op:UnOp) (x:dL):GJ d (.un op x) fr bl k = k []:=rfl
theorem SI (x:dL) (i:Nat):GJ d (.extract x i) fr bl k = k []:=rfl
theorem aEh {k:Ex→St→Option β} (l:List bK) (ps:List (Nat × Nat)):eH T (.region l (some ps)) ⟨fr,bl⟩ k = mW T l ⟨fr,bl⟩ [] (aHq l ps (k .normal)):=by
 rw [aB0,aHu]
end
section
variable {d:Nat} {fr:List (Nat × V)} {bl:List (Nat × Option aL)} {k:V→Option β} {kw:V→List (Nat × Option aL)→Option β}
def fzN (id:Nat) (f:List (Nat × Option aL)) (x:Option β):Option β:=if wW id f = true then x else none
theorem N0 (id:Nat) (b:List (Nat × Option aL)):∀ a:List (Nat × Option aL),wW id (a ++ b) = if wW id a = true then wW id b else false
 | []=>rfl
 | (i,x) :: a=>by
  simp only [List.cons_append,wW]
  by_cases h:i = id
  ·simp [h]
  ·simp only [if_neg h]; exact N0 id b a
theorem aHJ (id:Nat) (x:Option β):fzN id [] x = x:=rfl
theorem aKl (id i:Nat) (b:Option aL) (w:List (Nat × Option aL)) (x:Option β) (h:(i == id) = false):fzN id ((i,b) :: w) x = fzN id w x:=by
 have h:¬ i = id:=by simpa using h
 simp only [fzN,wW,if_neg h]
theorem aHn (id:Nat) (a b:List (Nat × Option aL)) (x:Option β):fzN id (a ++ b) x = fzN id a (fzN id b x):=by
 unfold fzN
 rw [N0]
 by_cases h:wW id a = true
 ·rw [if_pos h,if_pos h]
 ·rw [if_neg h,if_neg h]; rfl
def j7 (row:List D) (off:Nat) (ds:List D) (size:Nat) (k:List D→Option β):Option β:=if ds.length = size ∧ off + size ≤ row.length then k (jU row off ds) else none
theorem P8 (c:D) (cs:List D) (off:Nat) (e:D) (ds:List D) (n:Nat) (k:List D→Option β):j7 (c :: cs) (off + 1) (e :: ds) n k = j7 cs off (e :: ds) n fun l=>k (c :: l):=by
 unfold j7
 simp only [List.length_cons,jU]
 by_cases h:ds.length + 1 = n ∧ off + n ≤ cs.length
 ·exact (if_pos (by omega)).trans (if_pos h).symm
 ·exact (if_neg (by omega)).trans (if_neg h).symm
theorem TO (c:D) (cs:List D) (e:D) (ds:List D) (n:Nat) (k:List D→Option β):j7 (c :: cs) 0 (e :: ds) (n + 1) k = j7 cs 0 ds n fun l=>k (e :: l):=by
 unfold j7
 simp only [List.length_cons,jU]
 by_cases h:ds.length = n ∧ 0 + n ≤ cs.length
 ·exact (if_pos (by omega)).trans (if_pos h).symm
 ·exact (if_neg (by omega)).trans (if_neg h).symm
theorem S6 (cs:List D) (k:List D→Option β):j7 cs 0 [] 0 k = k cs:=by
 unfold j7
 rw [if_pos ⟨rfl,by omega⟩,OD]
def wR (e:Nat) (rows:List (List D)) (i:Nat) (row:List D) (k:List (List D)→Option β):Option β:=k (rows.set i row)
theorem AX {α:Type} (e:Nat) (c:α→List D) (xs:List α) (i:Nat) (x:α) (k:List (List D)→Option β):wR e (cM c xs) i (c x) k = k (cM c (xs.set i x)):=by
 unfold wR
 rw [aIO]
theorem aGy {α:Type} (size v i off id e sz:Nat) (w:V) (c:α→List D) (xs:List α):F8 size v i off id w bl (some (.rows v e sz (cM c xs))) kw = O6 w bl fun ds f=>fzN id f (xs[i]?.bind fun x=>j7 (c x) off ds size fun row=>wR e (cM c xs) i row fun rows=>kw .any ((id,some (.rows v e sz rows)) :: f)):=by
 unfold F8 O6
 simp only [LX,if_true,cM,List.getElem?_map]
 cases xs[i]? with
 | none =>
  simp only [Option.map_none,Option.bind_none]
  cases bB (l9 (lk bl none)) w.cells with
  | none=>rfl
  | some ds=>simp only [fzN]; split <;> rfl
 | some x =>
  simp only [Option.map_some,Option.bind_some]
  cases bB (l9 (lk bl none)) w.cells with
  | none=>rfl
  | some ds =>
   simp only [j7,wR,fzN]
   by_cases h1:wW id (sG (lk bl none) w) = true
   ·rw [if_pos h1]
    by_cases h2:ds.length = size ∧ off + size ≤ (c x).length
    ·rw [if_pos h2,if_pos ⟨h2.1,h2.2,h1⟩]; rfl
    ·rw [if_neg h2,if_neg (fun q=>h2 ⟨q.1,q.2.1⟩)]; rfl
   ·rw [if_neg h1,if_neg (fun q=>h1 q.2.2)]; rfl
end
end
section
variable {β:Type} {T:vF} {bl:List (Nat × Option aL)} {k:V→Option β} {kw:V→List (Nat × Option aL)→Option β}
section
variable {α:Type} (size id v:Nat) (c:α→List D) (xs:List α) (hs:sized size (cM c xs) = true)
include hs
end
end
end Vm
end Go.Proofs.Ytiimibimkpimbaa
set_option linter.unusedVariables false
set_option linter.unusedSimpArgs false
namespace Go.Proofs.Ytiimibimkpimbaa
namespace Vm
open Go.RowKit
section
variable {β:Type} {T:vF} {d:Nat} {fr:List (Nat × V)} {bl:List (Nat × Option aL)} {k:V→Option β} {kw:V→List (Nat × Option aL)→Option β}
def aA5:List dL→Nat→(dL→Option β)→Option β
 | [],_,_=>none
 | x :: _,0,g=>g x
 | _ :: l,n + 1,g=>aA5 l n g
theorem aIv (x:dL) (l:List dL) (g:dL→Option β):aA5 (x :: l) 0 g = g x:=rfl
theorem aIw (x:dL) (l:List dL) (n:Nat) (g:dL→Option β):aA5 (x :: l) (n + 1) g = aA5 l n g:=rfl
theorem YK (g:dL→Option β):∀ (l:List dL) (n:Nat),aA5 l n g = l[n]?.bind g
 | [],_=>rfl
 | _ :: _,0=>rfl
 | _ :: l,n + 1=>YK g l n
def UQ (v:V) (g:Nat→Nat→Option β):Option β:=match v with
 | .own id ver=>g id ver
 | _=>none
theorem aI3 (id ver:Nat) (g:Nat→Nat→Option β):UQ (.own id ver) g = g id ver:=rfl
def TY (v:V) (bl:List (Nat × Option aL)) (g:D→Option β):Option β:=(GF (lk bl none) v).bind g
def XL (ver:Nat) (b:Option aL) (g:D→Option β):Option β:=match b with
 | some (.rows v e size rows)=>if ver = v then g (.own (.ref 0) [(e,size)] [rows]) else none
 | _=>none
theorem ZP (id ver:Nat) (g:D→Option β):TY (.own id ver) bl g = dK bl id fun b=>XL ver b g:=by
 unfold TY dK XL GF
 simp only
 cases lk bl none id with
 | none=>rfl
 | some b =>
  cases b with
  | rows v e size rows=>simp only; split <;> rfl
  | _=>rfl
theorem TJ (v e s:Nat) (rows:List (List D)) (g:D→Option β):XL v (some (.rows v e s rows)) g = g (.own (.ref 0) [(e,s)] [rows]):=if_pos rfl
def BQ (fr:List (Nat × V)) (bl:List (Nat × Option aL)) (t:Nat):Nat→List dL→(List D→List (Nat × Option aL)→Option β)→Option β
 | _,[],g=>g [] []
 | i,x :: l,g=>dX fr x fun v=>if i = t then TY v bl fun y=>BQ fr bl t (i + 1) l fun ds f=>g (y :: ds) f else yB v bl fun y f=>BQ fr bl t (i + 1) l fun ds f'=>g (y :: ds) (f ++ f')
theorem aAE (t i:Nat) (g:List D→List (Nat × Option aL)→Option β):BQ fr bl t i [] g = g [] []:=rfl
theorem aAV (t i:Nat) (x:dL) (l:List dL) (g:List D→List (Nat × Option aL)→Option β) (h:(i == t) = true):BQ fr bl t i (x :: l) g = dX fr x fun v=>TY v bl fun y=>BQ fr bl t (i + 1) l fun ds f=>g (y :: ds) f:=by
 have:i = t:=by simpa using h
 simp only [BQ,if_pos this]
theorem V3 (t i:Nat) (x:dL) (l:List dL) (g:List D→List (Nat × Option aL)→Option β) (h:(i == t) = false):BQ fr bl t i (x :: l) g = dX fr x fun v=>yB v bl fun y f=>BQ fr bl t (i + 1) l fun ds f'=>g (y :: ds) (f ++ f'):=by
 have:¬ i = t:=by simpa using h
 simp only [BQ,if_neg this]
theorem K1 (t:Nat):∀ (l:List dL) (i:Nat) (g:List D→List (Nat × Option aL)→Option β),BQ fr bl t i l g = (yX (lk bl none) t i (l.map (cU (lk fr .any)))).bind fun ds=>g ds (rA (lk bl none) t i (l.map (cU (lk fr .any))))
 | [],i,g=>rfl
 | x :: l,i,g=>by
  simp only [BQ,List.map_cons,yX,rA,dX]
  by_cases h:i = t
  ·simp only [if_pos h,TY,K1 t l (i + 1)]
   cases GF (lk bl none) (cU (lk fr .any) x) with
   | none=>rfl
   | some y =>
    cases yX (lk bl none) t (i + 1) (l.map (cU (lk fr .any))) with
    | none=>rfl
    | some ds=>simp
  ·simp only [if_neg h,yB,K1 t l (i + 1)]
   cases jD (lk bl none) (cU (lk fr .any) x) with
   | none=>rfl
   | some y=>cases yX (lk bl none) t (i + 1) (l.map (cU (lk fr .any))) <;> rfl
noncomputable def FR (T:vF) (bl:List (Nat × Option aL)) (f id ver:Nat) (ds:List D) (kw:V→List (Nat × Option aL)→Option β):Option β:=match call T f ds with
 | some (.own y [(e,size)] [rows'])=>match lk bl none id with
  | some (.rows v e' size' _)=>if ver = v ∧ e = e' ∧ size = size' ∧ E5 y = true ∧ oP rows' = true then kw (toV y) [(id,some (.rows v e size rows'))] else none
  | _=>none
 | _=>none
theorem aBT (f:Nat) (args:List dL) (t:Nat):tT T d (.lend f args t) fr bl k kw = aA5 args t fun x=>dX fr x fun v=>UQ v fun id ver=>BQ fr bl t 0 args fun ds fz=>fzN id fz (FR T bl f id ver ds kw):=by
 rw [k7,YK]
 simp only [eG,List.getElem?_map]
 cases args[t]? with
 | none=>rfl
 | some x =>
  simp only [Option.map_some,Option.bind_some,dX]
  generalize cU (lk fr .any) x = v
  cases v with
  | own id ver =>
   simp only [UQ,K1]
   cases yX (lk bl none) t 0 (args.map (cU (lk fr .any))) with
   | none=>rfl
   | some ds =>
    simp only [Option.bind_some,fzN]
    split
    ·unfold FR
     generalize call T f ds = r
     generalize lk bl none id = b
     split
     ·split
      ·split
       ·rename_i hq
        exact (if_pos hq).symm
       ·rename_i hq
        exact (if_neg hq).symm
      ·rename_i hq
       cases b with
       | none=>rfl
       | some b=>cases b <;> first | rfl | exact absurd rfl (hq _ _ _ _)
     ·rename_i hq
      split
      ·exact absurd rfl (hq _ _ _ _)
      ·rfl
    ·rfl
  | _=>rfl
def B1 (ver e size:Nat) (rows' : List (List D)) (b:Option aL) (g:Option aL→Option β):Option β:=match b with
 | some (.rows v e' s' _)=>if ver = v ∧ e = e' ∧ size = s' then g (some (.rows v e size rows')) else none
 | _=>none
theorem SF (v e s:Nat) (rows rows' : List (List D)) (g:Option aL→Option β):B1 v e s rows' (some (.rows v e s rows)) g = g (some (.rows v e s rows')):=if_pos ⟨rfl,rfl,rfl⟩
theorem zV {α:Type} {f e size:Nat} {ds:List D} {o:Option α} {y:α→D} {r:α→List (List D)} (h:call T f ds = o.map fun x=>.own (y x) [(e,size)] [r x]) (hy:∀ x,E5 (y x) = true) (hr:∀ x,oP (r x) = true) (id ver:Nat) :
  FR T bl f id ver ds kw = o.bind fun x=>dK bl id fun b=>B1 ver e size (r x) b fun b'=>kw (toV (y x)) [(id,b')]:=by
 unfold FR
 rw [h]
 cases o with
 | none=>rfl
 | some x =>
  simp only [Option.map_some,Option.bind_some,dK,B1,hy x,hr x,and_true]
theorem pL {α:Type} (c:α→List D) (hc:∀ x,(c x).all BM = true) (xs:List α):oP (cM c xs) = true:=by
 unfold oP cM
 rw [List.all_eq_true]
 intro row hr
 obtain ⟨x,_,rfl⟩:=List.mem_map.1 hr
 exact hc x
def aIo (res:List m6) (t:Nat):Ex→St→Option D
 | .normal,s=>uR ⟨0,0,res,.skip,true,true⟩ s t
 | .ret,s=>uR ⟨0,0,res,.skip,true,true⟩ s t
 | .exit _,_=>none
def RX (ver:Nat) (b:Option aL) (g:Nat→Nat→List (List D)→Option D):Option D:=match b with
 | some (.rows v e size rows)=>if ver = v then g e size rows else none
 | _=>none
theorem XT (v e s:Nat) (rows:List (List D)) (g:Nat→Nat→List (List D)→Option D):RX v (some (.rows v e s rows)) g = g e s rows:=if_pos rfl
def QI (e s:Nat) (rows:List (List D)) (y:D):Option D:=if E5 y = true then some (.own y [(e,s)] [rows]) else none
theorem aBY (e s:Nat) (rows:List (List D)):QI e s rows (.tup []) = some (.own (.tup []) [(e,s)] [rows]):=rfl
theorem X8 (res:List m6) (t:Nat):uR ⟨0,0,res,.skip,true,true⟩ ⟨fr,bl⟩ t = pW fr t fun v=>UQ v fun id ver=>dK bl id fun b=>RX ver b fun e s rows=>(EW fr bl res IQ).bind (QI e s rows):=by
 unfold uR pW
 rw [E8]
 cases lk fr .any t with
 | own id ver =>
  simp only [UQ,dK,RX]
  rw [EV]
  cases lk bl none id with
  | none=>rfl
  | some b =>
   cases b with
   | rows v e size rows =>
    simp only
    split
    ·rw [← X2]
     cases bB (qW ⟨fr,bl⟩) res with
     | none=>rfl
     | some us =>
      cases us with
      | nil=>rfl
      | cons u us=>cases us with
       | nil=>simp only [EV]; cases jD (lk bl none) u <;> rfl
       | cons w us=>simp only [EV]; cases toD (lk bl none) (.tup (u :: w :: us)) <;> rfl
    ·rfl
   | _=>rfl
 | _=>rfl
theorem aIG (res:List m6) (t:Nat):aIo res t .normal ⟨fr,bl⟩ = pW fr t fun v=>UQ v fun id ver=>dK bl id fun b=>RX ver b fun e s rows=>(EW fr bl res IQ).bind (QI e s rows):=X8 res t
theorem aIU (res:List m6) (t:Nat):aIo res t .ret ⟨fr,bl⟩ = pW fr t fun v=>UQ v fun id ver=>dK bl id fun b=>RX ver b fun e s rows=>(EW fr bl res IQ).bind (QI e s rows):=X8 res t
theorem aHo:IQ [] = some (.tup []):=rfl
theorem LC {T:vF} {f np nt t:Nat} {res:List m6} {body:aT} {fs:Bool} (hf:T f = some (.code ⟨np,nt,res,body,fs,true⟩)) (ds:List D) (hl:ds.length = np) (hlt:iG 0 ds = some t) (hnd:wJ t body = true):Vm.call T f ds = eH T body (w7 t ds) (aIo res t):=by
 rw [aBn hf ds hl hlt rfl hnd]
 unfold eH
 cases Vm.ev T body (w7 t ds) with
 | none=>rfl
 | some q =>
  obtain ⟨e,s⟩:=q
  cases e <;> rfl
end
section
variable {β:Type} {T:vF}
theorem SM {c:aT} {n:Nat} {r:Ex × St}:∀ (k:Nat) (s:St),rJ (bX (iN T n) n c) k s = some r→ev T (.loop c) s = some r
 | 0,s,e=>by cases e
 | k + 1,s,e=>by
  simp only [rJ] at e
  cases hc:bX (iN T n) n c s with
  | none=>rw [hc] at e; cases e
  | some q =>
   have h1:=hU.2 ⟨n,hc⟩
   rw [hc] at e
   rw [QC,h1]
   obtain ⟨ex,s'⟩:=q
   cases ex with
   | normal=>exact SM k s' e
   | exit id=>exact e
   | ret=>exact e
noncomputable def aHY (T:vF) (c:aT):Ex × St→Option (Ex × St)
 | (.normal,s)=>ev T (.loop c) s
 | q=>some q
theorem ZS {S X:Type} {step:S→Option (S ⊕ X)} {c:aT} (enc:S→St) (out:X→Ex × St) (h:∀ s,ev T c (enc s) = eW enc out (step s)) (s:S) :
  ev T (.loop c) (enc s) = (fE step s).bind fun x=>aHY T c (out x):=by
 refine pH fun r=>?_
 rw [Option.bind_eq_some_iff]
 constructor
 ·intro e
  obtain ⟨n,hn⟩:=hU.1 e
  simp only [bX] at hn
  generalize hk:(n:Nat) = k at hn
  have key:∀ (k:Nat) (s:S),rJ (bX (iN T n) n c) k (enc s) = some r→∃ x,wQ step k s = some x ∧ aHY T c (out x) = some r:=by
   intro k
   induction k with
   | zero=>intro s e; cases e
   | succ k ih =>
    intro s e
    simp only [rJ] at e
    cases hc:bX (iN T n) n c (enc s) with
    | none=>rw [hc] at e; cases e
    | some q =>
     have h1:=hU.2 ⟨n,hc⟩
     rw [h s] at h1
     rw [hc] at e
     simp only [wQ]
     cases hs:step s with
     | none=>rw [hs] at h1; cases h1
     | some y =>
      rw [hs] at h1
      cases y with
      | inl s' =>
       obtain rfl:=Option.some.inj h1
       exact ih s' e
      | inr x =>
       simp only [eW,Option.some.injEq] at h1
       refine ⟨x,rfl,?_⟩
       rw [h1]
       obtain ⟨ex,s'⟩:=q
       cases ex with
       | normal=>exact SM k s' e
       | exit id=>exact e
       | ret=>exact e
  subst hk
  obtain ⟨x,g1,g2⟩:=key n s hn
  exact ⟨x,wG.2 ⟨n,g1⟩,g2⟩
 ·rintro ⟨x,h1,h2⟩
  obtain ⟨n,hn⟩:=wG.1 h1
  clear h1
  induction n generalizing s with
  | zero=>cases hn
  | succ n ih =>
   simp only [wQ] at hn
   rw [QC,h s]
   cases hs:step s with
   | none=>rw [hs] at hn; cases hn
   | some q =>
    rw [hs] at hn
    cases q with
    | inl s'=>exact ih s' hn
    | inr y =>
     obtain rfl:=Option.some.inj hn
     simp only [eW]
     cases ho:out y with
     | mk ex s' =>
      rw [ho] at h2
      cases ex with
      | normal=>exact h2
      | exit id=>exact h2
      | ret=>exact h2
noncomputable def aIC (T:vF) (c:aT) (k:Ex→St→Option β):Ex × St→Option β
 | (.normal,s)=>eH T (.loop c) s k
 | (e,s)=>k e s
theorem ZO {S X:Type} {step:S→Option (S ⊕ X)} {c:aT} {k:Ex→St→Option β} (enc:S→St) (out:X→Ex × St)
  (h:∀ s,eH T c (enc s) (fun e s'=>some (e,s')) = eW enc out (step s)) (s:S) :
  eH T (.loop c) (enc s) k = (fE step s).bind fun x=>aIC T c k (out x):=by
 unfold eH
 rw [ZS enc out (fun s=>by
  have:=h s
  unfold eH at this
  rw [← this]
  cases ev T c (enc s) <;> rfl) s]
 cases fE step s with
 | none=>rfl
 | some x =>
  simp only [Option.bind_some]
  cases out x with
  | mk e s'=>cases e <;> rfl
end
section
variable {β:Type} {T:vF} {fr:List (Nat × V)} {bl:List (Nat × Option aL)}
def CT (fr:List (Nat × V)):List Nat→(List V→Option β)→Option β
 | [],k=>k []
 | t :: l,k=>pW fr t fun v=>CT fr l fun vs=>k (v :: vs)
theorem aBL (l:List Nat) (k:List V→Option β):CT fr l k = k (l.map (lk fr .any)):=by
 induction l generalizing k with
 | nil=>rfl
 | cons x l ih=>simp only [CT,pW,ih,List.map_cons]
theorem W0 (k:List V→Option β):CT fr [] k = k []:=rfl
theorem T7 (t:Nat) (l:List Nat) (k:List V→Option β):CT fr (t :: l) k = pW fr t fun v=>CT fr l fun vs=>k (v :: vs):=rfl
def aJ6 (args:List dL) (id:Nat) (slots:List Nat) (fr:List (Nat × V)) (bl:List (Nat × Option aL)) (k:List (Nat × V)→List (Nat × Option aL)→Option β):Option β :=
 dK bl id fun b=>jC b (CT fr slots fun cs=>FG fr args fun vs=>k (u2 0 vs) ((id,some (.outer cs)) :: bl))
def inK (args:List dL) (id:Nat) (slots:List Nat) (s:St) (k:List (Nat × V)→List (Nat × Option aL)→Option β):Option β:=aJ6 args id slots s.fr s.bl k
theorem aIB (args:List dL) (id:Nat) (slots:List Nat) (k:List (Nat × V)→List (Nat × Option aL)→Option β):inK args id slots ⟨fr,bl⟩ k = dK bl id fun b=>jC b (CT fr slots fun cs=>FG fr args fun vs=>k (u2 0 vs) ((id,some (.outer cs)) :: bl)):=rfl
theorem Z7 (i:Nat):u2 i [] = []:=rfl
theorem WV (i:Nat) (v:V) (l:List V):u2 i (v :: l) = (i,v) :: u2 (i + 1) l:=rfl
theorem aGh (args:List dL) (id:Nat) (slots:List Nat) (k:St→Option β):(OE args id slots ⟨fr,bl⟩).bind k = inK args id slots ⟨fr,bl⟩ fun fr' bl'=>k ⟨fr',bl'⟩:=by
 unfold OE inK aJ6 dK jC
 rw [aCW]
 cases hb:lk bl none id with
 | some b=>rfl
 | none =>
  simp only [Option.isNone_none,if_true,Option.bind_some,aBL,R8]
  rfl
def M3 (fr:List (Nat × V)) (bl:List (Nat × Option aL)):List m6→(List V→Option β)→Option β
 | [],k=>k []
 | .tmp t :: r,k=>pW fr t fun v=>M3 fr bl r fun l=>k (v :: l)
 | .cell t size isAgg :: r,k=>pW fr t fun p=>wU size isAgg p bl fun v=>M3 fr bl r fun l=>k (v :: l)
theorem aHj (res:List m6):∀ (k:List V→Option β),M3 fr bl res k = (bB (qW ⟨fr,bl⟩) res).bind k:=by
 induction res with
 | nil=>intro k; rfl
 | cons r res ih =>
  intro k
  cases r with
  | tmp t =>
   simp only [M3,pW,ih,bB,qW,E8]
   cases bB (qW ⟨fr,bl⟩) res <;> rfl
  | cell t size isAgg =>
   simp only [M3,pW,J4,ih,bB,qW,B9,E8,EV]
   cases F5 size isAgg (lk fr .any t) (lk bl none) with
   | none=>rfl
   | some q =>
    obtain ⟨v,wr⟩:=q
    simp only [Option.bind_some]
    cases bB (qW ⟨fr,bl⟩) res <;> rfl
theorem aE1 (k:List V→Option β):M3 fr bl [] k = k []:=rfl
theorem aJf (t:Nat) (r:List m6) (k:List V→Option β):M3 fr bl (.tmp t :: r) k = pW fr t fun v=>M3 fr bl r fun l=>k (v :: l):=rfl
def N2 (dst:Option Nat) (slots:List Nat) (cs vs:List V) (k:List (Nat × V)→Option β):Option β :=
 match vs with
 | [v]=>k (I8 dst v ++ slots.zip cs)
 | vs=>if vs.all V.noTup = true then k (I8 dst (.tup vs) ++ slots.zip cs) else none
theorem aBc (dst:Option Nat) (slots:List Nat) (cs:List V) (v:V) (k:List (Nat × V)→Option β):N2 dst slots cs [v] k = k (I8 dst v ++ slots.zip cs):=rfl
theorem aBE (dst:Option Nat) (slots:List Nat) (cs:List V) (k:List (Nat × V)→Option β):N2 dst slots cs [] k = k (I8 dst (.tup []) ++ slots.zip cs):=rfl
theorem LA (dst:Option Nat) (slots:List Nat) (cs:List V) (v u:V) (l:List V) (k:List (Nat × V)→Option β):N2 dst slots cs (v :: u :: l) k = if (v :: u :: l).all V.noTup = true then k (I8 dst (.tup (v :: u :: l)) ++ slots.zip cs) else none:=rfl
theorem aBi (d:Nat) (v:V) (l:List (Nat × V)):I8 (some d) v ++ l = (d,v) :: l:=rfl
theorem aEC:([]:List Nat).zip ([]:List V) = []:=rfl
theorem ZR (t:Nat) (v:V) (l:List Nat) (r:List V):(t :: l).zip (v :: r) = (t,v) :: l.zip r:=rfl
def O1 (b:Option aL) (k:List V→Option β):Option β:=match b with
 | some (.outer cs)=>k cs
 | _=>none
theorem aEZ (cs:List V) (k:List V→Option β):O1 (some (.outer cs)) k = k cs:=rfl
def aEl (dst:Option Nat) (res:List m6) (id:Nat) (slots:List Nat) (fr:List (Nat × V)) (bl:List (Nat × Option aL)) (k:List (Nat × V)→List (Nat × Option aL)→Option β):Option β :=
 dK bl id fun b=>O1 b fun cs=>M3 fr bl res fun vs=>N2 dst slots cs vs fun fr'=>k fr' ((id,none) :: bl)
theorem aGE (dst:Option Nat) (res:List m6) (id:Nat) (slots:List Nat) (k:List (Nat × V)→List (Nat × Option aL)→Option β):aEl dst res id slots fr bl k = dK bl id fun b=>O1 b fun cs=>M3 fr bl res fun vs=>N2 dst slots cs vs fun fr'=>k fr' ((id,none) :: bl):=rfl
theorem TS (dst:Option Nat) (res:List m6) (id:Nat) (slots:List Nat) (k:St→Option β):(pF dst res id slots ⟨fr,bl⟩).bind k = aEl dst res id slots fr bl fun fr' bl'=>k ⟨fr',bl'⟩:=by
 unfold pF aEl dK
 rw [aCW]
 cases hb:lk bl none id with
 | none=>cases bB (qW ⟨fr,bl⟩) res <;> rfl
 | some b =>
  cases b with
  | outer cs =>
   simp only [O1,aHj]
   cases bB (qW ⟨fr,bl⟩) res with
   | none=>rfl
   | some vs =>
    simp only [Option.bind_some]
    cases vs with
    | nil=>rfl
    | cons v vs=>cases vs with
     | nil=>rfl
     | cons u vs =>
      rw [LA]
      show (if (v :: u :: vs).all V.noTup = true then some _ else none).bind k = _
      split <;> rfl
  | _=>cases bB (qW ⟨fr,bl⟩) res <;> rfl
def O4 (dst:Option Nat) (res:List m6) (id:Nat) (slots:List Nat) (k:Ex→St→Option β):Ex→St→Option β
 | .normal,s=>(pF dst res id slots s).bind fun s4=>k .normal s4
 | .ret,s=>(pF dst res id slots s).bind fun s4=>k .normal s4
 | .exit _,_=>none
theorem aDJ (dst:Option Nat) (res:List m6) (id:Nat) (slots:List Nat) (k:Ex→St→Option β):O4 dst res id slots k .normal ⟨fr,bl⟩ = aEl dst res id slots fr bl fun fr' bl'=>k .normal ⟨fr',bl'⟩:=TS dst res id slots _
theorem aEw (dst:Option Nat) (res:List m6) (id:Nat) (slots:List Nat) (k:Ex→St→Option β):O4 dst res id slots k .ret ⟨fr,bl⟩ = aEl dst res id slots fr bl fun fr' bl'=>k .normal ⟨fr',bl'⟩:=TS dst res id slots _
theorem aFj {k:Ex→St→Option β} (ops:List bK) (args:List dL) (dst:Option Nat) (f:Nat) (body:aT) (res:List m6) (id:Nat) (slots:List Nat) :
  eH T (.inl ops args dst f body res id slots) ⟨fr,bl⟩ k = tF T ops ⟨fr,bl⟩ fun s1=>inK args id slots s1 fun fr' bl'=>eH T body ⟨fr',bl'⟩ (O4 dst res id slots k):=by
 rw [aG2]
 congr 1
 funext s1
 refine Eq.trans ?_ (aGh (fr:=s1.fr) (bl:=s1.bl) args id slots fun s=>eH T body s (O4 dst res id slots k))
 congr 1
 funext s2
 congr 1
 funext ex s3
 cases ex <;> rfl
def EP (keep:List Nat) (bl:List (Nat × Option aL)):List V→(List V→Option β)→Option β
 | [],k=>k []
 | v :: cs,k=>vN keep bl v fun v'=>EP keep bl cs fun l=>k (v' :: l)
theorem ZD (keep:List Nat) (cs:List V):∀ (k:List V→Option β),EP keep bl cs k = k (cs.map (EH keep (lk bl none))):=by
 induction cs with
 | nil=>intro k; rfl
 | cons v cs ih=>intro k; simp only [EP,vN,ih,List.map_cons]
theorem VW (keep:List Nat) (k:List V→Option β):EP keep bl [] k = k []:=rfl
theorem SP (keep:List Nat) (v:V) (cs:List V) (k:List V→Option β):EP keep bl (v :: cs) k = vN keep bl v fun v'=>EP keep bl cs fun l=>k (v' :: l):=rfl
theorem P3 (keep:List Nat) (cs:List V) (k:Option aL→Option β):AE keep bl (some (.outer cs)) k = EP keep bl cs fun l=>k (some (.outer l)):=by rw [ZD]; rfl
end
section
variable {β:Type} {T:vF} {d:Nat} {fr:List (Nat × V)} {bl:List (Nat × Option aL)} {k:V→Option β} {kw:V→List (Nat × Option aL)→Option β}
noncomputable def wE (T:vF) (d:Nat) (bl:List (Nat × Option aL)) (f:Nat) (ds:List D) (k:V→Option β) (kw:V→List (Nat × Option aL)→Option β):Option β:=match call T f ds with
 | some (.own x es rs)=>if D2 x rs = true then yS (oF d (lk bl none) [] (.own x es rs)) k kw else none
 | _=>none
theorem aA1 (f:Nat) (args:List dL):tT T d (.calln f args) fr bl k kw = H8 fr bl args fun ds _=>wE T d bl f ds k kw:=by
 rw [k7,T4]
 simp only [eG]
 cases bB (fun x=>jD (lk bl none) (cU (lk fr .any) x)) args with
 | none=>rfl
 | some ds =>
  simp only [Option.bind_some,wE]
  cases call T f ds with
  | none=>rfl
  | some y =>
   cases y with
   | own x es rs=>simp only; split <;> rfl
   | _=>rfl
theorem rV {x:D} {rs:List (List (List D))} (h1:YF x = true) (h2:rs.all oP = true):D2 x rs = true:=by simp only [D2,h1,h2,Bool.and_self]
theorem v6 {r:List (List D)} {rs:List (List (List D))} (h1:oP r = true) (h2:rs.all oP = true):(r :: rs).all oP = true:=by simp only [List.all_cons,h1,h2,Bool.and_self]
theorem uA {α:Type} {f:Nat} {ds:List D} {o:Option α} {y:α→D} {p:Nat × Nat} {es:List (Nat × Nat)} {r:α→List (List D)} {rs:α→List (List (List D))} (h:call T f ds = o.map fun x=>.own (y x) (p :: es) (r x :: rs x)) (hn:∀ x,D2 (y x) (r x :: rs x) = true) :
  wE T d bl f ds k kw = o.bind fun x=>RS bl (gR d 0 (p :: es) (r x :: rs x)) (kw (thaw d (y x)) (gR d 0 (p :: es) (r x :: rs x))):=by
 unfold wE
 rw [h]
 cases o with
 | none=>rfl
 | some x =>
  simp only [Option.map_some,Option.bind_some,oF,MC,hn x,if_true,List.append_nil]
  split
  ·obtain ⟨e,s⟩:=p; rfl
  ·rfl
end
end Vm
end Go.Proofs.Ytiimibimkpimbaa
set_option linter.unusedVariables false
set_option linter.unusedSimpArgs false
namespace Go.Proofs.Ytiimibimkpimbaa
namespace Vm
open Go.RowKit
section
variable {β:Type} {T:vF} {d:Nat} {fr:List (Nat × V)} {bl:List (Nat × Option aL)} {k:V→Option β} {kw:V→List (Nat × Option aL)→Option β}
end
end Vm
end Go.Proofs.Ytiimibimkpimbaa
