/- The small machine, read from the front: slices that are laid out, calls, masks, answers. The small machine, read from the front: regions whose order is drawn. The small machine, read from the front: slices that are lent, cut, cleared. The small machine, read from the front: function values that hold boxes. -/
import Derived.Test.YtiimibimkpimbaaVmE
set_option linter.unusedVariables false
set_option linter.unusedSimpArgs false
namespace Go.Proofs.Ytiimibimkpimbaa
theorem zA.{u} {α:Type u} {a:α} {l:List α}:(a::l).length = l.length + 1:=rfl
theorem zB.{u} {α:Type u}:([]:List α).length = 0:=rfl
theorem zC:(!true) = false:=rfl
theorem zD:(!false) = true:=rfl
theorem zE.{u} {α:Type u} {n:Nat} {a:α}:List.replicate (n + 1) a = a::List.replicate n a:=rfl
theorem zF.{u} {α:Type u} {a:α}:List.replicate 0 a = []:=rfl
theorem zG.{u,v} {α:Type u} {β:Type v} (a:α) (f:α→Option β):(some a).bind f = f a:=rfl
theorem zH.{u,v} {α:Type u} {β:Type v} (a:α) (f:α→β):(some a).map f = some (f a):=rfl
theorem zI.{u,v} {α:Type u} {β:Type v} (f:α→β):(none:Option α).map f = none:=rfl
theorem zJ.{u,v,w} {α:Type u} {β:Type v} {γ:Sort w} (f:α→γ) (g:β→γ) (x:α):Sum.elim f g (Sum.inl x) = f x:=rfl
theorem zK.{u,v,w} {α:Type u} {β:Type v} {γ:Sort w} (f:α→γ) (g:β→γ) (x:β):Sum.elim f g (Sum.inr x) = g x:=rfl
theorem zL.{u,v,w} {α:Type u} {β:Type v} {γ:Type w} (x:Option α) (f:α→Option β) (g:β→Option γ):(x.bind f).bind g = x.bind fun y=>(f y).bind g:=Option.bind_assoc x f g
theorem zM.{u} {α:Type u} [BEq α] [ReflBEq α] (a:α):(a == a) = true:=beq_self_eq_true a
theorem zN:(¬False) = True:=not_false_eq_true
namespace Vm
open Go.RowKit
section
variable {β:Type} {T:vT} {d:Nat} {fr:List (Nat × V)} {bl:List (Nat × Option aS)} {k:V→Option β} {kw:V→List (Nat × Option aS)→Option β}
def C2 (bl:List (Nat × Option aS)):List V→(List D→List (Nat × Option aS)→Option β)→Option β
 | [],k=>k [] []
 | v :: cs,k=>(mG (lk bl none) v).bind fun x=>C2 bl cs fun ds f=>k (x :: ds) (DD (lk bl none) v ++ f)
theorem RW (cs:List V) (k:List D→List (Nat × Option aS)→Option β):C2 bl cs k = (bB (mG (lk bl none)) cs).bind fun ds=>k ds (cs.flatMap (DD (lk bl none))):=by
 induction cs generalizing k with
 | nil=>rfl
 | cons v cs ih =>
  simp only [C2,bB,ih,List.flatMap_cons]
  cases mG (lk bl none) v with
  | none=>rfl
  | some x=>cases bB (mG (lk bl none)) cs <;> rfl
def d1K (v:V) (bl:List (Nat × Option aS)) (k:D→List (Nat × Option aS)→Option β):Option β:=(mG (lk bl none) v).bind fun x=>k x (DD (lk bl none) v)
def d1B (id ver:Nat) (b:Option aS) (k:D→List (Nat × Option aS)→Option β):Option β:=match b with
 | some (.rows v _ _ rows)=>if ver = v then k (.sl rows) [(id,some (.froz v rows))] else none
 | some (.froz v rows)=>if ver = v then k (.sl rows) [] else none
 | _=>none
theorem aHT (id ver:Nat) (k:D→List (Nat × Option aS)→Option β):d1K (.own id ver) bl k = dG bl id fun b=>d1B id ver b k:=by
 unfold d1K dG d1B
 simp only [mG,DD,sY,D9]
 generalize lk bl none id = b
 cases b with
 | none=>rfl
 | some b=>cases b with
  | rows v e s rows=>simp only; by_cases h:ver = v <;> simp [h]
  | froz v rows=>simp only; by_cases h:ver = v <;> simp [h]
  | _=>rfl
theorem aCg (id v e s:Nat) (rows:List (List D)) (k:D→List (Nat × Option aS)→Option β):d1B id v (some (.rows v e s rows)) k = k (.sl rows) [(id,some (.froz v rows))]:=if_pos rfl
theorem aET (id v:Nat) (rows:List (List D)) (k:D→List (Nat × Option aS)→Option β):d1B id v (some (.froz v rows)) k = k (.sl rows) []:=if_pos rfl
def rL (bl:List (Nat × Option aS)):List V→(List D→List (Nat × Option aS)→Option β)→Option β
 | [],k=>k [] []
 | v :: cs,k=>(sY (lk bl none) v).bind fun x=>rL bl cs fun ds f=>k (x :: ds) (D9 (lk bl none) v ++ f)
theorem ZZ (cs:List V) (k:List D→List (Nat × Option aS)→Option β):rL bl cs k = (bB (sY (lk bl none)) cs).bind fun ds=>k ds (cs.flatMap (D9 (lk bl none))):=by
 induction cs generalizing k with
 | nil=>rfl
 | cons v cs ih =>
  simp only [rL,bB,ih,List.flatMap_cons]
  cases sY (lk bl none) v with
  | none=>rfl
  | some x=>cases bB (sY (lk bl none)) cs <;> rfl
theorem U0 (k:List D→List (Nat × Option aS)→Option β):rL bl [] k = k [] []:=rfl
theorem aCn (x:D) (cs:List V) (k:List D→List (Nat × Option aS)→Option β):rL bl (.d x :: cs) k = rL bl cs fun ds f=>k (x :: ds) f:=rfl
theorem XC (id ver:Nat) (cs:List V) (k:List D→List (Nat × Option aS)→Option β):rL bl (.own id ver :: cs) k = d1K (.own id ver) bl fun x g=>rL bl cs fun ds f=>k (x :: ds) (g ++ f):=rfl
theorem NB (ds:List D) (k:List D→List (Nat × Option aS)→Option β):rL bl (bQ ds) k = k ds []:=by
 have:∀ (ds:List D) (k:List D→List (Nat × Option aS)→Option β),rL bl (bQ ds) k = k ds []:=by
  intro ds
  induction ds with
  | nil=>intro k; rfl
  | cons x ds ih=>intro k; show rL bl (bQ ds) _ = _; rw [ih]; rfl
 exact this ds k
def d1P (id off:Nat) (b:Option aS) (bl:List (Nat × Option aS)) (k:D→List (Nat × Option aS)→Option β):Option β:=match b with
 | some (.box cs)=>rL bl cs fun ds f=>k (.ptr ds off) ((id,some (.fbox ds)) :: f)
 | some (.fbox ds)=>k (.ptr ds off) []
 | _=>none
theorem aHI (id off:Nat) (k:D→List (Nat × Option aS)→Option β):d1K (.ptr id off) bl k = dG bl id fun b=>d1P id off b bl k:=by
 unfold d1K dG d1P
 simp only [mG,DD]
 cases lk bl none id with
 | none=>rfl
 | some b=>cases b with
  | box cs =>
   simp only [ZZ]
   cases bB (sY (lk bl none)) cs <;> rfl
  | _=>rfl
theorem aFH (id off:Nat) (c:V) (cs:List V) (k:D→List (Nat × Option aS)→Option β):d1P id off (some (.box (c :: cs))) bl k = rL bl (c :: cs) fun ds f=>k (.ptr ds off) ((id,some (.fbox ds)) :: f):=rfl
theorem XL (id off:Nat) (ds:List D) (k:D→List (Nat × Option aS)→Option β):d1P id off (some (.box (bQ ds))) bl k = k (.ptr ds off) [(id,some (.fbox ds))]:=by
 show rL bl (bQ ds) _ = _
 rw [NB]
theorem aAG (k:List D→List (Nat × Option aS)→Option β):C2 bl [] k = k [] []:=rfl
theorem aHu (x:D) (cs:List V) (k:List D→List (Nat × Option aS)→Option β):C2 bl (.d x :: cs) k = C2 bl cs fun ds f=>k (x :: ds) f:=rfl
theorem GH (ds:List D) (k:List D→List (Nat × Option aS)→Option β):C2 bl (bQ ds) k = k ds []:=by
 have:∀ (ds:List D) (k:List D→List (Nat × Option aS)→Option β),C2 bl (bQ ds) k = k ds []:=by
  intro ds
  induction ds with
  | nil=>intro k; rfl
  | cons x ds ih=>intro k; show C2 bl (bQ ds) _ = _; rw [ih]; rfl
 exact this ds k
def yR (v:V) (bl:List (Nat × Option aS)) (k:D→List (Nat × Option aS)→Option β):Option β:=(jD (lk bl none) v).bind fun x=>k x (sZ (lk bl none) v)
theorem aJ8 (x:D) (k:D→List (Nat × Option aS)→Option β):yR (.d x) bl k = k x []:=rfl
theorem aDt (k:D→List (Nat × Option aS)→Option β):yR .nil bl k = k (.sl []) []:=rfl
theorem aES (id ver:Nat) (k:D→List (Nat × Option aS)→Option β):yR (.own id ver) bl k = d1K (.own id ver) bl k:=rfl
theorem T1 (cs:List V) (k:D→List (Nat × Option aS)→Option β):yR (.agg cs) bl k = C2 bl cs fun ds f=>k (.agg ds) f:=by
 rw [RW]
 show ((bB (mG (lk bl none)) cs).map D.agg).bind _ = _
 cases bB (mG (lk bl none)) cs <;> rfl
theorem ZW (ds:List D) (k:D→List (Nat × Option aS)→Option β):yR (oK ds) bl k = k (.agg ds) []:=by
 show yR (.agg (bQ ds)) bl k = _
 rw [T1,GH]
theorem aJZ (x:D) (k:List D→List (Nat × Option aS)→Option β):Q0 (.d x) bl k = k [x] []:=rfl
theorem S2 (cs:List V) (k:List D→List (Nat × Option aS)→Option β):Q0 (.agg cs) bl k = C2 bl cs k:=by
 rw [RW]
 show (match bB (mG (lk bl none)) cs with | some row=>k row (cs.flatMap (DD (lk bl none))) | none=>none) = _
 cases bB (mG (lk bl none)) cs <;> rfl
theorem aBz (ds:List D) (k:List D→List (Nat × Option aS)→Option β):Q0 (oK ds) bl k = k ds []:=by
 show Q0 (.agg (bQ ds)) bl k = _
 rw [S2,GH]
def RY (rs:List (List D)) (i:Nat) (row:List D) (k:List (List D)→Option β):Option β:=if i < rs.length then k (rs.set i row) else none
theorem aI9 (r:List D) (rs:List (List D)) (row:List D) (k:List (List D)→Option β):RY (r :: rs) 0 row k = k (row :: rs):=by simp [RY]
theorem aJc (r:List D) (rs:List (List D)) (i:Nat) (row:List D) (k:List (List D)→Option β):RY (r :: rs) (i + 1) row k = RY rs i row fun l=>k (r :: l):=by
 unfold RY
 simp only [List.length_cons,List.set_cons_succ]
 by_cases h:i < rs.length
 ·rw [if_pos h,if_pos (by omega)]
 ·rw [if_neg h,if_neg (by omega)]
def bsF (fr:List (Nat × V)) (bl:List (Nat × Option aS)) (size:Nat) (rs:List (List D)):List (Nat × dH)→List (Nat × Option aS)→(List (List D)→List (Nat × Option aS)→Option β)→Option β
 | [],wr,k=>k rs wr
 | (i,x) :: r,wr,k=>dV fr x fun v=>Q0 v bl fun row f=>tT row size (RY rs i row fun rs'=>bsF fr bl size rs' r (wr ++ f) k)
theorem aF6 (size:Nat) (rs:List (List D)) (wr:List (Nat × Option aS)) (k:List (List D)→List (Nat × Option aS)→Option β):bsF fr bl size rs [] wr k = k rs wr:=rfl
theorem aEf (size:Nat) (rs:List (List D)) (i:Nat) (x:dH) (r:List (Nat × dH)) (wr:List (Nat × Option aS)) (k:List (List D)→List (Nat × Option aS)→Option β):bsF fr bl size rs ((i,x) :: r) wr k = dV fr x fun v=>Q0 v bl fun row f=>tT row size (RY rs i row fun rs'=>bsF fr bl size rs' r (wr ++ f) k):=rfl
theorem aJz (size:Nat) (parts:List (Nat × dH)):∀ (rs:List (List D)) (wr:List (Nat × Option aS)) (k:List (List D)→List (Nat × Option aS)→Option β),bsF fr bl size rs parts wr k = (lL (lk bl none) size rs (parts.map fun p=>(p.1,cR (lk fr .any) p.2))).bind fun rs'=>k rs' (wr ++ parts.flatMap fun p=>sZ (lk bl none) (cR (lk fr .any) p.2)):=by
 induction parts with
 | nil=>intro rs wr k; simp [bsF,lL]
 | cons p r ih =>
  intro rs wr k
  obtain ⟨i,x⟩:=p
  simp only [bsF,dV,Q0,List.map_cons,lL,List.flatMap_cons]
  cases bB (mG (lk bl none)) (cR (lk fr .any) x).cells with
  | none=>rfl
  | some row =>
   simp only [tT,RY]
   by_cases h1:row.length = size
   ·by_cases h2:i < rs.length
    ·rw [if_pos h1,if_pos h2,if_pos ⟨h1,h2⟩,ih,List.append_assoc]
    ·rw [if_pos h1,if_neg h2,if_neg (fun q=>h2 q.2)]; rfl
   ·rw [if_neg h1,if_neg (fun q=>h1 q.1)]; rfl
theorem M9 (e size n:Nat) (z:List D) (parts:List (Nat × dH)):uE T d (.buildSlice e size z n parts) fr bl k kw = dG bl d fun b=>iU b (bsF fr bl size (List.replicate n z) parts [] fun rows wr=>PN e rows fun rows=>kw (.own d 0) ((d,some (.rows 0 e size rows)) :: wr)):=by
 rw [kU]
 unfold dG iU PN
 simp only [eG,aJz,List.nil_append]
 cases lk bl none d with
 | some b=>rfl
 | none =>
  simp only
  have e1:(parts.map fun x=>match x with | (i,x)=>(i,cR (lk fr .any) x)) = parts.map fun p=>(p.1,cR (lk fr .any) p.2):=rfl
  have e2:(parts.flatMap fun x=>match x with | (_,x)=>sZ (lk bl none) (cR (lk fr .any) x)) = parts.flatMap fun p=>sZ (lk bl none) (cR (lk fr .any) p.2):=rfl
  rw [e1,e2]
  cases lL (lk bl none) size (List.replicate n z) (parts.map fun p=>(p.1,cR (lk fr .any) p.2)) <;> rfl
theorem NC {α:Type} (e size bytes:Nat) (z:List D) (c:α→List D) (x:α) (hz:z = c x) (l cp:dH):uE T d (.makeSlice e size bytes z l cp) fr bl k kw = dG bl d fun b=>iU b (dV fr l fun a=>dV fr cp fun b=>match a,b with
   | .d (.int _ n),.d (.int _ m)=>if 0 ≤ n ∧ n ≤ m ∧ (bytes:Int) * m ≤ 281474976710656 ∧ m ≤ 9223372036854775807 then kw (.own d 0) [(d,some (.rows 0 e size (cM c (List.replicate n.toNat x))))] else none
   | _,_=>none):=by
 subst hz
 rw [kU]
 unfold dG iU dV
 simp only [eG,PS]
 generalize cR (lk fr .any) l = a
 generalize cR (lk fr .any) cp = b
 cases lk bl none d with
 | some b=>rfl
 | none =>
  simp only
  split
  ·rename_i n _ m
   simp only
   by_cases h:0 ≤ n ∧ n ≤ m ∧ (bytes:Int) * m ≤ 281474976710656 ∧ m ≤ 9223372036854775807
   ·rw [if_pos h,if_pos h]; rfl
   ·rw [if_neg h,if_neg h]; rfl
  ·rename_i h
   split
   ·rename_i n _ m
    exact absurd rfl (h _ _ _ _ rfl)
   ·rfl
def I0 (fr:List (Nat × V)) (bl:List (Nat × Option aS)):List dH→(List D→List (Nat × Option aS)→Option β)→Option β
 | [],k=>k [] []
 | x :: l,k=>dV fr x fun v=>yR v bl fun y f=>I0 fr bl l fun ds g=>k (y :: ds) (f ++ g)
theorem aBv (k:List D→List (Nat × Option aS)→Option β):I0 fr bl [] k = k [] []:=rfl
theorem WP (x:dH) (l:List dH) (k:List D→List (Nat × Option aS)→Option β):I0 fr bl (x :: l) k = dV fr x fun v=>yR v bl fun y f=>I0 fr bl l fun ds g=>k (y :: ds) (f ++ g):=rfl
theorem R7 (l:List dH) (k:List D→List (Nat × Option aS)→Option β):I0 fr bl l k = (bB (fun x=>jD (lk bl none) (cR (lk fr .any) x)) l).bind fun ds=>k ds (l.flatMap fun x=>sZ (lk bl none) (cR (lk fr .any) x)):=by
 induction l generalizing k with
 | nil=>rfl
 | cons x l ih =>
  simp only [I0,dV,yR,bB,ih,List.flatMap_cons]
  cases jD (lk bl none) (cR (lk fr .any) x) with
  | none=>rfl
  | some y=>cases bB (fun x=>jD (lk bl none) (cR (lk fr .any) x)) l <;> rfl
def fzK (fz:List (Nat × Option aS)) (v:V) (k:V→Option β) (kw:V→List (Nat × Option aS)→Option β):Option β:=match fz with
 | []=>k v
 | p :: w=>kw v (p :: w)
theorem aIf (v:V):fzK [] v k kw = k v:=rfl
theorem aJF (l:List (Nat × Option aS)) (v:V):fzK ([] ++ l) v k kw = fzK l v k kw:=rfl
theorem aIU (p:Nat × Option aS) (w l:List (Nat × Option aS)) (v:V):fzK ((p :: w) ++ l) v k kw = kw v ((p :: w) ++ l):=rfl
noncomputable def fH (T:vT) (d:Nat) (bl:List (Nat × Option aS)) (f:Nat) (ds:List D) (fz:List (Nat × Option aS)) (k:V→Option β) (kw:V→List (Nat × Option aS)→Option β):Option β:=match call T f ds with
 | none=>none
 | some r=>AR (oZ d (lk bl none) fz r) k kw
theorem aC9 (f:Nat) (args:List dH):uE T d (.call f args) fr bl k kw = I0 fr bl args fun ds fz=>fH T d bl f ds fz k kw:=by
 rw [kU,R7]
 simp only [eG]
 cases bB (fun x=>jD (lk bl none) (cR (lk fr .any) x)) args with
 | none=>rfl
 | some ds =>
  simp only [Option.bind_some,fH]
  cases call T f ds <;> rfl
def D.calm:D→Bool
 | .own _ _ _=>false
 | _=>true
theorem ZA {x:D} (h:x.calm = true):∀ y es rs,x ≠ .own y es rs:=fun y es rs e=>by rw [e] at h; cases h
theorem ZP {x:D} (h:FM x = true):x.calm = true:=by cases x <;> first | rfl | cases h
theorem cP {α:Type} {f:Nat} {ds:List D} {o:Option α} {enc:α→D} (h:call T f ds = o.map enc) (hf:∀ x,FM (enc x) = true) (fz:List (Nat × Option aS)):fH T d bl f ds fz k kw = o.bind fun x=>k (toV (enc x)):=by
 unfold fH
 rw [h]
 cases o with
 | none=>rfl
 | some x=>simp only [Option.map_some,Option.bind_some]; rw [A0 (ZA (ZP (hf x))),if_pos (hf x)]; rfl
theorem BD {α:Type} {f:Nat} {ds:List D} {o:Option α} {enc:α→D} (h:call T f ds = o.map enc) (hf:∀ x,FM (enc x) = false) (hc:∀ x,(enc x).calm = true) (fz:List (Nat × Option aS)):fH T d bl f ds fz k kw = o.bind fun x=>fzK fz (toV (enc x)) k kw:=by
 unfold fH
 rw [h]
 cases o with
 | none=>rfl
 | some x=>simp only [Option.map_some,Option.bind_some]; rw [A0 (ZA (hc x)),if_neg (by rw [hf x]; decide)]; cases fz <;> rfl
def UN (bl:List (Nat × Option aS)):List (Nat × Option aS)→Option β→Option β
 | [],x=>x
 | (i,_) :: l,x=>dG bl i fun b=>iU b (UN bl l x)
theorem KN (bl:List (Nat × Option aS)) (x:Option β):∀ (l:List (Nat × Option aS)),UN bl l x = if F1 (lk bl none) l = true then x else none
 | []=>rfl
 | (i,b) :: l=>by
  cases h:lk bl none i <;> simp [UN,F1,dG,iU,KN bl x l,h]
theorem sS {α:Type} {f:Nat} {ds:List D} {o:Option α} {y:α→D} {p:Nat × Nat} {es:List (Nat × Nat)} {r:α→List (List D)} {rs:α→List (List (List D))} (h:call T f ds = o.map fun x=>.own (y x) (p :: es) (r x :: rs x)) (fz:List (Nat × Option aS)) :
  fH T d bl f ds fz k kw = o.bind fun x=>UN bl (gN d 0 (p :: es) (r x :: rs x)) (kw (thaw d (y x)) (gN d 0 (p :: es) (r x :: rs x) ++ fz)):=by
 unfold fH
 rw [h]
 cases o with
 | none=>rfl
 | some x =>
  simp only [Option.map_some,Option.bind_some,oZ,KN]
  split
  ·obtain ⟨e,s⟩:=p; rfl
  ·rfl
def L1 (fr:List (Nat × V)) (bl:List (Nat × Option aS)):List dH→(List D→List (Nat × Option aS)→Option β)→Option β
 | [],k=>k [] []
 | x :: l,k=>dV fr x fun v=>d1K v bl fun y f=>L1 fr bl l fun ds g=>k (y :: ds) (f ++ g)
theorem aAf (k:List D→List (Nat × Option aS)→Option β):L1 fr bl [] k = k [] []:=rfl
theorem WG (x:dH) (l:List dH) (k:List D→List (Nat × Option aS)→Option β):L1 fr bl (x :: l) k = dV fr x fun v=>d1K v bl fun y f=>L1 fr bl l fun ds g=>k (y :: ds) (f ++ g):=rfl
theorem aCL (l:List dH) (k:List D→List (Nat × Option aS)→Option β):L1 fr bl l k = (bB (fun x=>mG (lk bl none) (cR (lk fr .any) x)) l).bind fun ds=>k ds (l.flatMap fun x=>DD (lk bl none) (cR (lk fr .any) x)):=by
 induction l generalizing k with
 | nil=>rfl
 | cons x l ih =>
  simp only [L1,dV,d1K,bB,ih,List.flatMap_cons]
  cases mG (lk bl none) (cR (lk fr .any) x) with
  | none=>rfl
  | some y=>cases bB (fun x=>mG (lk bl none) (cR (lk fr .any) x)) l <;> rfl
theorem aEl (f:Nat) (caps:List dH):uE T d (.mkfn f caps) fr bl k kw = L1 fr bl caps fun ds fz=>fzK fz (.d (.fn f ds)) k kw:=by
 rw [kU,aCL]
 simp only [eG]
 cases bB (fun x=>mG (lk bl none) (cR (lk fr .any) x)) caps with
 | none=>rfl
 | some ds =>
  simp only [Option.bind_some]
  cases caps.flatMap fun x=>DD (lk bl none) (cR (lk fr .any) x) <;> rfl
def I9 (fr:List (Nat × V)) (bl:List (Nat × Option aS)) (caps:List D):List dH→(List D→List (Nat × Option aS)→Option β)→Option β
 | [],k=>k caps []
 | x :: l,k=>dV fr x fun v=>yR v bl fun y f=>I9 fr bl caps l fun ds g=>k (y :: ds) (f ++ g)
theorem aAl (caps:List D) (k:List D→List (Nat × Option aS)→Option β):I9 fr bl caps [] k = k caps []:=rfl
theorem VN (caps:List D) (x:dH) (l:List dH) (k:List D→List (Nat × Option aS)→Option β):I9 fr bl caps (x :: l) k = dV fr x fun v=>yR v bl fun y f=>I9 fr bl caps l fun ds g=>k (y :: ds) (f ++ g):=rfl
theorem aEU (caps:List D) (l:List dH) (k:List D→List (Nat × Option aS)→Option β):I9 fr bl caps l k = (bB (fun x=>jD (lk bl none) (cR (lk fr .any) x)) l).bind fun ds=>k (ds ++ caps) (l.flatMap fun x=>sZ (lk bl none) (cR (lk fr .any) x)):=by
 induction l generalizing k with
 | nil=>rfl
 | cons x l ih =>
  simp only [I9,dV,yR,bB,ih,List.flatMap_cons]
  cases jD (lk bl none) (cR (lk fr .any) x) with
  | none=>rfl
  | some y=>cases bB (fun x=>jD (lk bl none) (cR (lk fr .any) x)) l <;> rfl
noncomputable def WO (T:vT) (d:Nat) (v:V) (args:List dH) (fr:List (Nat × V)) (bl:List (Nat × Option aS)) (k:V→Option β) (kw:V→List (Nat × Option aS)→Option β):Option β:=match v with
 | .d (.fn f caps)=>I9 fr bl caps args fun ds fz=>fH T d bl f ds fz k kw
 | _=>none
theorem aEy (f:Nat) (caps:List D) (args:List dH):WO T d (.d (.fn f caps)) args fr bl k kw = I9 fr bl caps args fun ds fz=>fH T d bl f ds fz k kw:=rfl
theorem aB2 (g:dH) (args:List dH):uE T d (.callv g args) fr bl k kw = dV fr g fun v=>WO T d v args fr bl k kw:=by
 rw [kU]
 unfold dV
 simp only [eG]
 generalize cR (lk fr .any) g = v
 cases v with
 | d x=>cases x with
  | fn f caps =>
   simp only [WO,aEU]
   cases bB (fun x=>jD (lk bl none) (cR (lk fr .any) x)) args with
   | none=>rfl
   | some ds =>
    simp only [Option.bind_some,fH]
    cases call T f (ds ++ caps) <;> rfl
  | _=>rfl
 | _=>rfl
def aJo (v:V) (i:Nat) (k:V→Option β):Option β:=match v with
 | .tup vs=>DL vs i k
 | _=>none
theorem UB (x:dH) (i:Nat):uE T d (.extract x i) fr bl k kw = dV fr x fun v=>aJo v i k:=by
 unfold uE dV
 simp only [eG]
 generalize cR (lk fr .any) x = v
 cases v with
 | tup vs=>simp only [aJo,MD]; cases vs[i]? <;> rfl
 | _=>rfl
theorem aJA (vs:List V) (i:Nat):aJo (.tup vs) i k = DL vs i k:=rfl
def I3 (m:yZ) (fr:List (Nat × V)) (bl:List (Nat × Option aS)) (k:List (Nat × V)→List (Nat × Option aS)→Option β):Option β:=k (m.app ⟨fr,bl⟩).fr (m.app ⟨fr,bl⟩).bl
theorem aHA {k:Ex→St→Option β} (m:yZ) (a:aT):dY T (.pre m a) ⟨fr,bl⟩ k = I3 m fr bl fun fr' bl'=>dY T a ⟨fr',bl'⟩ k:=by
 rw [aFL]; rfl
theorem aGi {k:Ex→St→Option β} (m:yZ):UG m k .normal ⟨fr,bl⟩ = I3 m fr bl fun fr' bl'=>k .normal ⟨fr',bl'⟩:=by
 rw [aG9]; rfl
def wH (keep:List Nat) (bl:List (Nat × Option aS)) (v:V) (k:V→Option β):Option β:=k (E8 keep (lk bl none) v)
def LW (keep:List Nat) (fr:List (Nat × V)) (bl:List (Nat × Option aS)):List Nat→(List (Nat × V)→Option β)→Option β
 | [],k=>k []
 | t :: r,k=>qK fr t fun v=>wH keep bl v fun v'=>LW keep fr bl r fun l=>k ((t,v') :: l)
theorem aCC (keep:List Nat) (l:List Nat):∀ (k:List (Nat × V)→Option β),LW keep fr bl l k = k (l.map fun t=>(t,E8 keep (lk bl none) (lk fr .any t))):=by
 induction l with
 | nil=>intro k; rfl
 | cons t l ih=>intro k; simp only [LW,qK,wH,ih,List.map_cons]
def BA (keep:List Nat) (bl:List (Nat × Option aS)) (b:Option aS) (k:Option aS→Option β):Option β:=k (b.bind (yJ keep (lk bl none)))
def MP (keep:List Nat) (bl:List (Nat × Option aS)):List Nat→(List (Nat × Option aS)→Option β)→Option β
 | [],k=>k []
 | i :: r,k=>dG bl i fun b=>BA keep bl b fun b'=>MP keep bl r fun l=>k ((i,b') :: l)
theorem aC5 (keep:List Nat) (l:List Nat):∀ (k:List (Nat × Option aS)→Option β),MP keep bl l k = k (l.map fun i=>(i,(lk bl none i).bind (yJ keep (lk bl none)))):=by
 induction l with
 | nil=>intro k; rfl
 | cons t l ih=>intro k; simp only [MP,dG,BA,ih,List.map_cons]
theorem aBt (keep:List Nat) (k:List (Nat × V)→Option β):LW keep fr bl [] k = k []:=rfl
theorem XI (keep:List Nat) (t:Nat) (r:List Nat) (k:List (Nat × V)→Option β):LW keep fr bl (t :: r) k = qK fr t fun v=>wH keep bl v fun v'=>LW keep fr bl r fun l=>k ((t,v') :: l):=rfl
theorem aBV (keep:List Nat) (k:List (Nat × Option aS)→Option β):MP keep bl [] k = k []:=rfl
theorem VE (keep:List Nat) (i:Nat) (r:List Nat) (k:List (Nat × Option aS)→Option β):MP keep bl (i :: r) k = dG bl i fun b=>BA keep bl b fun b'=>MP keep bl r fun l=>k ((i,b') :: l):=rfl
theorem aIo (live keep:List Nat) (k:List (Nat × V)→List (Nat × Option aS)→Option β):I3 ⟨live,keep,[],[],[],[]⟩ fr bl k = LW keep fr bl live fun fr'=>MP keep bl keep fun bl'=>k fr' bl':=by
 rw [aCC,aC5]; rfl
def kR (keep:List Nat) (i:Nat) (x y:Option β):Option β:=if keep.contains i = true then x else y
theorem N1 (i:Nat) (r:List Nat) (x y:Option β):kR (i :: r) i x y = x:=by simp [kR]
theorem K9 (a i:Nat) (r:List Nat) (x y:Option β) (h:(i == a) = false):kR (a :: r) i x y = kR r i x y:=by
 unfold kR
 rw [List.contains_cons,h,Bool.false_or]
section
variable (keep:List Nat)
theorem aIl (x:D):wH keep bl (.d x) k = k (.d x):=rfl
theorem ZR:wH keep bl .nil k = k .nil:=rfl
def QR (keep:List Nat) (id off:Nat) (b:Option aS) (k:V→Option β):Option β:=match b with
 | some (.box _)=>kR keep id (k (.ptr id off)) (k .any)
 | some (.fbox ds)=>k (.d (.ptr ds off))
 | _=>k .any
theorem XO (id off:Nat) (cs:List V):QR keep id off (some (.box cs)) k = kR keep id (k (.ptr id off)) (k .any):=rfl
theorem SR (id off:Nat) (ds:List D):QR keep id off (some (.fbox ds)) k = k (.d (.ptr ds off)):=rfl
theorem aAZ (id off:Nat):wH keep bl (.ptr id off) k = dG bl id fun b=>QR keep id off b k:=by
 unfold wH dG QR
 simp only [E8,N2,s9]
 generalize lk bl none id = b
 cases b with
 | none=>rfl
 | some b=>cases b with
  | box cs=>simp only [kR]; split <;> rfl
  | _=>rfl
def KX (id ver:Nat) (b:Option aS) (k:V→Option β):Option β:=match b with
 | some (.rows v _ _ _)=>if (ver == v) = true then kR keep id (k (.own id 0)) (k .any) else k .any
 | some (.froz v rows)=>if ver = v then k (.d (.sl rows)) else k .any
 | _=>k .any
theorem aAu (id ver:Nat):wH keep bl (.own id ver) k = dG bl id fun b=>KX keep id ver b k:=by
 unfold wH dG KX kR
 simp only [E8,N2,s9]
 generalize lk bl none id = b
 cases b with
 | none=>rfl
 | some b=>cases b with
  | rows v e s rows=>simp only; cases (ver == v) <;> cases keep.contains id <;> rfl
  | froz v rows=>simp only; split <;> rfl
  | _=>rfl
theorem SS (id v e s:Nat) (rows:List (List D)):KX keep id v (some (.rows v e s rows)) k = kR keep id (k (.own id 0)) (k .any):=by simp [KX]
theorem SG (id v:Nat) (rows:List (List D)):KX keep id v (some (.froz v rows)) k = k (.d (.sl rows)):=if_pos rfl
def xL (keep:List Nat) (bl:List (Nat × Option aS)):List V→(List V→Option β)→Option β
 | [],k=>k []
 | v :: cs,k=>k (s9 keep (lk bl none) v :: cs.map (s9 keep (lk bl none)))
theorem AA (cs:List V) (k:List V→Option β):xL keep bl cs k = k (cs.map (s9 keep (lk bl none))):=by cases cs <;> rfl
theorem XH (k:List V→Option β):xL keep bl [] k = k []:=rfl
theorem aEv (x:D) (cs:List V) (k:List V→Option β):xL keep bl (.d x :: cs) k = xL keep bl cs fun l=>k (.d x :: l):=by simp only [AA]; rfl
theorem aDk (cs:List V) (k:List V→Option β):xL keep bl (.nil :: cs) k = xL keep bl cs fun l=>k (.nil :: l):=by simp only [AA]; rfl
theorem XJ (id ver:Nat) (cs:List V) (k:List V→Option β):xL keep bl (.own id ver :: cs) k = wH keep bl (.own id ver) fun v=>xL keep bl cs fun l=>k (v :: l):=by simp only [AA]; rfl
theorem Q5 (ds:List D) (b:Nat→Option aS):(bQ ds).map (s9 keep b) = bQ ds:=by
 induction ds with
 | nil=>rfl
 | cons x ds ih=>show s9 keep b (.d x) :: (bQ ds).map (s9 keep b) = _; rw [ih]; rfl
theorem UK (k:Option aS→Option β):BA keep bl none k = k none:=rfl
theorem VG (c:V) (cs:List V) (k:Option aS→Option β):BA keep bl (some (.box (c :: cs))) k = xL keep bl (c :: cs) fun l=>k (some (.box l)):=by rw [AA]; rfl
theorem ND (ds:List D) (k:Option aS→Option β):BA keep bl (some (.box (bQ ds))) k = k (some (.box (bQ ds))):=by
 show k (some (.box ((bQ ds).map (s9 keep (lk bl none))))) = _
 rw [Q5]
theorem UI (v e s:Nat) (rows:List (List D)) (k:Option aS→Option β):BA keep bl (some (.rows v e s rows)) k = k (some (.rows 0 e s rows)):=rfl
end
def aKT (res:List nG):Ex→St→Option D
 | .normal,s=>match bB (rN s) res with
  | none=>none
  | some [v]=>jD s.blk v
  | some vs=>toD s.blk (.tup vs)
 | .ret,s=>match bB (rN s) res with
  | none=>none
  | some [v]=>jD s.blk v
  | some vs=>toD s.blk (.tup vs)
 | .exit _,_=>none
def FK (fr:List (Nat × V)) (bl:List (Nat × Option aS)):List nG→(List D→Option D)→Option D
 | [],k=>k []
 | .tmp t :: r,k=>qK fr t fun v=>yR v bl fun x _=>FK fr bl r fun l=>k (x :: l)
 | .cell t size isAgg :: r,k=>qK fr t fun p=>xA size isAgg p bl fun v=>yR v bl fun x _=>FK fr bl r fun l=>k (x :: l)
def JS:List D→Option D
 | [x]=>some x
 | l=>some (.tup l)
theorem MJ (size:Nat) (a:Bool) (p:V):xA size a p bl k = (GB size a p (lk bl none)).bind fun r=>k r.1:=by
 have h:=SL (T:=fun _=>none) (d:=0) (fr:=[]) (bl:=bl) (k:=k) (kw:=fun v _=>k v) size a (.c p)
 have e:dV [] (.c p) (fun v=>xA size a v bl k) = xA size a p bl k:=rfl
 rw [← e,← h,kU,C5]
 show AR (GB size a p (lk bl none)) k (fun v _=>k v) = _
 cases GB size a p (lk bl none) with
 | none=>rfl
 | some r=>obtain ⟨v,wr⟩:=r; cases wr <;> rfl
theorem FX (fr:List (Nat × V)) (bl:List (Nat × Option aS)):St.blk ⟨fr,bl⟩ = lk bl none:=rfl
theorem aH3 (res:List nG):∀ (k:List D→Option D),FK fr bl res k = (bB (rN ⟨fr,bl⟩) res).bind fun vs=>(bB (jD (lk bl none)) vs).bind k:=by
 induction res with
 | nil=>intro k; rfl
 | cons r res ih =>
  intro k
  cases r with
  | tmp t =>
   simp only [FK,qK,yR,ih,bB,rN,FP,FX]
   cases h1:bB (rN ⟨fr,bl⟩) res with
   | none =>
    simp only [Option.bind_none]
    cases jD (lk bl none) (lk fr .any t) <;> rfl
   | some vs =>
    simp only [Option.bind_some,bB]
    cases jD (lk bl none) (lk fr .any t) with
    | none=>rfl
    | some x=>cases bB (jD (lk bl none)) vs <;> rfl
  | cell t size isAgg =>
   simp only [FK,qK,MJ,yR,ih,bB,rN,C5,FP,FX]
   cases GB size isAgg (lk fr .any t) (lk bl none) with
   | none=>rfl
   | some q =>
    obtain ⟨v,wr⟩:=q
    simp only [Option.bind_some]
    cases h1:bB (rN ⟨fr,bl⟩) res with
    | none =>
     simp only [Option.bind_none]
     cases jD (lk bl none) v <;> rfl
    | some vs =>
     simp only [Option.bind_some,bB]
     cases jD (lk bl none) v with
     | none=>rfl
     | some x=>cases bB (jD (lk bl none)) vs <;> rfl
theorem ZH (res:List nG):(match bB (rN ⟨fr,bl⟩) res with
  | none=>none
  | some [v]=>jD (lk bl none) v
  | some vs=>toD (lk bl none) (.tup vs)) = FK fr bl res JS:=by
 rw [aH3]
 cases bB (rN ⟨fr,bl⟩) res with
 | none=>rfl
 | some vs =>
  simp only [Option.bind_some]
  cases vs with
  | nil=>rfl
  | cons v vs =>
   cases vs with
   | nil =>
    simp only [bB]
    cases jD (lk bl none) v <;> rfl
   | cons w ws =>
    show (bB (jD (lk bl none)) (v :: w :: ws)).map D.tup = _
    simp only [bB]
    cases jD (lk bl none) v with
    | none=>rfl
    | some x=>cases jD (lk bl none) w with
     | none=>rfl
     | some y=>cases bB (jD (lk bl none)) ws <;> rfl
theorem aJs (res:List nG):aKT res .ret ⟨fr,bl⟩ = FK fr bl res JS:=ZH res
theorem aEs (k:List D→Option D):FK fr bl [] k = k []:=rfl
theorem aEE (t:Nat) (r:List nG) (k:List D→Option D):FK fr bl (.tmp t :: r) k = qK fr t fun v=>yR v bl fun x _=>FK fr bl r fun l=>k (x :: l):=rfl
theorem aBy (t size:Nat) (isAgg:Bool) (r:List nG) (k:List D→Option D):FK fr bl (.cell t size isAgg :: r) k = qK fr t fun p=>xA size isAgg p bl fun v=>yR v bl fun x _=>FK fr bl r fun l=>k (x :: l):=rfl
theorem aFT (x:D):JS [x] = some x:=rfl
theorem aHN (x y:D) (l:List D):JS (x :: y :: l) = some (.tup (x :: y :: l)):=rfl
theorem dO {T:vT} {f np nt:Nat} {res:List nG} {body:aT} (hf:T f = some (.code ⟨np,nt,res,body,false,false⟩)) (ds:List D) (hl:ds.length = np) (hlt:iF 0 ds = none):Vm.call T f ds = dY T body ⟨oP 0 ds,[]⟩ (aKT res):=by
 rw [UX hf ds hl hlt]
 unfold dY
 cases Vm.ev T body ⟨oP 0 ds,[]⟩ with
 | none=>rfl
 | some q =>
  obtain ⟨e,s⟩:=q
  cases e <;> rfl
def YU:List V→V
 | [v]=>v
 | vs=>.tup vs
def NV (fr:List (Nat × V)) (bl:List (Nat × Option aS)):List nG→(List V→Option D)→Option D
 | [],k=>k []
 | .tmp t :: r,k=>qK fr t fun v=>NV fr bl r fun l=>k (v :: l)
 | .cell t size isAgg :: r,k=>qK fr t fun p=>xA size isAgg p bl fun v=>NV fr bl r fun l=>k (v :: l)
theorem aFQ (res:List nG):∀ (k:List V→Option D),NV fr bl res k = (bB (rN ⟨fr,bl⟩) res).bind k:=by
 induction res with
 | nil=>intro k; rfl
 | cons r res ih =>
  intro k
  cases r with
  | tmp t =>
   simp only [NV,qK,ih,bB,rN,FP]
   cases bB (rN ⟨fr,bl⟩) res <;> rfl
  | cell t size isAgg =>
   simp only [NV,qK,MJ,ih,bB,rN,C5,FP,FX]
   cases GB size isAgg (lk fr .any t) (lk bl none) with
   | none=>rfl
   | some q =>
    obtain ⟨v,wr⟩:=q
    simp only [Option.bind_some]
    cases bB (rN ⟨fr,bl⟩) res <;> rfl
def aK8 (res:List nG):Ex→St→Option D
 | .normal,s=>match bB (rN s) res with
  | none=>none
  | some [v]=>s8 s.blk v
  | some vs=>s8 s.blk (.tup vs)
 | .ret,s=>match bB (rN s) res with
  | none=>none
  | some [v]=>s8 s.blk v
  | some vs=>s8 s.blk (.tup vs)
 | .exit _,_=>none
theorem aHe (res:List nG):(match bB (rN ⟨fr,bl⟩) res with
  | none=>none
  | some [v]=>s8 (lk bl none) v
  | some vs=>s8 (lk bl none) (.tup vs)) = NV fr bl res fun vs=>s8 (lk bl none) (YU vs):=by
 rw [aFQ]
 cases bB (rN ⟨fr,bl⟩) res with
 | none=>rfl
 | some vs =>
  cases vs with
  | nil=>rfl
  | cons v vs=>cases vs <;> rfl
theorem aJE (res:List nG):aK8 res .ret ⟨fr,bl⟩ = NV fr bl res fun vs=>s8 (lk bl none) (YU vs):=aHe res
theorem aC8 (k:List V→Option D):NV fr bl [] k = k []:=rfl
theorem aEq (t:Nat) (r:List nG) (k:List V→Option D):NV fr bl (.tmp t :: r) k = qK fr t fun v=>NV fr bl r fun l=>k (v :: l):=rfl
theorem aGe (x:V):YU [x] = x:=rfl
theorem aHn (x y:V) (l:List V):YU (x :: y :: l) = .tup (x :: y :: l):=rfl
theorem GJ {T:vT} {f np nt:Nat} {res:List nG} {body:aT} (hf:T f = some (.code ⟨np,nt,res,body,true,false⟩)) (ds:List D) (hl:ds.length = np) (hlt:iF 0 ds = none):Vm.call T f ds = dY T body ⟨oP 0 ds,[]⟩ (aK8 res):=by
 rw [UX hf ds hl hlt]
 unfold dY
 cases Vm.ev T body ⟨oP 0 ds,[]⟩ with
 | none=>rfl
 | some q =>
  obtain ⟨e,s⟩:=q
  cases e <;> rfl
def aEb (v:V) (b:Option aS) (x y:Option β):Option β:=match v,b with
 | .nil,none=>x
 | _,_=>y
theorem aJ9 (x y:Option β):aEb .nil none x y = x:=rfl
theorem aCp (i v:Nat) (b:Option aS) (x y:Option β):aEb (.own i v) b x y = y:=rfl
theorem aIc (live keep:List Nat) (t i e s:Nat) (l:List (Nat × Nat × Nat × Nat)) (c:List (Nat × Nat × Nat × Nat × Nat)) (ft:List Nat) (fc:List (Nat × Nat)) (k:List (Nat × V)→List (Nat × Option aS)→Option β) (hs:0 < s) :
  I3 ⟨live,keep,(t,i,e,s) :: l,c,ft,fc⟩ fr bl k = qK fr t fun v=>dG bl i fun b=>aEb v b (PN e [] fun rows=>I3 ⟨live,keep,l,c,ft,fc⟩ ((t,.own i 0) :: fr) ((i,some (.rows 0 e s rows)) :: bl) k) (I3 ⟨live,keep,l,c,ft,fc⟩ fr bl k):=by
 show I3 ⟨live,keep,(t,i,e,s) :: l,c,ft,fc⟩ fr bl k = aEb (lk fr .any t) (lk bl none i) _ _
 unfold I3
 rw [aLw]
 unfold mkT PN
 show k (yZ.app ⟨live,keep,l,c,ft,fc⟩ (match lk fr .any t,lk bl none i with | .nil,none=>if 0 < s then _ else _ | _,_=>_)).fr (yZ.app ⟨live,keep,l,c,ft,fc⟩ (match lk fr .any t,lk bl none i with | .nil,none=>if 0 < s then _ else _ | _,_=>_)).bl = _
 generalize lk fr .any t = v
 generalize lk bl none i = b
 cases v with
 | nil=>cases b with
  | none=>simp only [aEb,if_pos hs]
  | some b=>rfl
 | _=>rfl
theorem X2 (k:List (Nat × Nat × V)→Option β):FG fr [] k = k []:=rfl
theorem RK (o s:Nat) (x:dH) (l:List (Nat × Nat × dH)) (k:List (Nat × Nat × V)→Option β):FG fr ((o,s,x) :: l) k = dV fr x fun v=>FG fr l fun vs=>k ((o,s,v) :: vs):=rfl
theorem aAh (l:List (Nat × Nat × dH)):∀ (k:List (Nat × Nat × V)→Option β),FG fr l k = k (l.map fun p=>(p.1,p.2.1,cR (lk fr .any) p.2.2)):=by
 induction l with
 | nil=>intro k; rfl
 | cons p l ih=>intro k; obtain ⟨o,s,x⟩:=p; simp only [FG,dV,ih,List.map_cons]
def KR (z:List V):List (Nat × Nat × V)→(List V→Option β)→Option β
 | [],k=>k z
 | (off,size,v) :: r,k=>B4 v fun cs=>GC cs size (uU z off cs fun z'=>KR z' r k)
theorem aBk (z:List V) (k:List V→Option β):KR z [] k = k z:=rfl
theorem W1 (z:List V) (off size:Nat) (v:V) (r:List (Nat × Nat × V)) (k:List V→Option β):KR z ((off,size,v) :: r) k = B4 v fun cs=>GC cs size (uU z off cs fun z'=>KR z' r k):=rfl
theorem aDr (ps:List (Nat × Nat × V)):∀ (z:List V) (k:List V→Option β),KR z ps k = (DV z ps).bind k:=by
 induction ps with
 | nil=>intro z k; rfl
 | cons p r ih =>
  intro z k
  obtain ⟨off,size,v⟩:=p
  simp only [KR,DV,B4,GC,uU,ih]
  by_cases h1:v.known = true
  ·by_cases h2:v.cells.length = size
   ·subst h2
    by_cases h3:off + v.cells.length ≤ z.length
    ·rw [if_pos h1,if_pos rfl,if_pos h3,if_pos ⟨rfl,h3,h1⟩]
    ·rw [if_pos h1,if_pos rfl,if_neg h3,if_neg (fun q=>h3 q.2.1)]; rfl
   ·rw [if_pos h1,if_neg h2,if_neg (fun q=>h2 q.1)]; rfl
  ·rw [if_neg h1,if_neg (fun q=>h1 q.2.2)]; rfl
theorem ZN (z:List V) (parts:List (Nat × Nat × dH)):uE T d (.build z parts) fr bl k kw = FG fr parts fun ps=>KR z ps fun cs=>k (.agg cs):=by
 rw [kU,aAh,aDr]
 simp only [eG]
 have e1:(parts.map fun x=>match x with | (o,s,x)=>(o,s,cR (lk fr .any) x)) = parts.map fun p=>(p.1,p.2.1,cR (lk fr .any) p.2.2):=rfl
 rw [e1]
 cases DV z (parts.map fun p=>(p.1,p.2.1,cR (lk fr .any) p.2.2)) <;> rfl
theorem aH (ds:List D):(bQ ds).length = ds.length:=by simp [bQ]
def aFJ (bytes:Nat) (a b:V) (x:Nat→Option β):Option β:=match a,b with
 | .d (.int _ n),.d (.int _ m)=>if 0 ≤ n ∧ n ≤ m ∧ (bytes:Int) * m ≤ 281474976710656 ∧ m ≤ 9223372036854775807 then x n.toNat else none
 | _,_=>none
theorem aJg (bytes:Nat) (i j:IntKind) (n m:Int) (x:Nat→Option β):aFJ bytes (.d (.int i n)) (.d (.int j m)) x = if 0 ≤ n ∧ n ≤ m ∧ (bytes:Int) * m ≤ 281474976710656 ∧ m ≤ 9223372036854775807 then x n.toNat else none:=rfl
theorem aIx {α:Type} (e size bytes:Nat) (z:List D) (c:α→List D) (x:α) (hz:z = c x) (l cp:dH):uE T d (.makeSlice e size bytes z l cp) fr bl k kw = dG bl d fun b=>iU b (dV fr l fun a=>dV fr cp fun b=>aFJ bytes a b fun n=>kw (.own d 0) [(d,some (.rows 0 e size (cM c (List.replicate n x))))]):=NC e size bytes z c x hz l cp
theorem aCs {k:Ex→St→Option β} (c:dH) (a b:aT):dY T (.cond c a b) ⟨fr,bl⟩ k = dV fr c fun v=>SF v (dY T a ⟨fr,bl⟩ k) (dY T b ⟨fr,bl⟩ k):=aFi c a b _
theorem aIk (a b c:List (Nat × Option aS)) (t:Nat) (k:Option aS→Option β):dG ((a ++ b) ++ c) t k = dG (a ++ (b ++ c)) t k:=by rw [List.append_assoc]
def ZE (rows:List (List D)) (k:V→Option β):Option β:=k (.d (.int .i64 rows.length))
theorem aHD {α:Type} (c:α→List D) (xs:List α):ZE (cM c xs) k = k (.d (.int .i64 (xs.length:Int))):=by unfold ZE; rw [aL]
theorem aFP:ZE [] k = k (.d (.int .i64 0)):=rfl
theorem aHR (x:dH):uE T d (.len x) fr bl k kw = dV fr x fun a=>E7 a bl fun rows=>ZE rows k:=aGg x
end
end Vm
end Go.Proofs.Ytiimibimkpimbaa
set_option linter.unusedVariables false
set_option linter.unusedSimpArgs false
namespace Go.Proofs.Ytiimibimkpimbaa
namespace Vm
open Go.RowKit
section
variable {β:Type} {T:vT}
def HU (d:Nat) (op:jC) (fr:List (Nat × V)) (bl:List (Nat × Option aS)) (k:List Nat→Option β):Option β :=
 k ((if op.new = true then [d] else []) ++ ((op.peeks.flatMap fun x=>(cR (lk fr .any) x).ids) ++ op.deeps.flatMap fun x=>(cR (lk fr .any) x).dids (lk bl none)))
def GU (wr:List (Nat × Option aS)) (k:List Nat→Option β):Option β:=k (wr.map (·.1))
theorem aBP (k:List Nat→Option β):GU [] k = k []:=rfl
theorem aFG (i:Nat) (b:Option aS) (w:List (Nat × Option aS)) (k:List Nat→Option β):GU ((i,b) :: w) k = GU w fun l=>k (i :: l):=rfl
theorem aDG (w:List (Nat × Option aS)) (k:List Nat→Option β):GU ([] ++ w) k = GU w k:=rfl
theorem aD0 (p:Nat × Option aS) (v w:List (Nat × Option aS)) (k:List Nat→Option β):GU ((p :: v) ++ w) k = GU (p :: (v ++ w)) k:=rfl
theorem V3 (d st:Nat) (op:jC) (l:List bL) (fr:List (Nat × V)) (bl:List (Nat × Option aS)) (fp:List Fp) (k:St→List Fp→Option β) :
  nF T (⟨some d,op,none,st⟩ :: l) ⟨fr,bl⟩ fp k = uE T st op fr bl (fun v=>HU st op fr bl fun f=>nF T l ⟨(d,v) :: fr,bl⟩ ((f,[]) :: fp) k) (fun v wr=>GU wr fun ws=>HU st op fr bl fun f=>nF T l ⟨(d,v) :: fr,wr ++ bl⟩ ((f,ws) :: fp) k):=by
 rw [MH]
 unfold uE F8 HU
 show (match eG (call T) st (cR (lk fr .any)) (lk bl none) op with | some (v,wr)=>_ | none=>none) = _
 cases eG (call T) st (cR (lk fr .any)) (lk bl none) op with
 | none=>rfl
 | some r=>obtain ⟨v,wr⟩:=r; cases wr <;> rfl
theorem S6 (st:Nat) (op:jC) (l:List bL) (fr:List (Nat × V)) (bl:List (Nat × Option aS)) (fp:List Fp) (k:St→List Fp→Option β) :
  nF T (⟨none,op,none,st⟩ :: l) ⟨fr,bl⟩ fp k = uE T st op fr bl (fun _=>HU st op fr bl fun f=>nF T l ⟨fr,bl⟩ ((f,[]) :: fp) k) (fun _ wr=>GU wr fun ws=>HU st op fr bl fun f=>nF T l ⟨fr,wr ++ bl⟩ ((f,ws) :: fp) k):=by
 rw [MH]
 unfold uE F8 HU
 show (match eG (call T) st (cR (lk fr .any)) (lk bl none) op with | some (v,wr)=>_ | none=>none) = _
 cases eG (call T) st (cR (lk fr .any)) (lk bl none) op with
 | none=>rfl
 | some r=>obtain ⟨v,wr⟩:=r; cases wr <;> rfl
theorem aA1 (fr:List (Nat × V)) (bl:List (Nat × Option aS)) (fp:List Fp) (k:St→List Fp→Option β):nF T [] ⟨fr,bl⟩ fp k = k ⟨fr,bl⟩ fp:=rfl
theorem aGH {l:List bL} {ps:List (Nat × Nat)} {s:St} {fp:List Fp} (k:St→Option β) (h:GL l fp.reverse ps = true):aFX l ps k s fp = k s:=if_pos h
theorem zR {d:Option Nat} {st:Nat} {g g' : Option (Nat × Bool)} {fr:Nat→V} {bl:Nat→Option aS} {wr:List (Nat × Option aS)} (t:Nat) (b:Bool) (op:jC):uV ⟨d,b7 t b op,g,st⟩ fr bl wr = uV ⟨d,op,g',st⟩ fr bl wr:=by
 cases op with
 | pick c x y =>
  cases c with
  | t t' =>
   simp only [b7]
   split <;> rfl
  | c v=>rfl
 | _=>rfl
theorem XN {C:Nat→List D→Option D} {s:St} {t:Nat} {b:Bool} (h:s.get t = .d (.bool b)) (o:bL):jU C (bZ t b o) s = jU C o s:=by
 obtain ⟨d,op,g,st⟩:=o
 cases g with
 | some g =>
  obtain ⟨t',w⟩:=g
  simp only [bZ]
  split
  ·rename_i e
   subst e
   split
   ·rename_i e
    subst e
    simp only [jU,bL.wants,h,wY h]
    cases w <;> simp only [u9] <;> cases eG C st (cR s.get) s.blk op <;> first | rfl | (simp [zR (g':=some (t',false)),zR (g':=some (t',true))]; done) | (simp [zR (g':=some (t',false)),zR (g':=some (t',true))]; rfl)
   ·rename_i e
    simp only [jU,bL.wants,h,eG,cR]
    cases w <;> cases b <;> simp_all [u9,uV,jC.new,jC.peeks,jC.deeps]
  ·simp only [jU,bL.wants,wY h]
   cases u9 (s.get t') w <;> simp only [] <;> cases eG C st (cR s.get) s.blk op <;> simp [zR (g':=some (t',w))]
 | none =>
  simp only [bZ,jU,bL.wants,wY h]
  cases eG C st (cR s.get) s.blk op <;> simp [zR (g':=none)]
theorem W2 {C:Nat→List D→Option D} {o:bL} {s s' : St} {p:Fp} {t:Nat} (h:¬ o.dst = some t) (e:jU C o s = some (s',p)):s'.get t = s.get t:=by
 unfold jU at e
 split at e
 ·split at e
  ·cases e; exact BG h
  ·cases e
 ·cases e; exact BG h
 ·cases e
theorem FI {t:Nat} {b:Bool}:∀ (l:List bL) {s:St} (fp:List Fp) (k:St→List Fp→Option β) (h:s.get t = .d (.bool b)),nF T (bW t b l) s fp k = nF T l s fp k
 | [],s,fp,k,h=>rfl
 | o :: l,s,fp,k,h=>by
  simp only [bW,nF,XN h]
  cases e:jU (call T) o s with
  | none=>rfl
  | some q =>
   obtain ⟨s',p⟩:=q
   simp only
   split
   ·rfl
   ·rename_i hd
    exact FI l _ k (by rw [W2 hd e]; exact h)
noncomputable def ED (T:vT) (v:V) (t:Nat) (l:List bL) (s:St) (fp:List Fp) (k:St→List Fp→Option β):Option β:=match v with
 | .d (.bool b)=>if b = true then nF T (bW t true l) s fp k else nF T (bW t false l) s fp k
 | .tup []=>match l with
  | o :: r=>nF T r (s.put o.dst (.tup []) []) (([],[]) :: fp) k
  | []=>none
 | _=>none
theorem UF (d:Option Nat) (op:jC) (t:Nat) (w:Bool) (st:Nat) (l:List bL) (fr:List (Nat × V)) (bl:List (Nat × Option aS)) (fp:List Fp) (k:St→List Fp→Option β) :
  nF T (⟨d,op,some (t,w),st⟩ :: l) ⟨fr,bl⟩ fp k = qK fr t fun v=>ED T v t (⟨d,op,some (t,w),st⟩ :: l) ⟨fr,bl⟩ fp k:=by
 show _ = ED T (lk fr .any t) t _ _ fp k
 generalize hv:lk fr .any t = v
 have bad:∀ (q:u9 v w = .bad),nF T (⟨d,op,some (t,w),st⟩ :: l) ⟨fr,bl⟩ fp k = none:=by
  intro q
  simp only [nF,jU,bL.wants]
  rw [show (St.get ⟨fr,bl⟩ t) = v from hv,q]
 cases v with
 | d x =>
  cases x with
  | bool b =>
   simp only [ED]
   cases b with
   | true=>rw [if_pos rfl,FI (t:=t) (b:=true) (s:=⟨fr,bl⟩) _ _ _ hv]
   | false=>rw [if_neg (by decide),FI (t:=t) (b:=false) (s:=⟨fr,bl⟩) _ _ _ hv]
  | _=>exact bad rfl
 | tup vs =>
  cases vs with
  | nil =>
   simp only [ED,nF,jU,bL.wants]
   rw [show (St.get ⟨fr,bl⟩ t) = _ from hv]
   rfl
  | cons x l=>exact bad rfl
 | _=>exact bad rfl
theorem aAP (b:Bool) (t:Nat) (l:List bL) (s:St) (fp:List Fp) (k:St→List Fp→Option β):ED T (.d (.bool b)) t l s fp k = if b = true then nF T (bW t true l) s fp k else nF T (bW t false l) s fp k:=rfl
theorem aBh (t d st:Nat) (op:jC) (g:Option (Nat × Bool)) (l:List bL) (fr:List (Nat × V)) (bl:List (Nat × Option aS)) (fp:List Fp) (k:St→List Fp→Option β):ED T (.tup []) t (⟨some d,op,g,st⟩ :: l) ⟨fr,bl⟩ fp k = nF T l ⟨(d,.tup []) :: fr,bl⟩ (([],[]) :: fp) k:=rfl
theorem yA {l l' : List bL} {s:St} {fp:List Fp} {k:St→List Fp→Option β} (h:l = l'):nF T l s fp k = nF T l' s fp k:=by rw [h]
theorem aGu (x:D) (ds:List D) (k:D→Option β):iC (x :: ds) 0 k = k x:=rfl
section
variable {d:Nat} {fr:List (Nat × V)} {bl:List (Nat × Option aS)} {k:List Nat→Option β}
def DI (v:V) (k:List Nat→Option β):Option β:=k v.ids
theorem aJv (x:D):DI (.d x) k = k []:=rfl
theorem aEQ (i o:Nat):DI (.ptr i o) k = k [i]:=rfl
theorem aD5 (i o:Nat):DI (.own i o) k = k [i]:=rfl
theorem aAs (i v j o:Nat):DI (.orow i v j o) k = k [i]:=rfl
def MZ (bl:List (Nat × Option aS)):List V→(List Nat→Option β)→Option β
 | [],k=>k []
 | c :: cs,k=>k (c.dids1 (lk bl none) ++ cs.flatMap (V.dids1 (lk bl none)))
def D4 (bl:List (Nat × Option aS)) (v:V) (k:List Nat→Option β):Option β:=k (v.dids (lk bl none))
theorem OP (cs:List V):MZ bl cs k = k (cs.flatMap (V.dids1 (lk bl none))):=by cases cs <;> rfl
theorem X7:MZ bl [] k = k []:=rfl
theorem aD3 (x:D) (cs:List V):MZ bl (.d x :: cs) k = MZ bl cs k:=by simp only [OP]; rfl
theorem aF7 (x:D):D4 bl (.d x) k = k []:=rfl
theorem aB0 (i o:Nat):D4 bl (.own i o) k = k [i]:=rfl
theorem aBg (cs:List V):D4 bl (.agg cs) k = MZ bl cs k:=by rw [OP]; rfl
theorem TU (ds:List D):(bQ ds).flatMap (V.dids1 (lk bl none)) = []:=by
 induction ds with
 | nil=>rfl
 | cons x ds ih=>exact ih
theorem U6 (ds:List D):D4 bl (oK ds) k = k []:=by
 show k ((bQ ds).flatMap (V.dids1 (lk bl none))) = _
 rw [TU]
theorem aCX (x:dH):HU d (.move x) fr bl k = k []:=rfl
theorem aBf (z:List V):HU d (.alloc z) fr bl k = k [d]:=rfl
theorem aAd (z:List V) (ps:List (Nat × Nat × dH)):HU d (.build z ps) fr bl k = k []:=rfl
theorem fp1 (l:List Nat):([]:List Nat) ++ ((l ++ []) ++ []) = l:=by simp
theorem aCI (s:Nat) (a:Bool) (x:dH):HU d (.load s a x) fr bl k = dV fr x fun v=>DI v k:=by
 show k ([] ++ (((cR (lk fr .any) x).ids ++ []) ++ [])) = _
 rw [fp1]; rfl
theorem PU (x:dH):HU d (.nilCheck x) fr bl k = dV fr x fun v=>DI v k:=by
 show k ([] ++ (((cR (lk fr .any) x).ids ++ []) ++ [])) = _
 rw [fp1]; rfl
theorem NT (o:Nat) (x:dH):HU d (.fieldAddr o x) fr bl k = dV fr x fun v=>DI v k:=by
 show k ([] ++ (((cR (lk fr .any) x).ids ++ []) ++ [])) = _
 rw [fp1]; rfl
theorem aBT (s:Nat) (x:dH) (lo hi:Option dH):HU d (.slice s x lo hi) fr bl k = dV fr x fun v=>DI v k:=by
 show k ([] ++ (((cR (lk fr .any) x).ids ++ []) ++ [])) = _
 rw [fp1]; rfl
theorem NG (s:Nat) (x i:dH):HU d (.indexAddr s x i) fr bl k = dV fr x fun v=>DI v k:=by
 show k ([] ++ (((cR (lk fr .any) x).ids ++ []) ++ [])) = _
 rw [fp1]; rfl
theorem aBD (s:Nat) (x v:dH):HU d (.store s x v) fr bl k = dV fr x fun a=>DI a fun l=>dV fr v fun b=>D4 bl b fun m=>k (l ++ m):=by
 show k ([] ++ (((cR (lk fr .any) x).ids ++ []) ++ ((cR (lk fr .any) v).dids (lk bl none) ++ []))) = _
 rw [List.nil_append,List.append_nil,List.append_nil]; rfl
theorem VV (e s b:Nat) (x y:dH):HU d (.append e s b x y) fr bl k = dV fr x fun u=>DI u fun l=>dV fr y fun v=>DI v fun m=>k (d :: (l ++ m)):=by
 show k ([d] ++ (((cR (lk fr .any) x).ids ++ ((cR (lk fr .any) y).ids ++ [])) ++ [])) = _
 rw [List.append_nil,List.append_nil]; rfl
def CW (fr:List (Nat × V)) (bl:List (Nat × Option aS)):List dH→(List Nat→Option β)→Option β
 | [],k=>k []
 | x :: l,k=>dV fr x fun v=>D4 bl v fun m=>CW fr bl l fun n=>k (m ++ n)
theorem OO (l:List dH):∀ (k:List Nat→Option β),CW fr bl l k = k (l.flatMap fun x=>(cR (lk fr .any) x).dids (lk bl none)):=by
 induction l with
 | nil=>intro k; rfl
 | cons x l ih=>intro k; simp only [CW,dV,D4,ih,List.flatMap_cons]
theorem W6 (k:List Nat→Option β):CW fr bl [] k = k []:=rfl
theorem UU (x:dH) (l:List dH) (k:List Nat→Option β):CW fr bl (x :: l) k = dV fr x fun v=>D4 bl v fun m=>CW fr bl l fun n=>k (m ++ n):=rfl
theorem aCE (f:Nat) (args:List dH):HU d (.call f args) fr bl k = CW fr bl args k:=by
 rw [OO]; rfl
theorem aBo (g:dH) (args:List dH):HU d (.callv g args) fr bl k = CW fr bl args k:=by
 rw [OO]; rfl
def FZ (fr:List (Nat × V)) (bl:List (Nat × Option aS)):List (Nat × dH)→(List Nat→Option β)→Option β
 | [],k=>k []
 | (_,x) :: l,k=>dV fr x fun v=>D4 bl v fun m=>FZ fr bl l fun n=>k (m ++ n)
theorem aBX (l:List (Nat × dH)):∀ (k:List Nat→Option β),FZ fr bl l k = k ((l.map fun p=>p.2).flatMap fun x=>(cR (lk fr .any) x).dids (lk bl none)):=by
 induction l with
 | nil=>intro k; rfl
 | cons x l ih=>intro k; obtain ⟨i,x⟩:=x; simp only [FZ,dV,D4,ih,List.map_cons,List.flatMap_cons]
theorem VY (k:List Nat→Option β):FZ fr bl [] k = k []:=rfl
theorem TZ (i:Nat) (x:dH) (l:List (Nat × dH)) (k:List Nat→Option β):FZ fr bl ((i,x) :: l) k = dV fr x fun v=>D4 bl v fun m=>FZ fr bl l fun n=>k (m ++ n):=rfl
theorem LE (e s n:Nat) (z:List D) (ps:List (Nat × dH)):HU d (.buildSlice e s z n ps) fr bl k = FZ fr bl ps fun l=>k (d :: l):=by
 rw [aBX]; rfl
theorem aGn (c:Nat) (op:BinOp) (x y:dH):HU d (.bin c op x y) fr bl k = k []:=rfl
theorem aF1 (ks:List Nat) (n:Bool) (x y:dH):HU d (.eqS ks n x y) fr bl k = k []:=rfl
theorem aJJ (op:UnOp) (x:dH):HU d (.un op x) fr bl k = k []:=rfl
theorem UW (x:dH) (i:Nat):HU d (.extract x i) fr bl k = k []:=rfl
theorem aCt {k:Ex→St→Option β} (l:List bL) (ps:List (Nat × Nat)):dY T (.region l (some ps)) ⟨fr,bl⟩ k = nF T l ⟨fr,bl⟩ [] (aFX l ps (k .normal)):=by
 rw [aDe,aHP]
end
section
variable {d:Nat} {fr:List (Nat × V)} {bl:List (Nat × Option aS)} {k:V→Option β} {kw:V→List (Nat × Option aS)→Option β}
def fzN (id:Nat) (f:List (Nat × Option aS)) (x:Option β):Option β:=if xF id f = true then x else none
theorem N6 (id:Nat) (b:List (Nat × Option aS)):∀ a:List (Nat × Option aS),xF id (a ++ b) = if xF id a = true then xF id b else false
 | []=>rfl
 | (i,x) :: a=>by
  simp only [List.cons_append,xF]
  by_cases h:i = id
  ·simp [h]
  ·simp only [if_neg h]; exact N6 id b a
theorem aH8 (id:Nat) (x:Option β):fzN id [] x = x:=rfl
theorem aLf (id i:Nat) (b:Option aS) (w:List (Nat × Option aS)) (x:Option β) (h:(i == id) = false):fzN id ((i,b) :: w) x = fzN id w x:=by
 have h:¬ i = id:=by simpa using h
 simp only [fzN,xF,if_neg h]
theorem aHS (id:Nat) (a b:List (Nat × Option aS)) (x:Option β):fzN id (a ++ b) x = fzN id a (fzN id b x):=by
 unfold fzN
 rw [N6]
 by_cases h:xF id a = true
 ·rw [if_pos h,if_pos h]
 ·rw [if_neg h,if_neg h]; rfl
def jY (row:List D) (off:Nat) (ds:List D) (size:Nat) (k:List D→Option β):Option β:=if ds.length = size ∧ off + size ≤ row.length then k (jR row off ds) else none
theorem P7 (c:D) (cs:List D) (off:Nat) (e:D) (ds:List D) (n:Nat) (k:List D→Option β):jY (c :: cs) (off + 1) (e :: ds) n k = jY cs off (e :: ds) n fun l=>k (c :: l):=by
 unfold jY
 simp only [List.length_cons,jR]
 by_cases h:ds.length + 1 = n ∧ off + n ≤ cs.length
 ·exact (if_pos (by omega)).trans (if_pos h).symm
 ·exact (if_neg (by omega)).trans (if_neg h).symm
theorem S1 (c:D) (cs:List D) (e:D) (ds:List D) (n:Nat) (k:List D→Option β):jY (c :: cs) 0 (e :: ds) (n + 1) k = jY cs 0 ds n fun l=>k (e :: l):=by
 unfold jY
 simp only [List.length_cons,jR]
 by_cases h:ds.length = n ∧ 0 + n ≤ cs.length
 ·exact (if_pos (by omega)).trans (if_pos h).symm
 ·exact (if_neg (by omega)).trans (if_neg h).symm
theorem S4 (cs:List D) (k:List D→Option β):jY cs 0 [] 0 k = k cs:=by
 unfold jY
 rw [if_pos ⟨rfl,by omega⟩,N7]
def xE (e:Nat) (rows:List (List D)) (i:Nat) (row:List D) (k:List (List D)→Option β):Option β:=k (rows.set i row)
theorem BV {α:Type} (e:Nat) (c:α→List D) (xs:List α) (i:Nat) (x:α) (k:List (List D)→Option β):xE e (cM c xs) i (c x) k = k (cM c (xs.set i x)):=by
 unfold xE
 rw [aJI]
theorem aG0 {α:Type} (size v i off id e sz:Nat) (w:V) (c:α→List D) (xs:List α):G8 size v i off id w bl (some (.rows v e sz (cM c xs))) kw = Q0 w bl fun ds f=>fzN id f (xs[i]?.bind fun x=>jY (c x) off ds size fun row=>xE e (cM c xs) i row fun rows=>kw .any ((id,some (.rows v e sz rows)) :: f)):=by
 unfold G8 Q0
 simp only [KU,if_true,cM,List.getElem?_map]
 cases xs[i]? with
 | none =>
  simp only [Option.map_none,Option.bind_none]
  cases bB (mG (lk bl none)) w.cells with
  | none=>rfl
  | some ds=>simp only [fzN]; split <;> rfl
 | some x =>
  simp only [Option.map_some,Option.bind_some]
  cases bB (mG (lk bl none)) w.cells with
  | none=>rfl
  | some ds =>
   simp only [jY,xE,fzN]
   by_cases h1:xF id (sZ (lk bl none) w) = true
   ·rw [if_pos h1]
    by_cases h2:ds.length = size ∧ off + size ≤ (c x).length
    ·rw [if_pos h2,if_pos ⟨h2.1,h2.2,h1⟩]; rfl
    ·rw [if_neg h2,if_neg (fun q=>h2 ⟨q.1,q.2.1⟩)]; rfl
   ·rw [if_neg h1,if_neg (fun q=>h1 q.2.2)]; rfl
end
end
section
variable {β:Type} {T:vT} {bl:List (Nat × Option aS)} {k:V→Option β} {kw:V→List (Nat × Option aS)→Option β}
section
variable {α:Type} (size id v:Nat) (c:α→List D) (xs:List α) (hs:sized size (cM c xs) = true)
include hs
end
end
end Vm
end Go.Proofs.Ytiimibimkpimbaa
set_option linter.unusedVariables false
set_option linter.unusedSimpArgs false
namespace Go.Proofs.Ytiimibimkpimbaa
namespace Vm
open Go.RowKit
section
variable {β:Type} {T:vT} {d:Nat} {fr:List (Nat × V)} {bl:List (Nat × Option aS)} {k:V→Option β} {kw:V→List (Nat × Option aS)→Option β}
def aBd:List dH→Nat→(dH→Option β)→Option β
 | [],_,_=>none
 | x :: _,0,g=>g x
 | _ :: l,n + 1,g=>aBd l n g
theorem aJj (x:dH) (l:List dH) (g:dH→Option β):aBd (x :: l) 0 g = g x:=rfl
theorem aJM (x:dH) (l:List dH) (n:Nat) (g:dH→Option β):aBd (x :: l) (n + 1) g = aBd l n g:=rfl
theorem YS (g:dH→Option β):∀ (l:List dH) (n:Nat),aBd l n g = l[n]?.bind g
 | [],_=>rfl
 | _ :: _,0=>rfl
 | _ :: l,n + 1=>YS g l n
def U2 (v:V) (g:Nat→Nat→Option β):Option β:=match v with
 | .own id ver=>g id ver
 | _=>none
theorem aKh (id ver:Nat) (g:Nat→Nat→Option β):U2 (.own id ver) g = g id ver:=rfl
def RR (v:V) (bl:List (Nat × Option aS)) (g:D→Option β):Option β:=(G6 (lk bl none) v).bind g
def UZ (ver:Nat) (b:Option aS) (g:D→Option β):Option β:=match b with
 | some (.rows v e size rows)=>if ver = v then g (.own (.ref 0) [(e,size)] [rows]) else none
 | _=>none
theorem aB7 (id ver:Nat) (g:D→Option β):RR (.own id ver) bl g = dG bl id fun b=>UZ ver b g:=by
 unfold RR dG UZ G6
 simp only
 cases lk bl none id with
 | none=>rfl
 | some b =>
  cases b with
  | rows v e size rows=>simp only; split <;> rfl
  | _=>rfl
theorem SH (v e s:Nat) (rows:List (List D)) (g:D→Option β):UZ v (some (.rows v e s rows)) g = g (.own (.ref 0) [(e,s)] [rows]):=if_pos rfl
def B8 (fr:List (Nat × V)) (bl:List (Nat × Option aS)) (t:Nat):Nat→List dH→(List D→List (Nat × Option aS)→Option β)→Option β
 | _,[],g=>g [] []
 | i,x :: l,g=>dV fr x fun v=>if i = t then RR v bl fun y=>B8 fr bl t (i + 1) l fun ds f=>g (y :: ds) f else yR v bl fun y f=>B8 fr bl t (i + 1) l fun ds f'=>g (y :: ds) (f ++ f')
theorem aB5 (t i:Nat) (g:List D→List (Nat × Option aS)→Option β):B8 fr bl t i [] g = g [] []:=rfl
theorem aAn (t i:Nat) (x:dH) (l:List dH) (g:List D→List (Nat × Option aS)→Option β) (h:(i == t) = true):B8 fr bl t i (x :: l) g = dV fr x fun v=>RR v bl fun y=>B8 fr bl t (i + 1) l fun ds f=>g (y :: ds) f:=by
 have:i = t:=by simpa using h
 simp only [B8,if_pos this]
theorem WR (t i:Nat) (x:dH) (l:List dH) (g:List D→List (Nat × Option aS)→Option β) (h:(i == t) = false):B8 fr bl t i (x :: l) g = dV fr x fun v=>yR v bl fun y f=>B8 fr bl t (i + 1) l fun ds f'=>g (y :: ds) (f ++ f'):=by
 have:¬ i = t:=by simpa using h
 simp only [B8,if_neg this]
theorem LS (t:Nat):∀ (l:List dH) (i:Nat) (g:List D→List (Nat × Option aS)→Option β),B8 fr bl t i l g = (AF (lk bl none) t i (l.map (cR (lk fr .any)))).bind fun ds=>g ds (rK (lk bl none) t i (l.map (cR (lk fr .any))))
 | [],i,g=>rfl
 | x :: l,i,g=>by
  simp only [B8,List.map_cons,AF,rK,dV]
  by_cases h:i = t
  ·simp only [if_pos h,RR,LS t l (i + 1)]
   cases G6 (lk bl none) (cR (lk fr .any) x) with
   | none=>rfl
   | some y =>
    cases AF (lk bl none) t (i + 1) (l.map (cR (lk fr .any))) with
    | none=>rfl
    | some ds=>simp
  ·simp only [if_neg h,yR,LS t l (i + 1)]
   cases jD (lk bl none) (cR (lk fr .any) x) with
   | none=>rfl
   | some y=>cases AF (lk bl none) t (i + 1) (l.map (cR (lk fr .any))) <;> rfl
noncomputable def GX (T:vT) (bl:List (Nat × Option aS)) (f id ver:Nat) (ds:List D) (kw:V→List (Nat × Option aS)→Option β):Option β:=match call T f ds with
 | some (.own y [(e,size)] [rows'])=>match lk bl none id with
  | some (.rows v e' size' _)=>if ver = v ∧ e = e' ∧ size = size' ∧ FM y = true ∧ o8 rows' = true then kw (toV y) [(id,some (.rows v e size rows'))] else none
  | _=>none
 | _=>none
theorem aE0 (f:Nat) (args:List dH) (t:Nat):uE T d (.lend f args t) fr bl k kw = aBd args t fun x=>dV fr x fun v=>U2 v fun id ver=>B8 fr bl t 0 args fun ds fz=>fzN id fz (GX T bl f id ver ds kw):=by
 rw [kU,YS]
 simp only [eG,List.getElem?_map]
 cases args[t]? with
 | none=>rfl
 | some x =>
  simp only [Option.map_some,Option.bind_some,dV]
  generalize cR (lk fr .any) x = v
  cases v with
  | own id ver =>
   simp only [U2,LS]
   cases AF (lk bl none) t 0 (args.map (cR (lk fr .any))) with
   | none=>rfl
   | some ds =>
    simp only [Option.bind_some,fzN]
    split
    ·unfold GX
     generalize call T f ds = r
     generalize lk bl none id = b
     split
     ·split
      ·split
       ·rename_i hq
        exact (if_pos hq).symm
       ·rename_i hq
        exact (if_neg hq).symm
      ·rename_i hq
       cases b with
       | none=>rfl
       | some b=>cases b <;> first | rfl | exact absurd rfl (hq _ _ _ _)
     ·rename_i hq
      split
      ·exact absurd rfl (hq _ _ _ _)
      ·rfl
    ·rfl
  | _=>rfl
def DH (ver e size:Nat) (rows' : List (List D)) (b:Option aS) (g:Option aS→Option β):Option β:=match b with
 | some (.rows v e' s' _)=>if ver = v ∧ e = e' ∧ size = s' then g (some (.rows v e size rows')) else none
 | _=>none
theorem TM (v e s:Nat) (rows rows' : List (List D)) (g:Option aS→Option β):DH v e s rows' (some (.rows v e s rows)) g = g (some (.rows v e s rows')):=if_pos ⟨rfl,rfl,rfl⟩
theorem zV {α:Type} {f e size:Nat} {ds:List D} {o:Option α} {y:α→D} {r:α→List (List D)} (h:call T f ds = o.map fun x=>.own (y x) [(e,size)] [r x]) (hy:∀ x,FM (y x) = true) (hr:∀ x,o8 (r x) = true) (id ver:Nat) :
  GX T bl f id ver ds kw = o.bind fun x=>dG bl id fun b=>DH ver e size (r x) b fun b'=>kw (toV (y x)) [(id,b')]:=by
 unfold GX
 rw [h]
 cases o with
 | none=>rfl
 | some x =>
  simp only [Option.map_some,Option.bind_some,dG,DH,hy x,hr x,and_true]
theorem pM {α:Type} (c:α→List D) (hc:∀ x,(c x).all B9 = true) (xs:List α):o8 (cM c xs) = true:=by
 unfold o8 cM
 rw [List.all_eq_true]
 intro row hr
 obtain ⟨x,_,rfl⟩:=List.mem_map.1 hr
 exact hc x
def aJh (res:List nG) (t:Nat):Ex→St→Option D
 | .normal,s=>u7 ⟨0,0,res,.skip,true,true⟩ s t
 | .ret,s=>u7 ⟨0,0,res,.skip,true,true⟩ s t
 | .exit _,_=>none
def T3 (ver:Nat) (b:Option aS) (g:Nat→Nat→List (List D)→Option D):Option D:=match b with
 | some (.rows v e size rows)=>if ver = v then g e size rows else none
 | _=>none
theorem W8 (v e s:Nat) (rows:List (List D)) (g:Nat→Nat→List (List D)→Option D):T3 v (some (.rows v e s rows)) g = g e s rows:=if_pos rfl
def QW (e s:Nat) (rows:List (List D)) (y:D):Option D:=if FM y = true then some (.own y [(e,s)] [rows]) else none
theorem aFc (e s:Nat) (rows:List (List D)):QW e s rows (.tup []) = some (.own (.tup []) [(e,s)] [rows]):=rfl
theorem YP (res:List nG) (t:Nat):u7 ⟨0,0,res,.skip,true,true⟩ ⟨fr,bl⟩ t = qK fr t fun v=>U2 v fun id ver=>dG bl id fun b=>T3 ver b fun e s rows=>(FK fr bl res JS).bind (QW e s rows):=by
 unfold u7 qK
 rw [FP]
 cases lk fr .any t with
 | own id ver =>
  simp only [U2,dG,T3]
  rw [FX]
  cases lk bl none id with
  | none=>rfl
  | some b =>
   cases b with
   | rows v e size rows =>
    simp only
    split
    ·rw [← ZH]
     cases bB (rN ⟨fr,bl⟩) res with
     | none=>rfl
     | some us =>
      cases us with
      | nil=>rfl
      | cons u us=>cases us with
       | nil=>simp only [FX]; cases jD (lk bl none) u <;> rfl
       | cons w us=>simp only [FX]; cases toD (lk bl none) (.tup (u :: w :: us)) <;> rfl
    ·rfl
   | _=>rfl
 | _=>rfl
theorem aJq (res:List nG) (t:Nat):aJh res t .normal ⟨fr,bl⟩ = qK fr t fun v=>U2 v fun id ver=>dG bl id fun b=>T3 ver b fun e s rows=>(FK fr bl res JS).bind (QW e s rows):=YP res t
theorem aJR (res:List nG) (t:Nat):aJh res t .ret ⟨fr,bl⟩ = qK fr t fun v=>U2 v fun id ver=>dG bl id fun b=>T3 ver b fun e s rows=>(FK fr bl res JS).bind (QW e s rows):=YP res t
theorem aHy:JS [] = some (.tup []):=rfl
theorem MR {T:vT} {f np nt t:Nat} {res:List nG} {body:aT} {fs:Bool} (hf:T f = some (.code ⟨np,nt,res,body,fs,true⟩)) (ds:List D) (hl:ds.length = np) (hlt:iF 0 ds = some t) (hnd:xM t body = true):Vm.call T f ds = dY T body (xI t ds) (aJh res t):=by
 rw [aAX hf ds hl hlt rfl hnd]
 unfold dY
 cases Vm.ev T body (xI t ds) with
 | none=>rfl
 | some q =>
  obtain ⟨e,s⟩:=q
  cases e <;> rfl
end
section
variable {β:Type} {T:vT}
theorem SX {c:aT} {n:Nat} {r:Ex × St}:∀ (k:Nat) (s:St),rS (b8 (iJ T n) n c) k s = some r→ev T (.loop c) s = some r
 | 0,s,e=>by cases e
 | k + 1,s,e=>by
  simp only [rS] at e
  cases hc:b8 (iJ T n) n c s with
  | none=>rw [hc] at e; cases e
  | some q =>
   have h1:=gZ.2 ⟨n,hc⟩
   rw [hc] at e
   rw [QF,h1]
   obtain ⟨ex,s'⟩:=q
   cases ex with
   | normal=>exact SX k s' e
   | exit id=>exact e
   | ret=>exact e
noncomputable def aIP (T:vT) (c:aT):Ex × St→Option (Ex × St)
 | (.normal,s)=>ev T (.loop c) s
 | q=>some q
theorem ZT {S X:Type} {step:S→Option (S ⊕ X)} {c:aT} (enc:S→St) (out:X→Ex × St) (h:∀ s,ev T c (enc s) = eE enc out (step s)) (s:S) :
  ev T (.loop c) (enc s) = (eU step s).bind fun x=>aIP T c (out x):=by
 refine qE fun r=>?_
 rw [Option.bind_eq_some_iff]
 constructor
 ·intro e
  obtain ⟨n,hn⟩:=gZ.1 e
  simp only [b8] at hn
  generalize hk:(n:Nat) = k at hn
  have key:∀ (k:Nat) (s:S),rS (b8 (iJ T n) n c) k (enc s) = some r→∃ x,xH step k s = some x ∧ aIP T c (out x) = some r:=by
   intro k
   induction k with
   | zero=>intro s e; cases e
   | succ k ih =>
    intro s e
    simp only [rS] at e
    cases hc:b8 (iJ T n) n c (enc s) with
    | none=>rw [hc] at e; cases e
    | some q =>
     have h1:=gZ.2 ⟨n,hc⟩
     rw [h s] at h1
     rw [hc] at e
     simp only [xH]
     cases hs:step s with
     | none=>rw [hs] at h1; cases h1
     | some y =>
      rw [hs] at h1
      cases y with
      | inl s' =>
       obtain rfl:=Option.some.inj h1
       exact ih s' e
      | inr x =>
       simp only [eE,Option.some.injEq] at h1
       refine ⟨x,rfl,?_⟩
       rw [h1]
       obtain ⟨ex,s'⟩:=q
       cases ex with
       | normal=>exact SX k s' e
       | exit id=>exact e
       | ret=>exact e
  subst hk
  obtain ⟨x,g1,g2⟩:=key n s hn
  exact ⟨x,xJ.2 ⟨n,g1⟩,g2⟩
 ·rintro ⟨x,h1,h2⟩
  obtain ⟨n,hn⟩:=xJ.1 h1
  clear h1
  induction n generalizing s with
  | zero=>cases hn
  | succ n ih =>
   simp only [xH] at hn
   rw [QF,h s]
   cases hs:step s with
   | none=>rw [hs] at hn; cases hn
   | some q =>
    rw [hs] at hn
    cases q with
    | inl s'=>exact ih s' hn
    | inr y =>
     obtain rfl:=Option.some.inj hn
     simp only [eE]
     cases ho:out y with
     | mk ex s' =>
      rw [ho] at h2
      cases ex with
      | normal=>exact h2
      | exit id=>exact h2
      | ret=>exact h2
noncomputable def aJu (T:vT) (c:aT) (k:Ex→St→Option β):Ex × St→Option β
 | (.normal,s)=>dY T (.loop c) s k
 | (e,s)=>k e s
theorem aA5 {S X:Type} {step:S→Option (S ⊕ X)} {c:aT} {k:Ex→St→Option β} (enc:S→St) (out:X→Ex × St)
  (h:∀ s,dY T c (enc s) (fun e s'=>some (e,s')) = eE enc out (step s)) (s:S) :
  dY T (.loop c) (enc s) k = (eU step s).bind fun x=>aJu T c k (out x):=by
 unfold dY
 rw [ZT enc out (fun s=>by
  have:=h s
  unfold dY at this
  rw [← this]
  cases ev T c (enc s) <;> rfl) s]
 cases eU step s with
 | none=>rfl
 | some x =>
  simp only [Option.bind_some]
  cases out x with
  | mk e s'=>cases e <;> rfl
end
section
variable {β:Type} {T:vT} {fr:List (Nat × V)} {bl:List (Nat × Option aS)}
def CS (fr:List (Nat × V)):List Nat→(List V→Option β)→Option β
 | [],k=>k []
 | t :: l,k=>qK fr t fun v=>CS fr l fun vs=>k (v :: vs)
theorem aAq (l:List Nat) (k:List V→Option β):CS fr l k = k (l.map (lk fr .any)):=by
 induction l generalizing k with
 | nil=>rfl
 | cons x l ih=>simp only [CS,qK,ih,List.map_cons]
theorem VS (k:List V→Option β):CS fr [] k = k []:=rfl
theorem TP (t:Nat) (l:List Nat) (k:List V→Option β):CS fr (t :: l) k = qK fr t fun v=>CS fr l fun vs=>k (v :: vs):=rfl
def aLb (args:List dH) (id:Nat) (slots:List Nat) (fr:List (Nat × V)) (bl:List (Nat × Option aS)) (k:List (Nat × V)→List (Nat × Option aS)→Option β):Option β :=
 dG bl id fun b=>iU b (CS fr slots fun cs=>GA fr args fun vs=>k (vA 0 vs) ((id,some (.outer cs)) :: bl))
def inK (args:List dH) (id:Nat) (slots:List Nat) (s:St) (k:List (Nat × V)→List (Nat × Option aS)→Option β):Option β:=aLb args id slots s.fr s.bl k
theorem aIR (args:List dH) (id:Nat) (slots:List Nat) (k:List (Nat × V)→List (Nat × Option aS)→Option β):inK args id slots ⟨fr,bl⟩ k = dG bl id fun b=>iU b (CS fr slots fun cs=>GA fr args fun vs=>k (vA 0 vs) ((id,some (.outer cs)) :: bl)):=rfl
theorem aAS (i:Nat):vA i [] = []:=rfl
theorem VZ (i:Nat) (v:V) (l:List V):vA i (v :: l) = (i,v) :: vA (i + 1) l:=rfl
theorem aG4 (args:List dH) (id:Nat) (slots:List Nat) (k:St→Option β):(PM args id slots ⟨fr,bl⟩).bind k = inK args id slots ⟨fr,bl⟩ fun fr' bl'=>k ⟨fr',bl'⟩:=by
 unfold PM inK aLb dG iU
 rw [aDn]
 cases hb:lk bl none id with
 | some b=>rfl
 | none =>
  simp only [Option.isNone_none,if_true,Option.bind_some,aAq,TE]
  rfl
def NI (fr:List (Nat × V)) (bl:List (Nat × Option aS)):List nG→(List V→Option β)→Option β
 | [],k=>k []
 | .tmp t :: r,k=>qK fr t fun v=>NI fr bl r fun l=>k (v :: l)
 | .cell t size isAgg :: r,k=>qK fr t fun p=>xA size isAgg p bl fun v=>NI fr bl r fun l=>k (v :: l)
theorem aFI (res:List nG):∀ (k:List V→Option β),NI fr bl res k = (bB (rN ⟨fr,bl⟩) res).bind k:=by
 induction res with
 | nil=>intro k; rfl
 | cons r res ih =>
  intro k
  cases r with
  | tmp t =>
   simp only [NI,qK,ih,bB,rN,FP]
   cases bB (rN ⟨fr,bl⟩) res <;> rfl
  | cell t size isAgg =>
   simp only [NI,qK,MJ,ih,bB,rN,C5,FP,FX]
   cases GB size isAgg (lk fr .any t) (lk bl none) with
   | none=>rfl
   | some q =>
    obtain ⟨v,wr⟩:=q
    simp only [Option.bind_some]
    cases bB (rN ⟨fr,bl⟩) res <;> rfl
theorem aCe (k:List V→Option β):NI fr bl [] k = k []:=rfl
theorem aJP (t:Nat) (r:List nG) (k:List V→Option β):NI fr bl (.tmp t :: r) k = qK fr t fun v=>NI fr bl r fun l=>k (v :: l):=rfl
def O0 (dst:Option Nat) (slots:List Nat) (cs vs:List V) (k:List (Nat × V)→Option β):Option β :=
 match vs with
 | [v]=>k (JW dst v ++ slots.zip cs)
 | vs=>if vs.all V.noTup = true then k (JW dst (.tup vs) ++ slots.zip cs) else none
theorem aAI (dst:Option Nat) (slots:List Nat) (cs:List V) (v:V) (k:List (Nat × V)→Option β):O0 dst slots cs [v] k = k (JW dst v ++ slots.zip cs):=rfl
theorem aBH (dst:Option Nat) (slots:List Nat) (cs:List V) (k:List (Nat × V)→Option β):O0 dst slots cs [] k = k (JW dst (.tup []) ++ slots.zip cs):=rfl
theorem M2 (dst:Option Nat) (slots:List Nat) (cs:List V) (v u:V) (l:List V) (k:List (Nat × V)→Option β):O0 dst slots cs (v :: u :: l) k = if (v :: u :: l).all V.noTup = true then k (JW dst (.tup (v :: u :: l)) ++ slots.zip cs) else none:=rfl
theorem aBw (d:Nat) (v:V) (l:List (Nat × V)):JW (some d) v ++ l = (d,v) :: l:=rfl
theorem aEZ:([]:List Nat).zip ([]:List V) = []:=rfl
theorem aAy (t:Nat) (v:V) (l:List Nat) (r:List V):(t :: l).zip (v :: r) = (t,v) :: l.zip r:=rfl
def P2 (b:Option aS) (k:List V→Option β):Option β:=match b with
 | some (.outer cs)=>k cs
 | _=>none
theorem aEC (cs:List V) (k:List V→Option β):P2 (some (.outer cs)) k = k cs:=rfl
def aDQ (dst:Option Nat) (res:List nG) (id:Nat) (slots:List Nat) (fr:List (Nat × V)) (bl:List (Nat × Option aS)) (k:List (Nat × V)→List (Nat × Option aS)→Option β):Option β :=
 dG bl id fun b=>P2 b fun cs=>NI fr bl res fun vs=>O0 dst slots cs vs fun fr'=>k fr' ((id,none) :: bl)
theorem aG6 (dst:Option Nat) (res:List nG) (id:Nat) (slots:List Nat) (k:List (Nat × V)→List (Nat × Option aS)→Option β):aDQ dst res id slots fr bl k = dG bl id fun b=>P2 b fun cs=>NI fr bl res fun vs=>O0 dst slots cs vs fun fr'=>k fr' ((id,none) :: bl):=rfl
theorem TO (dst:Option Nat) (res:List nG) (id:Nat) (slots:List Nat) (k:St→Option β):(pY dst res id slots ⟨fr,bl⟩).bind k = aDQ dst res id slots fr bl fun fr' bl'=>k ⟨fr',bl'⟩:=by
 unfold pY aDQ dG
 rw [aDn]
 cases hb:lk bl none id with
 | none=>cases bB (rN ⟨fr,bl⟩) res <;> rfl
 | some b =>
  cases b with
  | outer cs =>
   simp only [P2,aFI]
   cases bB (rN ⟨fr,bl⟩) res with
   | none=>rfl
   | some vs =>
    simp only [Option.bind_some]
    cases vs with
    | nil=>rfl
    | cons v vs=>cases vs with
     | nil=>rfl
     | cons u vs =>
      rw [M2]
      show (if (v :: u :: vs).all V.noTup = true then some _ else none).bind k = _
      split <;> rfl
  | _=>cases bB (rN ⟨fr,bl⟩) res <;> rfl
def QK (dst:Option Nat) (res:List nG) (id:Nat) (slots:List Nat) (k:Ex→St→Option β):Ex→St→Option β
 | .normal,s=>(pY dst res id slots s).bind fun s4=>k .normal s4
 | .ret,s=>(pY dst res id slots s).bind fun s4=>k .normal s4
 | .exit _,_=>none
theorem aFs (dst:Option Nat) (res:List nG) (id:Nat) (slots:List Nat) (k:Ex→St→Option β):QK dst res id slots k .normal ⟨fr,bl⟩ = aDQ dst res id slots fr bl fun fr' bl'=>k .normal ⟨fr',bl'⟩:=TO dst res id slots _
theorem aCh (dst:Option Nat) (res:List nG) (id:Nat) (slots:List Nat) (k:Ex→St→Option β):QK dst res id slots k .ret ⟨fr,bl⟩ = aDQ dst res id slots fr bl fun fr' bl'=>k .normal ⟨fr',bl'⟩:=TO dst res id slots _
theorem aHK {k:Ex→St→Option β} (ops:List bL) (args:List dH) (dst:Option Nat) (f:Nat) (body:aT) (res:List nG) (id:Nat) (slots:List Nat) :
  dY T (.inl ops args dst f body res id slots) ⟨fr,bl⟩ k = tB T ops ⟨fr,bl⟩ fun s1=>inK args id slots s1 fun fr' bl'=>dY T body ⟨fr',bl'⟩ (QK dst res id slots k):=by
 rw [aF5]
 congr 1
 funext s1
 refine Eq.trans ?_ (aG4 (fr:=s1.fr) (bl:=s1.bl) args id slots fun s=>dY T body s (QK dst res id slots k))
 congr 1
 funext s2
 congr 1
 funext ex s3
 cases ex <;> rfl
def FE (keep:List Nat) (bl:List (Nat × Option aS)):List V→(List V→Option β)→Option β
 | [],k=>k []
 | v :: cs,k=>wH keep bl v fun v'=>FE keep bl cs fun l=>k (v' :: l)
theorem aAF (keep:List Nat) (cs:List V):∀ (k:List V→Option β),FE keep bl cs k = k (cs.map (E8 keep (lk bl none))):=by
 induction cs with
 | nil=>intro k; rfl
 | cons v cs ih=>intro k; simp only [FE,wH,ih,List.map_cons]
theorem WX (keep:List Nat) (k:List V→Option β):FE keep bl [] k = k []:=rfl
theorem TS (keep:List Nat) (v:V) (cs:List V) (k:List V→Option β):FE keep bl (v :: cs) k = wH keep bl v fun v'=>FE keep bl cs fun l=>k (v' :: l):=rfl
theorem QN (keep:List Nat) (cs:List V) (k:Option aS→Option β):BA keep bl (some (.outer cs)) k = FE keep bl cs fun l=>k (some (.outer l)):=by rw [aAF]; rfl
end
section
variable {β:Type} {T:vT} {d:Nat} {fr:List (Nat × V)} {bl:List (Nat × Option aS)} {k:V→Option β} {kw:V→List (Nat × Option aS)→Option β}
noncomputable def vV (T:vT) (d:Nat) (bl:List (Nat × Option aS)) (f:Nat) (ds:List D) (k:V→Option β) (kw:V→List (Nat × Option aS)→Option β):Option β:=match call T f ds with
 | some (.own x es rs)=>if EB x rs = true then AR (oZ d (lk bl none) [] (.own x es rs)) k kw else none
 | _=>none
theorem aAH (f:Nat) (args:List dH):uE T d (.calln f args) fr bl k kw = I0 fr bl args fun ds _=>vV T d bl f ds k kw:=by
 rw [kU,R7]
 simp only [eG]
 cases bB (fun x=>jD (lk bl none) (cR (lk fr .any) x)) args with
 | none=>rfl
 | some ds =>
  simp only [Option.bind_some,vV]
  cases call T f ds with
  | none=>rfl
  | some y =>
   cases y with
   | own x es rs=>simp only; split <;> rfl
   | _=>rfl
theorem qJ {x:D} {rs:List (List (List D))} (h1:YJ x = true) (h2:rs.all o8 = true):EB x rs = true:=by simp only [EB,h1,h2,Bool.and_self]
theorem u6 {r:List (List D)} {rs:List (List (List D))} (h1:o8 r = true) (h2:rs.all o8 = true):(r :: rs).all o8 = true:=by simp only [List.all_cons,h1,h2,Bool.and_self]
theorem sQ {α:Type} {f:Nat} {ds:List D} {o:Option α} {y:α→D} {p:Nat × Nat} {es:List (Nat × Nat)} {r:α→List (List D)} {rs:α→List (List (List D))} (h:call T f ds = o.map fun x=>.own (y x) (p :: es) (r x :: rs x)) (hn:∀ x,EB (y x) (r x :: rs x) = true) :
  vV T d bl f ds k kw = o.bind fun x=>UN bl (gN d 0 (p :: es) (r x :: rs x)) (kw (thaw d (y x)) (gN d 0 (p :: es) (r x :: rs x))):=by
 unfold vV
 rw [h]
 cases o with
 | none=>rfl
 | some x =>
  simp only [Option.map_some,Option.bind_some,oZ,KN,hn x,if_true,List.append_nil]
  split
  ·obtain ⟨e,s⟩:=p; rfl
  ·rfl
end
end Vm
end Go.Proofs.Ytiimibimkpimbaa
set_option linter.unusedVariables false
set_option linter.unusedSimpArgs false
namespace Go.Proofs.Ytiimibimkpimbaa
namespace Vm
open Go.RowKit
section
variable {β:Type} {T:vT} {d:Nat} {fr:List (Nat × V)} {bl:List (Nat × Option aS)} {k:V→Option β} {kw:V→List (Nat × Option aS)→Option β}
end
end Vm
end Go.Proofs.Ytiimibimkpimbaa
